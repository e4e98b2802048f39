/- Layer 17's sum: what each function of it computes, further. -/
import Derived.Test.YtinodflkkcdakaaSum
namespace Go.Proofs.Ytinodflkkcdakaa
open Go.RowKit
set_option linter.unusedVariables false

/-- The sum of two halves. -/
def sumW (p : Nat × Nat) : Int := bits .or .u64 (p.2 * 4294967296) p.1
theorem sumW_eq (p : Nat × Nat) (h1 : p.1 < 4294967291) (h2 : p.2 < 4294967291) : sumW p = p.2 * 4294967296 + p.1 :=
  bits_join .u64 64 (by decide) (fun n h0 h1 => wrap_u64 n h0 (by omega)) 32 _ _ (by omega) (by omega) (by omega) (by omega) (by omega) (by omega)

/-- .. as a number. -/
def sumN (p : Nat × Nat) : Nat := p.2 * 4294967296 + p.1
theorem sumW_nat (p : Nat × Nat) (h1 : p.1 < 4294967291) (h2 : p.2 < 4294967291) : sumW p = (sumN p : Nat) := by rw [sumW_eq p h1 h2]; unfold sumN; omega
theorem sumN_lt (p : Nat × Nat) (h1 : p.1 < 4294967291) (h2 : p.2 < 4294967291) : sumN p < 18446744073709551616 := by unfold sumN; omega
set_option maxHeartbeats 400000 in
theorem whole_ok (g : Nat) (p : Nat × Nat) (w : World) (h : IsRun w g p) :
    Calls Try.prog 14 #[.pointer (some ⟨g, 0, none⟩)] w fun e w' => e = .returned (.int .u64 (sumN p : Nat)) ∧ Ext w w' := by
  rw [← sumW_nat p h.2.1 h.2.2]
  obtain ⟨hc, ha, hb⟩ := h
  have c0 := (cell_of_row w g 0 _ _ _ hc).trans rfl
  have c1 := (cell_of_row w g 1 _ _ _ hc).trans rfl
  clear hc
  go_enter Try.func14, Try.ntmps14
  go_wp2
  go_quiet (fail)
  go_wp2
  go_ret
  exact ⟨rfl, (Ext.refl w).drewN _⟩

def tot (l : List ByteArray) : Nat := l.length + (l.map (·.size)).sum
theorem tot_take (l : List ByteArray) (k : Nat) (h : k < l.length) : ((l.take (k + 1)).map (·.size)).sum = ((l.take k).map (·.size)).sum + l[k].size := by
  rw [List.take_succ_eq_append_getElem h, List.map_append, List.sum_append]; simp
set_option maxHeartbeats 400000 in
theorem texts_ok (l : List ByteArray) (v : Value) (w : World) (h : Rd (kSl kStr) w l v):
    Calls Try.prog 12 #[v] w fun e w' => ∃ r : Int, e = .returned (.int .i64 r) ∧ (r ≤ 3000 → (tot l : Int) = r) ∧ w = w' := by
  obtain ⟨A, c, rfl, _, _, hn, _⟩ := rd_sl.1 h
  have HM : Hid (l.length ≤ 140737488351232) := by simp only [kStr] at hn; show _ ≤ _; omega
  clear hn
  go_enter Try.func12, Try.ntmps12
  go_wp2
  go_loopg [3, 4] l.length (fun n t i wr => ∃ (k : Nat) (x : Int), k ≤ l.length ∧ i = .int .i64 k ∧ t = .int .i64 x ∧ w = wr ∧ Hid (n = l.length - k ∧ x = ((l.length + ((l.take k).map (·.size)).sum : Nat) : Int)))
  case atStart => exact ⟨0, _, Nat.zero_le _, rfl, rfl, rfl, Lib.hid ⟨rfl, by simp⟩⟩
  case round =>
    obtain ⟨k, x, hk, rfl, rfl, rfl, HN⟩ := hrel
    by_cases hlt : k < l.length
    · obtain ⟨_, ad, cs, rfl, ⟨rfl, hz⟩, hcs⟩ := rd_get h k hlt
      have hc := hcs 0 _ rfl
      simp only [kStr, Nat.mul_one, Nat.add_zero] at hc
      have HZ := Lib.hid hz
      have HH := Lib.hid h
      clear hcs hz h
      by_cases hx : x < 1048576
      · have HX := Lib.hid hx
        go_wp2
        have HW : wrap64 (x + l[k].size) = x + l[k].size := by
          obtain ⟨e1, e2⟩ := HN.out
          have := HX.out; have := HZ.out
          exact wrap_i64 _ (by omega) (by omega)
        rw [HW]
        go_roundg (l.length - (k + 1))
        case measure => have := HN.out; omega
        case rel => exact ⟨k + 1, _, by omega, by go_num, rfl, rfl, Lib.hid ⟨rfl, by rw [tot_take l k hlt]; have := HN.out.2; omega⟩⟩
      · go_wp2
        go_ret
        exact ⟨x, rfl, fun h => by omega, rfl⟩
    · go_wp2
      go_ret
      refine ⟨x, rfl, fun _ => ?_, rfl⟩
      have := HN.out.2
      rw [List.take_of_length_le (by omega)] at this
      unfold tot; omega
set_option maxHeartbeats 400000 in
theorem heavy_ok (l : List ByteArray) (v : Value) (w : World) (h : Rd (kSl kStr) w l v) :
    Calls Try.prog 6 #[.agg #[v]] w fun e w' => ∃ b, e = .returned (.bool b) ∧ (b = false → tot l ≤ 3000) ∧ Ext w w' := by
  have h' := h
  obtain ⟨A, c, rfl, _⟩ := rd_sl.1 h'
  have H := Lib.hid h
  clear h h'
  go_enter Try.func6, Try.ntmps6
  go_wp2_with (go_at_call 12; refine (texts_ok l _ _ (H.out.ext ((Ext.refl w).alloc _))).mono ?_; rintro e w' ⟨r, rfl, hr, rfl⟩; have HR := Lib.hid hr; clear hr)
  go_ret
  exact ⟨_, rfl, fun h => by have := HR.out; simp at h; omega, (Ext.refl w).alloc _⟩

/-- The bytes of texts, one behind the other. -/
def cat (l : List ByteArray) : List UInt8 := l.flatMap (·.data.toList)
theorem sumF_append : ∀ (l m : List UInt8) (p : Nat × Nat), sumF p.1 p.2 (l ++ m) = sumF (sumF p.1 p.2 l).1 (sumF p.1 p.2 l).2 m
  | [], m, p => rfl
  | c :: l, m, p => by simp only [List.cons_append, sumF]; exact sumF_append l m (_, _)
theorem cat_take (l : List ByteArray) (k : Nat) (h : k < l.length) : cat (l.take (k + 1)) = cat (l.take k) ++ l[k].data.toList := by
  unfold cat; rw [List.take_succ_eq_append_getElem h, List.flatMap_append]; simp
theorem But.toExt {g : Nat} {w w1 w2 : World} (h : Ext w w1) (hg : w.heap.size ≤ g) (b : But g w1 w2) : Ext w w2 :=
  Below.trans h ⟨b.os, b.tape, b.output, Nat.le_of_eq b.size.symm, fun k hk => b.block k (by omega)⟩
theorem isrun_new (w : World) (x y : Nat) (hx : x < 4294967291) (hy : y < 4294967291) : IsRun (w.alloc (.cells #[.int .u64 x, .int .u64 y] 35)) w.heap.size (x, y) := ⟨blk_new w _, hx, hy⟩
set_option maxHeartbeats 400000 in
theorem of_ok (l : List ByteArray) (v : Value) (w : World) (h : Rd (kSl kStr) w l v) :
    Calls Try.prog 7 #[v] w fun e w' => e = .returned (.int .u64 (sumN (sumF 1 0 (cat l)) : Nat)) ∧ Ext w w' := by
  have h' := h
  obtain ⟨A, c, rfl, hlc, hcm, _, _⟩ := rd_sl.1 h'
  have H := Lib.hid h
  have hm : l.length ≤ 9223372036854775807 := by omega
  clear h h' hlc hcm
  go_enter Try.func7, Try.ntmps7
  go_wp2
  go_loopg [9] l.length (fun n i wr => ∃ (k : Nat), k ≤ l.length ∧ i = .int .i64 k ∧ IsRun wr w.heap.size (sumF 1 0 (cat (l.take k))) ∧ Ext w wr ∧ Hid (n = l.length - k))
  case atStart => exact ⟨0, Nat.zero_le _, rfl, isrun_new w 1 0 (by omega) (by omega), (Ext.refl w).alloc _, Lib.hid rfl⟩
  case round =>
    obtain ⟨k, hk, rfl, hr, hE, HN⟩ := hrel
    have HR := Lib.hid hr
    have HE := Lib.hid hE
    have hsz : w.heap.size < wr.heap.size := blk_lt hr.1
    clear hr hE
    by_cases hlt : k < l.length
    · obtain ⟨_, ad, cs, rfl, ⟨rfl, hz⟩, hcs⟩ := rd_get (H.out.ext HE.out) k hlt
      have hc := hcs 0 _ rfl
      simp only [kStr, Nat.mul_one, Nat.add_zero] at hc
      have HZ := Lib.hid hz
      clear hcs hz
      go_wp2_with (go_at_call 13; refine (add_ok _ _ _ _ HR.out (by have := HZ.out; unfold maxLen; omega)).mono ?_; rintro e w1 ⟨rfl, hr1, hb1⟩; have HR1 := Lib.hid hr1; have HB1 := Lib.hid hb1; clear hr1 hb1)
      go_roundg (l.length - (k + 1))
      case measure => have := HN.out; omega
      case rel =>
        refine ⟨k + 1, by omega, by go_num, ?_, HB1.out.toExt HE.out (Nat.le_refl _), Lib.hid rfl⟩
        rw [cat_take l k hlt, sumF_append _ _ (1, 0)]
        exact HR1.out
    · have e : l.take k = l := List.take_of_length_le (by omega)
      have HR2 : Hid (IsRun wr w.heap.size (sumF 1 0 (cat l))) := by have := HR.out; rw [e] at this; exact this
      clear HR e
      go_wp2_with (go_at_call 14; refine (whole_ok _ _ _ HR2.out).mono ?_; rintro e w1 ⟨rfl, hb1⟩; have HB1 := Lib.hid hb1; clear hb1)
      go_ret
      exact ⟨rfl, HE.out.trans HB1.out⟩
theorem and_low (x : Nat) (hx : x < 18446744073709551616) : bits .and .u64 (x : Int) 4294967295 = ((x % 4294967296 : Nat) : Int) := by
  have := u64_and_nat x 4294967295 hx (by omega)
  rw [Nat.and_two_pow_sub_one_eq_mod x 32] at this
  exact this
/-- The halves that a sum begins with. -/
def sumS (x : Nat) : Nat × Nat := (x % 4294967296 % 4294967291, x / 4294967296 % 4294967291)
set_option maxHeartbeats 400000 in
theorem more_ok (y : Int) (s : ByteArray) (w : World) (h0 : 0 ≤ y) (hy : y < 18446744073709551616) (hs : s.size ≤ maxLen) :
    Calls Try.prog 11 #[.int .u64 y, .string s] w fun e w' => e = .returned (.int .u64 (sumN (sumF (sumS y.toNat).1 (sumS y.toNat).2 s.data.toList) : Nat)) ∧ Ext w w' := by
  obtain ⟨x, rfl⟩ := Int.eq_ofNat_of_zero_le h0
  have hx : x < 18446744073709551616 := by omega
  rw [Int.toNat_natCast]
  clear hy h0
  have hand := and_low x hx
  have HX := Lib.hid hx
  have HS := Lib.hid hs
  clear hx hs
  go_enter Try.func11, Try.ntmps11
  go_wp2_with fail
  have HR := Lib.hid (isrun_new w (sumS x).1 (sumS x).2 (Nat.mod_lt _ (by omega)) (Nat.mod_lt _ (by omega)))
  refine (add_ok _ _ _ _ HR.out HS.out).mono ?_
  rintro e w1 ⟨rfl, hr1, hb1⟩
  have HE1 := Lib.hid (hb1.toExt ((Ext.refl w).alloc _) (Nat.le_refl _))
  have HR1 := Lib.hid hr1
  clear hr1 hb1
  go_wp2_with (go_at_call 14; refine (whole_ok _ _ _ HR1.out).mono ?_; rintro e w1 ⟨rfl, hb1⟩; have HB1 := Lib.hid hb1; clear hb1)
  go_ret
  exact ⟨rfl, HE1.out.trans HB1.out⟩
set_option maxHeartbeats 400000 in
theorem rsum_ok (y : Int) (s : ByteArray) (w : World) (h0 : 0 ≤ y) (hy : y < 18446744073709551616) (hs : s.size ≤ maxLen) :
    Calls Try.prog 10 #[.int .u64 y, .string s] w fun e w' => e = .returned (.int .u64 (sumN (sumF (sumS y.toNat).1 (sumS y.toNat).2 s.data.toList) : Nat)) ∧ w = w' := by
  obtain ⟨x, rfl⟩ := Int.eq_ofNat_of_zero_le h0
  have hx : x < 18446744073709551616 := by omega
  rw [Int.toNat_natCast]
  clear hy h0
  have hand := and_low x hx
  have HX := Lib.hid hx
  unfold maxLen at hs
  clear hx
  go_enter Try.func10, Try.ntmps10
  go_wp2
  go_loopg [5, 6, 7] s.size (fun n a b i wr => ∃ (k x5 x6 : Nat), k ≤ s.size ∧ i = .int .i64 k ∧ a = .int .u64 x5 ∧ b = .int .u64 x6 ∧ w = wr ∧ Hid (n = s.size - k ∧ (x5, x6) = sumF (sumS x).1 (sumS x).2 (s.data.toList.take k) ∧ x5 < 4294967291 ∧ x6 < 4294967291))
  case atStart => exact ⟨0, _, _, Nat.zero_le _, rfl, rfl, rfl, rfl, Lib.hid ⟨rfl, rfl, Nat.mod_lt _ (by omega), Nat.mod_lt _ (by omega)⟩⟩
  case round =>
    obtain ⟨k, x5, x6, hk, rfl, rfl, rfl, rfl, HN⟩ := hrel
    by_cases hlt : k < s.size
    · have HA := Lib.hid (sumA_eq x5 s[k] HN.out.2.2.1)
      have HB := Lib.hid (sumB_eq x6 (sumA x5 s[k].toNat) HN.out.2.2.2 (sumA_lt _ _))
      have h5 := HN.out.2.2.1
      have h6 := HN.out.2.2.2
      clear hand
      go_wp2
      rw [HA.out, HB.out]
      go_roundg (s.size - (k + 1))
      case measure => have := HN.out; omega
      case rel =>
        refine ⟨k + 1, _, _, by omega, by go_num, rfl, rfl, rfl, Lib.hid ⟨rfl, ?_, sumA_lt _ _, sumB_lt _ _⟩⟩
        rw [take_snoc s k hlt, sumF_snoc, ← HN.out.2.1]
    · have e : s.data.toList.take k = s.data.toList := List.take_of_length_le (by rw [Array.length_toList]; show s.size ≤ k; omega)
      have HR2 : Hid ((x5, x6) = sumF (sumS x).1 (sumS x).2 s.data.toList) := by have := HN.out.2.1; rw [e] at this; exact this
      have h5 := HN.out.2.2.1
      have h6 := HN.out.2.2.2
      clear HN e hand
      go_wp2
      go_ret
      refine ⟨?_, rfl⟩
      rw [← HR2.out, ← sumW_nat _ h5 h6]
      rfl
set_option maxHeartbeats 400000 in
theorem within_ok (i n : Int) (w : World) (hi : 0 ≤ i) (hi2 : i ≤ 9223372036854775807) (hn : 0 < n) (hn2 : n ≤ 9223372036854775807) :
    Calls Try.prog 8 #[.int .i64 i, .int .i64 n] w fun e w' => e = .returned (.int .i64 (i % n)) ∧ w = w' := by
  go_enter Try.func8, Try.ntmps8
  go_wp2
  go_ret
  have := Int.emod_nonneg i (show n ≠ 0 by omega)
  have := Int.emod_lt_of_pos i hn
  exact ⟨congrArg (fun z => Ending.returned (.int .i64 z)) (wrap_i64 _ (by omega) (by omega)), rfl⟩
theorem of_val (l : List ByteArray) (n : Int) (v : Value) (w : World) (h : Rd (kSl kStr) w l v) (hv : (sumN (sumF 1 0 (cat l)) : Int) = n) :
    Calls Try.prog 7 #[v] w fun e w' => e = .returned (.int .u64 n) ∧ Ext w w' := hv ▸ of_ok l v w h
theorem sum_none : (sumN (sumF 1 0 (cat [])) : Int) = 1 := by decide
theorem sum_a : (sumN (sumF 1 0 (cat [⟨#[97]⟩])) : Int) = 1520418423138 := by decide
theorem sum_a2 : (sumN (sumF 1 0 (cat [⟨#[97]⟩, ⟨#[]⟩])) : Int) = 1520418423138 := by decide
set_option maxHeartbeats 400000 in
theorem wakes_ok (w : World) : Calls Try.prog 9 #[] w fun e w' => e = .returned (.bool true) ∧ Ext w w' := by
  go_enter Try.func9, Try.ntmps9
  go_wp2_with fail
  refine (of_val [] 1 _ _ (rd_sl.2 ⟨none, 0, rfl, by decide, by decide, by decide, fun i x h => by simp at h⟩) sum_none).mono ?_
  rintro e w1 ⟨rfl, he⟩
  have HE1 := Lib.hid he
  clear he
  go_wp2_with fail
  refine (of_val _ _ _ _ (rd_strs w1 9 [⟨#[97]⟩, ⟨#[]⟩] (by decide) (by decide)) sum_a2).mono ?_
  rintro e w2 ⟨rfl, he⟩
  have HE2 := Lib.hid ((HE1.out.alloc _).trans he)
  clear he
  go_wp2_with fail
  refine (of_val _ _ _ _ (rd_strs w2 9 [⟨#[97]⟩] (by decide) (by decide)) sum_a).mono ?_
  rintro e w3 ⟨rfl, he⟩
  have HE3 := Lib.hid ((HE2.out.alloc _).trans he)
  clear he
  go_wp2_with fail
  refine (of_val _ _ _ _ (rd_strs w3 9 [⟨#[97]⟩] (by decide) (by decide)) sum_a).mono ?_
  rintro e w4 ⟨rfl, he⟩
  have HE4 := Lib.hid ((HE3.out.alloc _).trans he)
  clear he
  go_wp2_with fail
  go_ret
  exact ⟨rfl, HE4.out⟩
end Go.Proofs.Ytinodflkkcdakaa
