/- The sum of any texts is the page's: the walk of the statement's function. -/
import Derived.Test.YtinodflkkcdakaaSum2
import Derived.Test.YtinodflkkcdakaaOrder
namespace Go.Proofs.Ytinodflkkcdakaa
open Go.RowKit
set_option linter.unusedVariables false

theorem sumS_of (p : Nat × Nat) (h1 : p.1 < 4294967291) (h2 : p.2 < 4294967291) : sumS (sumN p) = p := by
  unfold sumS sumN
  obtain ⟨x, y⟩ := p
  simp only at *
  congr 1 <;> omega
theorem sumS_lt (n : Nat) : (sumS n).1 < 4294967291 ∧ (sumS n).2 < 4294967291 := ⟨Nat.mod_lt _ (by omega), Nat.mod_lt _ (by omega)⟩
theorem sumR_lt (n : Nat) (l : List UInt8) : sumN (sumF (sumS n).1 (sumS n).2 l) < 18446744073709551616 := by
  have h := sumF_lt l _ _ (sumS_lt n).1 (sumS_lt n).2
  exact sumN_lt _ h.1 h.2
theorem sumO_lt (l : List UInt8) : sumN (sumF 1 0 l) < 18446744073709551616 := sumR_lt 1 l
theorem rd_take {α : Type} {k : Kd α} {w : World} {xs : List α} {A : Option Addr} {n c : Nat} (h : Rd (kSl k) w xs (.slice A n c)) (m : Nat) (hm : m ≤ xs.length) : Rd (kSl k) w (xs.take m) (.slice A m c) := by
  obtain ⟨A', c', e, h1, h2, h3, hc⟩ := rd_sl.1 h
  injection e with e1 e2 e3
  subst e1; subst e3
  refine rd_sl.2 ⟨A, c, by rw [List.length_take, Nat.min_eq_left hm], by rw [List.length_take]; omega, h2, ?_, fun i x hx => ?_⟩
  · rw [List.length_take]
    exact Nat.le_trans (Nat.mul_le_mul_right _ (by omega)) h3
  · rw [List.getElem?_take] at hx
    split at hx
    · exact hc i x hx
    · cases hx
theorem size_append (a b : ByteArray) : (a ++ b).size = a.size + b.size := ByteArray.size_append
theorem bits_range (op : BinOp) (a b : Int) : 0 ≤ bits op .u64 a b ∧ bits op .u64 a b < 18446744073709551616 := by
  have : ∀ n : Int, 0 ≤ IntKind.u64.wrap n ∧ IntKind.u64.wrap n < 18446744073709551616 := fun n => by
    simp only [IntKind.wrap, IntKind.bits, IntKind.signed, Bool.false_and, Bool.false_eq_true, if_false]
    omega
  unfold bits
  exact this _

set_option maxHeartbeats 1000000 in
theorem sum_take (l : List Nat) (k : Nat) : (l.take k).sum ≤ l.sum := by
  have := congrArg List.sum (List.take_append_drop k l)
  rw [List.sum_append] at this
  omega
theorem cat_len (l : List ByteArray) : (cat l).length = (l.map (·.size)).sum := by
  induction l with
  | nil => rfl
  | cons a l ih =>
    simp only [cat, List.flatMap_cons, List.length_append, List.map_cons, List.sum_cons] at *
    rw [ih, Array.length_toList]
    rfl
theorem cat_size (l : List ByteArray) (hs : tot l ≤ 3000) (i : Nat) (hi : i < l.length) (s : ByteArray) (h : s.data.toList = cat (l.take i)) : s.size + l[i].size ≤ 3000 := by
  have h1 : s.size = ((l.take i).map (·.size)).sum := by rw [← cat_len, ← h, Array.length_toList]; rfl
  have h2 := tot_take l i hi
  have h3 := sum_take (l.map (·.size)) (i + 1)
  rw [← List.map_take] at h3
  unfold tot at hs
  omega
theorem rsum_val (y : Int) (s : ByteArray) (n : Int) (w : World) (h0 : 0 ≤ y) (hy : y < 18446744073709551616) (hs : s.size ≤ 140737488351232) (hv : (sumN (sumF (sumS y.toNat).1 (sumS y.toNat).2 s.data.toList) : Int) = n) :
    Calls Try.prog 10 #[.int .u64 y, .string s] w fun e w' => e = .returned (.int .u64 n) ∧ w = w' := hv ▸ rsum_ok y s w h0 hy (by unfold maxLen; omega)
theorem more_val (y : Int) (s : ByteArray) (n : Int) (w : World) (h0 : 0 ≤ y) (hy : y < 18446744073709551616) (hs : s.size ≤ 140737488351232) (hv : (sumN (sumF (sumS y.toNat).1 (sumS y.toNat).2 s.data.toList) : Int) = n) :
    Calls Try.prog 11 #[.int .u64 y, .string s] w fun e w' => e = .returned (.int .u64 n) ∧ Ext w w' := hv ▸ more_ok y s w h0 hy (by unfold maxLen; omega)
theorem more_of (a b : ByteArray) : sumN (sumF (sumS ((sumN (sumF 1 0 a.data.toList) : Nat) : Int).toNat).1 (sumS ((sumN (sumF 1 0 a.data.toList) : Nat) : Int).toNat).2 b.data.toList) = sumN (sumF 1 0 (a ++ b).data.toList) := by
  have h := sumF_lt a.data.toList 1 0 (by omega) (by omega)
  rw [Int.toNat_natCast, sumS_of _ h.1 h.2, ByteArray.data_append, Array.toList_append, sumF_append _ _ (1, 0)]
theorem cat_one (t : ByteArray) : cat [t] = t.data.toList := by simp [cat]
set_option maxHeartbeats 4000000 in
set_option maxRecDepth 100000 in
theorem sumOf_ok (l : List ByteArray) (v : Value) (w : World) (h : Rd (kSl kStr) w l v) :
    Calls Try.prog 4 #[.agg #[v]] w fun e w' => e = .returned (.bool true) ∧ Ext w w' := by
  have h' := h
  obtain ⟨A, c, rfl, hlc, hcm, _, _⟩ := rd_sl.1 h'
  have H := Lib.hid h
  have hm : l.length ≤ 9223372036854775807 := by omega
  clear h h' hcm
  go_enter Try.func4, Try.ntmps4
  go_wp2_with fail
  refine (heavy_ok l _ _ (H.out.ext ((Ext.refl w).alloc _))).mono ?_
  rintro e w1 ⟨b, rfl, hb, he⟩
  have HE := Lib.hid (((Ext.refl w).alloc _).trans he)
  have HB := Lib.hid hb
  have hblk := blk_new w (.cells #[.slice A l.length c] 24)
  have HG := Lib.hid (Ext.blk he hblk)
  clear hb he hblk
  cases b with
  | true =>
    go_wp2_with fail
    go_ret
    exact ⟨rfl, HE.out⟩
  | false =>
    have hs : Hid (tot l ≤ 3000) := HB.out rfl
    clear HB
    have c0 : w1.cell? ⟨w.heap.size, 0, none⟩ = some (.slice A l.length c) := (cell_of_row w1 _ 0 _ _ _ HG.out).trans rfl
    go_wp2_with fail
    have HG' := HG
    clear HG c0
    go_loopg [3, 4] l.length (fun n t i wr => ∃ (k : Nat) (s : ByteArray), k ≤ l.length ∧ i = .int .i64 k ∧ t = .string s ∧ w1.heap.size ≤ wr.heap.size ∧ Hid (n = l.length - k ∧ s.data.toList = cat (l.take k) ∧ wr.heap[w.heap.size]? = some (.cells #[.slice A l.length c] 24 (0, 0)) ∧ Ext w wr))
    case atStart => exact ⟨0, ⟨#[]⟩, Nat.zero_le _, rfl, rfl, Nat.le_refl _, Lib.hid ⟨rfl, rfl, HG'.out, HE.out⟩⟩
    case round =>
      obtain ⟨i, s, hi, rfl, rfl, hw1, HN⟩ := hrel
      have c0 : wr.cell? ⟨w.heap.size, 0, none⟩ = some (.slice A l.length c) := (cell_of_row wr _ 0 _ _ _ HN.out.2.2.1).trans rfl
      by_cases hlt : i < l.length
      · obtain ⟨_, ad, cs, rfl, ⟨rfl, hz⟩, hcs⟩ := rd_get (H.out.ext HN.out.2.2.2) i hlt
        have hc := hcs 0 _ rfl
        simp only [kStr, Nat.mul_one, Nat.add_zero] at hc
        have HC := Lib.hid hc
        clear hcs hz
        by_cases h6 : i < 6
        · have hsz : s.size + l[i].size ≤ 3000 := cat_size l hs.out i hlt s HN.out.2.1
          have ht : Hid ((s ++ l[i]).data.toList = cat (l.take (i + 1)) ∧ (s ++ l[i]).size ≤ 3000 ∧ l[i].size ≤ 3000) := by
            refine ⟨?_, by rw [size_append]; exact hsz, by omega⟩
            rw [cat_take l i hlt, ← HN.out.2.1, ByteArray.data_append, Array.toList_append]
          go_wp2_with fail
          clear hsz hc c0
          generalize s ++ l[i] = t at *
          generalize hN : ((sumN (sumF 1 0 t.data.toList) : Nat) : Int) = N at *
          have HNN := Lib.hid hN
          clear hN
          refine (of_val (l.take (i + 1)) N _ _ (rd_take (H.out.ext HN.out.2.2.2) (i + 1) (by omega)) (by rw [← ht.out.1]; exact HNN.out)).mono ?_
          rintro e w2 ⟨rfl, he⟩
          have HE2 := Lib.hid he
          clear he
          go_wp2_with fail
          refine (rsum_val 1 t N _ (by omega) (by omega) (by have := ht.out; omega) HNN.out).mono ?_
          rintro e w3 ⟨rfl, rfl⟩
          go_wp2_with fail
          refine (of_val [t] N _ _ (rd_strs w2 9 [t] (by have := ht.out; simp; omega) (by simp)) (by rw [cat_one]; exact HNN.out)).mono ?_
          rintro e w4 ⟨rfl, he⟩
          have HE4 := Lib.hid ((HE2.out.alloc _).trans he)
          clear he HE2
          have h0 : w.heap.size < w4.heap.size := by have := HE4.out.size; have := blk_lt HN.out.2.2.1; omega
          go_wp2_with fail
          refine (rsum_val 1 t N _ (by omega) (by omega) (by have := ht.out; omega) HNN.out).mono ?_
          rintro e w5 ⟨rfl, rfl⟩
          have c0 : w4.cell? ⟨w.heap.size, 0, none⟩ = some (.slice (some ad) l.length c) := (cell_of_row w4 _ 0 _ _ _ (HE4.out.blk HN.out.2.2.1)).trans rfl
          have hc := HE4.out.cell HC.out
          go_wp2_with fail
          obtain ⟨O, hO⟩ : ∃ O, O = sumN (sumF 1 0 l[i].data.toList) := ⟨_, rfl⟩
          have HO := Lib.hid hO
          clear hO
          have hX0 := bits_range .or ((i : Int) * 1099511627776) 1
          generalize bits .or .u64 ((i : Int) * 1099511627776) 1 = X0 at *
          refine (rsum_ok X0 l[i] _ hX0.1 hX0.2 (by have := ht.out; unfold maxLen; omega)).mono ?_
          rintro e w6 ⟨rfl, rfl⟩
          have hX : Hid (∀ X : Int, X = ((sumN (sumF (sumS X0.toNat).1 (sumS X0.toNat).2 l[i].data.toList) : Nat) : Int) → 0 ≤ X ∧ X < 18446744073709551616) := by
            intro X e; have := sumR_lt X0.toNat l[i].data.toList; omega
          generalize hXX : ((sumN (sumF (sumS X0.toNat).1 (sumS X0.toNat).2 l[i].data.toList) : Nat) : Int) = X at *
          have HX : Hid (0 ≤ X ∧ X < 18446744073709551616) := hX.out X rfl
          clear hX hXX hX0
          go_wp2_with fail
          have hts : ¬ 9223372036854775807 < l[i].size + t.size := by have := ht.out; omega
          refine region_walk [0, 1, 3, 4, 2, 5, 6, 7, 8, 9, 10, 12, 13, 14, 11, 15, 16, 17, 18, 19, 20, 21, 22, 23, 26, 28, 29, 30, 31, 32, 33, 34, 24, 25, 27, 35, 36, 37] [2, 5, 11, 15, 24, 25, 27, 35] [] (by kernel_rfl) (by kernel_rfl) ?_
          repeat (refine walk_float rfl rfl (fun K hK => ?_); go_simp; refine hK _ ?_; clear hK K)
          refine walk_forced rfl rfl (fun K hK => ?_)
          go_simp
          refine (more_ok X t _ HX.out.1 HX.out.2 (by have := ht.out; unfold maxLen; omega)).mono ?_
          rintro e w7 ⟨rfl, he⟩
          refine hK _ _ (fun _ => he) ?_
          clear hK K
          have HE7 := Lib.hid ((HE4.out.drew).trans he)
          have h7 : w4.heap.size ≤ w7.heap.size := by have := he.size; simpa using this
          have c7 := Ext.cell he (show w4.drew.cell? _ = _ from c0)
          have d7 := Ext.cell he (show w4.drew.cell? _ = _ from hc)
          clear he c0 hc
          repeat (refine walk_float rfl rfl (fun K hK => ?_); go_simp; refine hK _ ?_; clear hK K)
          refine walk_forced rfl rfl (fun K hK => ?_)
          go_simp
          refine (rsum_ok X t _ HX.out.1 HX.out.2 (by have := ht.out; unfold maxLen; omega)).mono ?_
          rintro e w8 ⟨rfl, rfl⟩
          refine hK _ _ (fun _ => Ext.refl _) ?_
          clear hK K
          repeat (refine walk_float rfl rfl (fun K hK => ?_); go_simp; refine hK _ ?_; clear hK K)
          refine walk_forced rfl rfl (fun K hK => ?_)
          go_simp
          have hY := bits_range .xor (if IntKind.u64.signed = true then -1 else IntKind.u64.max) X
          generalize bits .xor .u64 (if IntKind.u64.signed = true then -1 else IntKind.u64.max) X = Y at *
          have HY := Lib.hid hY
          clear hY
          refine (more_ok Y t _ HY.out.1 HY.out.2 (by have := ht.out; unfold maxLen; omega)).mono ?_
          rintro e w9 ⟨rfl, he⟩
          refine hK _ _ (fun _ => he) ?_
          clear hK K
          have HE9 := Lib.hid (HE7.out.trans he)
          have h9 : w4.heap.size ≤ w9.heap.size := by have := he.size; omega
          have c9 := Ext.cell he c7
          have d9 := Ext.cell he d7
          clear he c7 d7
          repeat (refine walk_float rfl rfl (fun K hK => ?_); go_simp; refine hK _ ?_; clear hK K)
          refine walk_forced rfl rfl (fun K hK => ?_)
          go_simp
          refine (rsum_ok Y t _ HY.out.1 HY.out.2 (by have := ht.out; unfold maxLen; omega)).mono ?_
          rintro e w10 ⟨rfl, rfl⟩
          refine hK _ _ (fun _ => Ext.refl _) ?_
          clear hK K
          repeat (refine walk_float rfl rfl (fun K hK => ?_); go_simp; refine hK _ ?_; clear hK K)
          refine walk_forced rfl rfl (fun K hK => ?_)
          go_simp
          refine hK _ _ (fun _ => (Ext.refl _).alloc _) ?_
          clear hK K
          repeat (refine walk_float rfl rfl (fun K hK => ?_); go_simp; refine hK _ ?_; clear hK K)
          refine walk_forced rfl rfl (fun K hK => ?_)
          go_simp
          refine (of_val [l[i]] O _ _ (rd_strs w9 9 [l[i]] (by have := ht.out; simp; omega) (by simp)) (by rw [cat_one, HO.out])).mono ?_
          rintro e w11 ⟨rfl, he⟩
          refine hK _ _ (fun _ => he) ?_
          clear hK K
          have HE11 := Lib.hid ((HE9.out.alloc _).trans he)
          clear he c9 d9
          repeat (refine walk_float rfl rfl (fun K hK => ?_); go_simp; refine hK _ ?_; clear hK K)
          refine walk_forced rfl rfl (fun K hK => ?_)
          go_simp
          obtain ⟨M3, hM3⟩ : ∃ M : Int, M = (sumN (sumF 1 0 (l[i] ++ t).data.toList) : Nat) := ⟨_, rfl⟩
          have HM := Lib.hid hM3
          clear hM3
          refine (more_val O t M3 _ (by omega) (by have := sumO_lt l[i].data.toList; rw [← HO.out] at this; omega) (by have := ht.out; omega) (by rw [HO.out, HM.out, more_of])).mono ?_
          rintro e w12 ⟨rfl, he⟩
          refine hK _ _ (fun _ => he) ?_
          clear hK K
          have HE12 := Lib.hid (HE11.out.trans he)
          clear he
          repeat (refine walk_float rfl rfl (fun K hK => ?_); go_simp; refine hK _ ?_; clear hK K)
          refine walk_forced rfl rfl (fun K hK => ?_)
          go_simp
          refine (rsum_val 1 _ M3 _ (by omega) (by omega) (by rw [size_append]; have := ht.out; omega) (by rw [HM.out]; rfl)).mono ?_
          rintro e w13 ⟨rfl, rfl⟩
          refine hK _ _ (fun _ => Ext.refl _) ?_
          clear hK K
          repeat (refine walk_float rfl rfl (fun K hK => ?_); go_simp; refine hK _ ?_; clear hK K)
          refine walk_end ?_
          go_wp2_with fail
          go_roundg (l.length - (i + 1))
          case measure => have := HN.out; omega
          case rel => exact ⟨i + 1, t, by omega, by go_num, rfl, by have := HE12.out.size; omega, Lib.hid ⟨rfl, ht.out.1, HE12.out.blk HN.out.2.2.1, HN.out.2.2.2.trans HE12.out⟩⟩
        · go_wp2_with fail
          refine (wakes_ok _).mono ?_
          rintro e w2 ⟨rfl, he⟩
          have HE2 := Lib.hid (HN.out.2.2.2.trans he)
          clear he
          go_wp2_with fail
          go_ret
          exact ⟨rfl, HE2.out⟩
      · go_wp2_with fail
        refine (wakes_ok _).mono ?_
        rintro e w2 ⟨rfl, he⟩
        have HE2 := Lib.hid (HN.out.2.2.2.trans he)
        clear he
        go_wp2_with fail
        go_ret
        exact ⟨rfl, HE2.out⟩
end Go.Proofs.Ytinodflkkcdakaa
