/- With one byte another one a text's sum is another one: the walk of the statement's function. -/
import Derived.Test.YtinodflkkcdakaaSum2
namespace Go.Proofs.Ytinodflkkcdakaa
open Go.RowKit
set_option linter.unusedVariables false

theorem sumA_inj (x y c : Nat) (hx : x < 4294967291) (hy : y < 4294967291) (h : sumA x c = sumA y c) : x = y := by
  unfold sumA at h; omega
theorem sumA_byte (x c d : Nat) (hc : c < 256) (hd : d < 256) (h : sumA x c = sumA x d) : c = d := by
  unfold sumA at h; omega
theorem sumF_ne : ∀ (l : List UInt8) (x y b d : Nat), x < 4294967291 → y < 4294967291 → x ≠ y → (sumF x b l).1 ≠ (sumF y d l).1
  | [], x, y, b, d, hx, hy, h => h
  | c :: l, x, y, b, d, hx, hy, h => sumF_ne l _ _ _ _ (sumA_lt _ _) (sumA_lt _ _) (fun e => h (sumA_inj x y c.toNat hx hy e))
theorem sumF_turned (l m : List UInt8) (c d : UInt8) (h : c ≠ d) : sumN (sumF 1 0 (l ++ c :: m)) ≠ sumN (sumF 1 0 (l ++ d :: m)) := by
  have hl := sumF_lt l 1 0 (by omega) (by omega)
  rw [sumF_append l _ (1, 0), sumF_append l _ (1, 0)]
  intro e
  have e1 := sumF_lt (c :: m) _ _ hl.1 hl.2
  have e2 := sumF_lt (d :: m) _ _ hl.1 hl.2
  unfold sumN at e
  have hn := sumF_ne m _ _ (sumB (sumF 1 0 l).2 (sumA (sumF 1 0 l).1 c.toNat)) (sumB (sumF 1 0 l).2 (sumA (sumF 1 0 l).1 d.toNat)) (sumA_lt (sumF 1 0 l).1 c.toNat) (sumA_lt (sumF 1 0 l).1 d.toNat)
    (fun e => h (UInt8.toNat_inj.1 (sumA_byte _ _ _ c.toNat_lt d.toNat_lt e)))
  apply hn
  simp only [sumF] at e e1 e2
  omega

theorem map_app_get {α β : Type} (f : α → β) (l : List α) (m : List β) {j : Nat} {b : α} (h : l[j]? = some b) : (l.map f ++ m)[j]? = some (f b) := by
  rw [List.getElem?_append_left (by simpa using (List.getElem?_eq_some_iff.1 h).1), List.getElem?_map, h]; rfl
theorem size_turned (t : ByteArray) (k : Nat) (d : UInt8) : (⟨(t.data.toList.set k d).toArray⟩ : ByteArray).size = t.size := by
  show (List.toArray _).size = t.data.size
  simp
theorem byte_other (c : UInt8) (dl : Int) (h0 : 0 ≤ dl) (h1 : dl < 255) : ∃ d : UInt8, ((c.toNat : Int) + (1 + dl)) % 256 = (d.toNat : Int) ∧ d ≠ c := by
  have hc := c.toNat_lt
  refine ⟨UInt8.ofNat ((c.toNat + 1 + dl.toNat) % 256), ?_, fun e => ?_⟩
  · simp only [UInt8.toNat_ofNat']
    omega
  · have := congrArg UInt8.toNat e
    simp only [UInt8.toNat_ofNat'] at this
    omega
theorem row_turned {w : World} {g k : Nat} {s : ByteArray} {sp : List Value} {e : TypeId} {fr : Nat × Nat} {d : UInt8} (h : w.heap[g]? = some (.cells ((s.data.toList.map fun b => Value.int .u8 b.toNat) ++ sp).toArray e fr)) (hk : k < s.size) :
    ((w.setCell ⟨g, k, none⟩ (.int .u8 d.toNat)).drew).heap[g]? = some (.cells (((s.data.toList.set k d).map fun b => Value.int .u8 b.toNat) ++ sp).toArray e fr) := by
  show (w.setCell _ _).heap[g]? = _
  rw [blk_set h]
  congr 2
  apply Array.toList_inj.1
  have hk' : k < s.data.toList.length := by simpa using hk
  simp only [Array.toList_setIfInBounds, List.map_set]
  rw [List.set_append_left _ _ (by simpa using hk)]
theorem sum_turned (t : ByteArray) (k : Nat) (d : UInt8) (hk : k < t.size) (h : d ≠ t[k]) :
    (((sumN (sumF 1 0 (cat [⟨(t.data.toList.set k d).toArray⟩])) : Nat) : Int) == ((sumN (sumF 1 0 (cat [t])) : Nat) : Int)) = false := by
  have hk' : k < t.data.toList.length := by simpa using hk
  have e1 : cat [⟨(t.data.toList.set k d).toArray⟩] = t.data.toList.take k ++ d :: t.data.toList.drop (k + 1) := by
    simp [cat, List.set_eq_take_append_cons_drop, hk]
  have e2 : cat [t] = t.data.toList.take k ++ t[k] :: t.data.toList.drop (k + 1) := by
    have := List.take_append_drop k t.data.toList
    rw [List.drop_eq_getElem_cons hk'] at this
    simp only [cat, List.flatMap_cons, List.flatMap_nil, List.append_nil]
    exact this.symm
  rw [e1, e2, beq_eq_false_iff_ne]
  have := sumF_turned (t.data.toList.take k) (t.data.toList.drop (k + 1)) d t[k] h
  omega
set_option maxHeartbeats 1000000 in
theorem turned_ok (l : List ByteArray) (v : Value) (w : World) (h : Rd (kSl kStr) w l v) :
    Calls Try.prog 3 #[.agg #[v]] w fun e w' => e = .returned (.bool true) ∧ Ext w w' := by
  have h' := h
  obtain ⟨A, c, rfl, hlc, hcm, _, _⟩ := rd_sl.1 h'
  have H := Lib.hid h
  have hm : l.length ≤ 9223372036854775807 := by omega
  clear h h' hlc hcm
  go_enter Try.func3, Try.ntmps3
  go_wp2_with fail
  refine (heavy_ok l _ _ (H.out.ext ((Ext.refl w).alloc _))).mono ?_
  rintro e w1 ⟨b, rfl, hb, he⟩
  have HE := Lib.hid (((Ext.refl w).alloc _).trans he)
  have HB := Lib.hid hb
  have hblk := blk_new w (.cells #[.slice A l.length c] 24)
  have HG := Lib.hid (Ext.blk he hblk)
  clear hb he hblk
  cases b with
  | true =>
    go_wp2_with fail
    go_ret
    exact ⟨rfl, HE.out⟩
  | false =>
    have hs : Hid (tot l ≤ 3000) := HB.out rfl
    clear HB
    have c0 : w1.cell? ⟨w.heap.size, 0, none⟩ = some (.slice A l.length c) := (cell_of_row w1 _ 0 _ _ _ HG.out).trans rfl
    go_wp2_with fail
    have HG' := HG
    clear HG c0
    go_loopg [3] l.length (fun n i wr => ∃ (k : Nat), k ≤ l.length ∧ i = .int .i64 k ∧ w1.heap.size ≤ wr.heap.size ∧ Hid (n = l.length - k ∧ wr.heap[w.heap.size]? = some (.cells #[.slice A l.length c] 24 (0, 0)) ∧ Ext w wr))
    case atStart => exact ⟨0, Nat.zero_le _, rfl, Nat.le_refl _, Lib.hid ⟨rfl, HG'.out, HE.out⟩⟩
    case round =>
      obtain ⟨i, hi, rfl, hw1, HN⟩ := hrel
      have c0 : wr.cell? ⟨w.heap.size, 0, none⟩ = some (.slice A l.length c) := (cell_of_row wr _ 0 _ _ _ HN.out.2.1).trans rfl
      by_cases hlt : i < l.length
      · obtain ⟨_, ad, cs, rfl, ⟨rfl, hz⟩, hcs⟩ := rd_get (H.out.ext HN.out.2.2) i hlt
        have hc := hcs 0 _ rfl
        simp only [kStr, Nat.mul_one, Nat.add_zero] at hc
        have HZ := Lib.hid hz
        clear hcs hz
        generalize hs0 : l[i] = s0 at *
        by_cases h6 : i < 6
        · by_cases h300 : 300 < s0.size
          go_wp2_with fail
          have ht : Hid ((s0.extract 0 300).size ≤ 300) := by show ByteArray.size _ ≤ 300; simp; omega
          generalize s0.extract 0 300 = t at *
          clear h300 hc hs0
          rotate_left
          go_wp2_with fail
          have ht : Hid (s0.size ≤ 300) := by show _ ≤ _; omega
          clear h300 hc hs0
          generalize s0 = t at *
          all_goals
            refine (of_ok _ _ _ (rd_strs wr 9 [t] (by have := ht.out; simp; omega) (by simp))).mono ?_
            rintro e w2 ⟨rfl, he⟩
            have HE2 := Lib.hid ((HN.out.2.2.alloc _).trans he)
            have HG2 := Lib.hid (Ext.blk ((Ext.refl wr).alloc _ |>.trans he) HN.out.2.1)
            have hw2 : w1.heap.size ≤ w2.heap.size := by have := he.size; simp at this; omega
            clear he c0
            go_wp2_with fail
            go_loopg [6] t.size (fun n i wq => ∃ (k : Nat), k ≤ t.size ∧ i = .int .i64 k ∧ w1.heap.size ≤ wq.heap.size ∧ Hid (n = t.size - k ∧ wq.heap[w.heap.size]? = some (.cells #[.slice (some ad) l.length c] 24 (0, 0)) ∧ Ext w wq))
            case atStart => exact ⟨0, Nat.zero_le _, rfl, hw2, Lib.hid ⟨rfl, HG2.out, HE2.out⟩⟩
            case round =>
              rename_i wq
              obtain ⟨k, hk, rfl, hwq, HQ⟩ := hrel
              by_cases hkt : k < t.size
              · have h3 : t.size ≤ 300 := ht.out
                obtain ⟨cb, sp, fr, w3, hcv, hb3, hf3, he3⟩ := conv_bytes (P := Try.prog) Try.underlying9 Try.underlying28 Try.underlying5 t wr
                have HB3 := Lib.hid hb3
                have HE3 := Lib.hid he3
                have cb3 : w3.cell? ⟨wr.heap.size, k, none⟩ = some (.int .u8 t[k].toNat) := by
                  rw [cell_of_row w3 _ k _ _ _ hb3]
                  have hkt' : k < t.data.toList.length := by simpa using hkt
                  simp only [List.getElem?_toArray]
                  rw [List.getElem?_append_left (by simpa using hkt), List.getElem?_map, List.getElem?_eq_getElem hkt']
                  rfl
                have fb3 := hf3 k hkt
                have hkb := t[k].toNat_lt
                have e1 := wrapi ((k : Int) * 7) (by omega) (by omega)
                have e2 := wrapi ((k : Int) * 7 + t.size) (by omega) (by omega)
                clear hb3 he3 hf3
                go_wp2_with fail
                clear hcv
                refine region_tail 16 (by kernel_rfl) (by kernel_rfl) ?_
                simp only [List.take_succ_cons, List.take_zero, List.drop_succ_cons, List.drop_zero]
                repeat still_step
                refine wpStill_step (fun K hK => ?_)
                go_simp
                refine ⟨_, (within_ok _ _ _ (by omega) (by omega) (by omega) (by omega)).mono (fun e w' hh => ⟨hh.1, hh.2.symm⟩), hK _ ?_⟩
                clear hK K
                have hwi := Int.emod_nonneg ((k : Int) * 7 + t.size) (show (255 : Int) ≠ 0 by omega)
                have hwj := Int.emod_lt_of_pos ((k : Int) * 7 + t.size) (show (0 : Int) < 255 by omega)
                clear e1 e2
                generalize ((k : Int) * 7 + t.size) % 255 = dl at *
                repeat still_step
                refine wpStill_nil ?_
                have hd : ∃ d : UInt8, ((t[k].toNat : Int) + (1 + dl)) % 256 = (d.toNat : Int) ∧ d ≠ t[k] := byte_other t[k] dl hwi hwj
                obtain ⟨d, hd, hne⟩ := hd
                have hs4 : Hid (((w3.setCell ⟨wr.heap.size, k, none⟩ (.int .u8 d.toNat)).drew).heap[wr.heap.size]? = some (.cells (((t.data.toList.set k d).map fun b => Value.int .u8 b.toNat) ++ sp).toArray 5 fr)) := row_turned HB3.out hkt
                have he4 : Hid (Ext wr (w3.setCell ⟨wr.heap.size, k, none⟩ (.int .u8 d.toNat)).drew) := (HE3.out.set (p := ⟨wr.heap.size, k, none⟩) (Nat.le_refl _) _).drew
                have hcs := conv_str (P := Try.prog) (n := t.size) (c := cb) (l := t.data.toList.set k d) Try.underlying28 Try.underlying5 Try.underlying9 hs4.out (by rw [List.length_set]; exact Array.length_toList) (fun j b hb => map_app_get _ _ _ hb)

                go_wp2_with fail
                clear hcs
                have hbad := sum_turned t k d hkt hne
                clear cb3 fb3
                refine (of_ok [⟨(t.data.toList.set k d).toArray⟩] _ _ (rd_strs_at _ 9 [⟨(t.data.toList.set k d).toArray⟩] (by simp) (by have := size_turned t k d; have := ht.out; intro s hs; simp only [List.mem_singleton] at hs; subst hs; omega) (by simp))).mono ?_
                rintro e w5 ⟨rfl, he⟩
                have HE5 := Lib.hid ((he4.out.alloc _).trans he)
                have hsz5 := HE5.out.size
                clear he
                go_wp2_with fail
                go_roundg (t.size - (k + 1))
                case measure => have := HQ.out; omega
                case rel => exact ⟨k + 1, by omega, by go_num, by omega, Lib.hid ⟨rfl, HE5.out.blk HQ.out.2.1, HQ.out.2.2.trans HE5.out⟩⟩
              · go_wp2_with fail
                go_roundg (l.length - (i + 1))
                case measure => have := HN.out; omega
                case rel => exact ⟨i + 1, by omega, by go_num, hwq, Lib.hid ⟨rfl, HQ.out.2.1, HQ.out.2.2⟩⟩
        · go_wp2_with fail
          refine (wakes_ok _).mono ?_
          rintro e w2 ⟨rfl, he⟩
          have HE2 := Lib.hid (HN.out.2.2.trans he)
          clear he
          go_wp2_with fail
          go_ret
          exact ⟨rfl, HE2.out⟩
      · go_wp2_with fail
        refine (wakes_ok _).mono ?_
        rintro e w2 ⟨rfl, he⟩
        have HE2 := Lib.hid (HN.out.2.2.trans he)
        clear he
        go_wp2_with fail
        go_ret
        exact ⟨rfl, HE2.out⟩
end Go.Proofs.Ytinodflkkcdakaa
