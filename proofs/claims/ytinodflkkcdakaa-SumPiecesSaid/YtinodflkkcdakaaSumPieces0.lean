/- However a text is cut its sum is the same: the walk of the statement's function. -/
import Derived.Test.YtinodflkkcdakaaSumOf0
namespace Go.Proofs.Ytinodflkkcdakaa
open Go.RowKit
set_option linter.unusedVariables false

theorem cut_list (s : ByteArray) (k : Nat) : (s.extract 0 k).data.toList ++ (s.extract k s.size).data.toList = s.data.toList := by
  simp only [ByteArray.data_extract, Array.toList_extract, List.extract_eq_take_drop, List.drop_zero, Nat.sub_zero]
  have : s.size = s.data.toList.length := Array.length_toList.symm
  rw [this, List.take_of_length_le (i := s.data.toList.length - k) (by simp), List.take_append_drop]
theorem cut_two (s : ByteArray) (k : Nat) : cat [s.extract 0 k, s.extract k s.size] = s.data.toList := by
  rw [← cut_list s k]; simp [cat]
theorem cut_four (s : ByteArray) (k : Nat) : cat [⟨#[]⟩, s.extract 0 k, ⟨#[]⟩, s.extract k s.size] = s.data.toList := by
  rw [← cut_list s k]; simp [cat]
theorem cut_more (s : ByteArray) (k : Nat) : sumN (sumF (sumS ((sumN (sumF 1 0 (s.extract 0 k).data.toList) : Nat) : Int).toNat).1 (sumS ((sumN (sumF 1 0 (s.extract 0 k).data.toList) : Nat) : Int).toNat).2 (s.extract k s.size).data.toList) = sumN (sumF 1 0 s.data.toList) := by
  have h := sumF_lt (s.extract 0 k).data.toList 1 0 (by omega) (by omega)
  rw [Int.toNat_natCast, sumS_of _ h.1 h.2, ← sumF_append _ _ (1, 0), cut_list]
theorem cut_size (s : ByteArray) (h : s.size ≤ 3000) (k : Nat) : (s.extract 0 k).size ≤ 3000 ∧ (s.extract k s.size).size ≤ 3000 := by
  constructor <;> simp <;> omega
set_option maxHeartbeats 4000000 in
set_option maxRecDepth 100000 in
theorem sumPieces_ok (l : List ByteArray) (v : Value) (w : World) (h : Rd (kSl kStr) w l v) :
    Calls Try.prog 5 #[.agg #[v]] w fun e w' => e = .returned (.bool true) ∧ Ext w w' := by
  have h' := h
  obtain ⟨A, c, rfl, hlc, hcm, _, _⟩ := rd_sl.1 h'
  have H := Lib.hid h
  have hm : l.length ≤ 9223372036854775807 := by omega
  clear h h' hlc hcm
  go_enter Try.func5, Try.ntmps5
  go_wp2_with fail
  refine (heavy_ok l _ _ (H.out.ext ((Ext.refl w).alloc _))).mono ?_
  rintro e w1 ⟨b, rfl, hb, he⟩
  have HE := Lib.hid (((Ext.refl w).alloc _).trans he)
  have HB := Lib.hid hb
  have hblk := blk_new w (.cells #[.slice A l.length c] 24)
  have HG := Lib.hid (Ext.blk he hblk)
  clear hb he hblk
  cases b with
  | true =>
    go_wp2_with fail
    go_ret
    exact ⟨rfl, HE.out⟩
  | false =>
    have hs : Hid (tot l ≤ 3000) := HB.out rfl
    clear HB
    have c0 : w1.cell? ⟨w.heap.size, 0, none⟩ = some (.slice A l.length c) := (cell_of_row w1 _ 0 _ _ _ HG.out).trans rfl
    go_wp2_with fail
    have HG' := HG
    clear HG c0
    go_loopg [3] l.length (fun n i wr => ∃ (k : Nat), k ≤ l.length ∧ i = .int .i64 k ∧ w1.heap.size ≤ wr.heap.size ∧ Hid (n = l.length - k ∧ wr.heap[w.heap.size]? = some (.cells #[.slice A l.length c] 24 (0, 0)) ∧ Ext w wr))
    case atStart => exact ⟨0, Nat.zero_le _, rfl, Nat.le_refl _, Lib.hid ⟨rfl, HG'.out, HE.out⟩⟩
    case round =>
      obtain ⟨i, hi, rfl, hw1, HN⟩ := hrel
      have c0 : wr.cell? ⟨w.heap.size, 0, none⟩ = some (.slice A l.length c) := (cell_of_row wr _ 0 _ _ _ HN.out.2.1).trans rfl
      by_cases hlt : i < l.length
      · obtain ⟨_, ad, cs, rfl, ⟨rfl, hz⟩, hcs⟩ := rd_get (H.out.ext HN.out.2.2) i hlt
        have hc := hcs 0 _ rfl
        simp only [kStr, Nat.mul_one, Nat.add_zero] at hc
        clear hcs hz
        by_cases h6 : i < 6
        · have hsz : l[i].size ≤ 3000 := by
            have h2 := tot_take l i hlt
            have h3 := sum_take (l.map (·.size)) (i + 1)
            rw [← List.map_take] at h3
            have := hs.out
            unfold tot at this
            omega
          go_wp2_with fail
          generalize l[i] = s at *
          obtain ⟨N, hN⟩ : ∃ N : Int, (sumN (sumF 1 0 s.data.toList) : Int) = N := ⟨_, rfl⟩
          have HNN := Lib.hid hN
          have HZ := Lib.hid hsz
          clear hN hc c0
          refine (of_val [s] N _ _ (rd_strs wr 9 [s] (by have := HZ.out; simp; omega) (by simp)) (by rw [cat_one]; exact HNN.out)).mono ?_
          rintro e w2 ⟨rfl, he⟩
          have HE2 := Lib.hid (((Ext.refl wr).alloc _).trans he)
          have hw2 : w1.heap.size ≤ w2.heap.size := by have := HE2.out.size; omega
          clear he
          go_wp2_with fail
          go_loopg [6] (s.size + 1) (fun n i wq => ∃ (k : Nat), i = .int .i64 k ∧ k ≤ 10000 ∧ w1.heap.size ≤ wq.heap.size ∧ Hid (n = s.size + 1 - k ∧ Ext wr wq))
          case atStart => exact ⟨0, rfl, by omega, hw2, Lib.hid ⟨rfl, HE2.out⟩⟩
          case round =>
            rename_i wz _
            obtain ⟨k, rfl, hk0, hwq, HQ⟩ := hrel
            by_cases hkt : k ≤ s.size
            · go_wp2_with fail
              refine region_walk [0, 1, 2, 3, 4, 5, 8, 6, 7, 9, 10, 11, 12, 13, 16, 17, 18, 20, 14, 15, 19, 21, 22, 23, 24, 25, 26, 27, 28, 29, 32, 30, 31, 33, 34] [6, 7, 14, 15, 19, 30, 31] [] (by kernel_rfl) (by kernel_rfl) ?_
              repeat (refine walk_float rfl rfl (fun K hK => ?_); go_simp; refine hK _ ?_; clear hK K)
              refine walk_forced rfl rfl (fun K hK => ?_)
              go_simp
              have hcz := cut_size s HZ.out k
              have HCZ := Lib.hid hcz
              clear hcz
              refine hK _ _ (fun _ => (show Ext wr.drew (wr.drew.alloc _) from (Ext.refl wr.drew).alloc _)) ?_
              clear hK K
              repeat (refine walk_float rfl rfl (fun K hK => ?_); go_simp; refine hK _ ?_; clear hK K)
              refine walk_forced rfl rfl (fun K hK => ?_)
              go_simp
              refine (of_val [s.extract 0 k, s.extract k s.size] N _ _ (rd_strs_at _ 9 [s.extract 0 k, s.extract k s.size] rfl (by have := HCZ.out; simp only [List.mem_cons, List.not_mem_nil, or_false, forall_eq_or_imp, forall_eq]; omega) (by simp)) (by rw [cut_two]; exact HNN.out)).mono ?_
              rintro e w3 ⟨rfl, he⟩
              refine hK _ _ (fun _ => he) ?_
              clear hK K
              have HE3 := Lib.hid ((((Ext.refl wr).alloc _).drew).trans he)
              clear he
              repeat (refine walk_float rfl rfl (fun K hK => ?_); go_simp; refine hK _ ?_; clear hK K)
              refine walk_forced rfl rfl (fun K hK => ?_)
              go_simp
              refine hK _ _ (fun _ => (Ext.refl _).alloc _) ?_
              clear hK K
              repeat (refine walk_float rfl rfl (fun K hK => ?_); go_simp; refine hK _ ?_; clear hK K)
              refine walk_forced rfl rfl (fun K hK => ?_)
              go_simp
              obtain ⟨O, hO⟩ : ∃ O : Int, O = (sumN (sumF 1 0 (s.extract 0 k).data.toList) : Nat) := ⟨_, rfl⟩
              have HO := Lib.hid hO
              clear hO
              refine (of_val [s.extract 0 k] O _ _ (rd_strs w3 9 [s.extract 0 k] (by have := HCZ.out; simp only [List.mem_cons, List.not_mem_nil, or_false, forall_eq]; omega) (by simp)) (by rw [cat_one, HO.out])).mono ?_
              rintro e w4 ⟨rfl, he⟩
              refine hK _ _ (fun _ => he) ?_
              clear hK K
              have HE4 := Lib.hid ((HE3.out.alloc _).trans he)
              clear he
              repeat (refine walk_float rfl rfl (fun K hK => ?_); go_simp; refine hK _ ?_; clear hK K)
              refine walk_forced rfl rfl (fun K hK => ?_)
              go_simp
              refine (more_val O (s.extract k s.size) N _ (by have := HO.out; omega) (by have := HO.out; have := sumO_lt (s.extract 0 k).data.toList; omega) (by have := HCZ.out; omega) (by rw [HO.out, cut_more]; exact HNN.out)).mono ?_
              rintro e w5 ⟨rfl, he⟩
              refine hK _ _ (fun _ => he) ?_
              clear hK K
              have HE5 := Lib.hid (HE4.out.trans he)
              clear he
              repeat (refine walk_float rfl rfl (fun K hK => ?_); go_simp; refine hK _ ?_; clear hK K)
              refine walk_forced rfl rfl (fun K hK => ?_)
              go_simp
              refine hK _ _ (fun _ => (Ext.refl _).alloc _) ?_
              clear hK K
              repeat (refine walk_float rfl rfl (fun K hK => ?_); go_simp; refine hK _ ?_; clear hK K)
              refine walk_forced rfl rfl (fun K hK => ?_)
              go_simp
              refine (of_val [⟨#[]⟩, s.extract 0 k, ⟨#[]⟩, s.extract k s.size] N _ _ (rd_strs w5 9 [⟨#[]⟩, s.extract 0 k, ⟨#[]⟩, s.extract k s.size] (by have := HCZ.out; have h0 : (⟨#[]⟩ : ByteArray).size = 0 := rfl; simp only [List.mem_cons, List.not_mem_nil, or_false, forall_eq_or_imp, forall_eq]; omega) (by simp)) (by rw [cut_four]; exact HNN.out)).mono ?_
              rintro e w6 ⟨rfl, he⟩
              refine hK _ _ (fun _ => he) ?_
              clear hK K
              have HE6 := Lib.hid ((HE5.out.alloc _).trans he)
              clear he
              repeat (refine walk_float rfl rfl (fun K hK => ?_); go_simp; refine hK _ ?_; clear hK K)
              refine walk_end ?_
              have hd : (0 : Int) ≤ (s.size : Int) := by omega
              have hz2 := HZ.out
              go_wp2_with fail
              rw [show ((k : Int) + 1 + (s.size : Int) / 50) = ((k + 1 + s.size / 50 : Nat) : Int) by omega]
              go_roundg (s.size + 1 - (k + 1 + s.size / 50))
              case measure => have := HQ.out; omega
              case rel => exact ⟨_, rfl, by omega, by have := HE6.out.size; omega, Lib.hid ⟨rfl, HQ.out.2.trans HE6.out⟩⟩
            · go_wp2_with fail
              go_roundg (l.length - (i + 1))
              case measure => have := HN.out; omega
              case rel => exact ⟨i + 1, by omega, by go_num, hwq, Lib.hid ⟨rfl, HQ.out.2.blk HN.out.2.1, HN.out.2.2.trans HQ.out.2⟩⟩
        · go_wp2_with fail
          refine (wakes_ok _).mono ?_
          rintro e w2 ⟨rfl, he⟩
          have HE2 := Lib.hid (HN.out.2.2.trans he)
          clear he
          go_wp2_with fail
          go_ret
          exact ⟨rfl, HE2.out⟩
      · go_wp2_with fail
        refine (wakes_ok _).mono ?_
        rintro e w2 ⟨rfl, he⟩
        have HE2 := Lib.hid (HN.out.2.2.trans he)
        clear he
        go_wp2_with fail
        go_ret
        exact ⟨rfl, HE2.out⟩
end Go.Proofs.Ytinodflkkcdakaa
