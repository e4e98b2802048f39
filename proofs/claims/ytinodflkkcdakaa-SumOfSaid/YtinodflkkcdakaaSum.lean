/- Layer 17's sum: what each function of it computes. -/
import Derived.Test.YtinodflkkcdakaaLib
namespace Go.Proofs.Ytinodflkkcdakaa
open Go.RowKit
set_option linter.unusedVariables false

def sumA (a c : Nat) : Nat := (a * 257 + c) % 4294967291
def sumB (b a : Nat) : Nat := (b + a) % 4294967291
def sumF : Nat → Nat → List UInt8 → Nat × Nat
  | a, b, [] => (a, b)
  | a, b, c :: l => sumF (sumA a c.toNat) (sumB b (sumA a c.toNat)) l

def IsRun (w : World) (g : Nat) (p : Nat × Nat) : Prop :=
  w.heap[g]? = some (.cells #[.int .u64 p.1, .int .u64 p.2] 35 (0, 0)) ∧ p.1 < 4294967291 ∧ p.2 < 4294967291

/-- Only block g may have changed. -/
structure But (g : Nat) (w w' : World) : Prop where
  os : w'.os = w.os
  tape : w'.tape = w.tape
  output : w'.output = w.output
  size : w'.heap.size = w.heap.size
  block : ∀ k, k ≠ g → w'.heap[k]? = w.heap[k]?

theorem sumA_lt (a c : Nat) : sumA a c < 4294967291 := Nat.mod_lt _ (by omega)
theorem sumB_lt (a c : Nat) : sumB a c < 4294967291 := Nat.mod_lt _ (by omega)
theorem sumF_snoc : ∀ (l : List UInt8) (a b : Nat) (c : UInt8), sumF a b (l ++ [c]) = (sumA (sumF a b l).1 c.toNat, sumB (sumF a b l).2 (sumA (sumF a b l).1 c.toNat))
  | [], a, b, c => rfl
  | d :: l, a, b, c => by simp only [List.cons_append, sumF]; exact sumF_snoc l _ _ c
theorem sumF_lt : ∀ (l : List UInt8) (a b : Nat), a < 4294967291 → b < 4294967291 → (sumF a b l).1 < 4294967291 ∧ (sumF a b l).2 < 4294967291
  | [], a, b, ha, hb => ⟨ha, hb⟩
  | d :: l, a, b, ha, hb => sumF_lt l _ _ (sumA_lt _ _) (sumB_lt _ _)
theorem But.refl (g : Nat) (w : World) : But g w w := ⟨rfl, rfl, rfl, rfl, fun _ _ => rfl⟩
theorem But.set {g : Nat} {w w1 : World} (h : But g w w1) (o : Nat) (v : Value) : But g w (w1.setCell ⟨g, o, none⟩ v) :=
  ⟨h.os, h.tape, h.output, by simpa [World.setCell] using h.size, fun k hk => by rw [Below.heap_setCell _ _ _ _ (by simpa using hk)]; exact h.block k hk⟩
theorem But.drew {g : Nat} {w w1 : World} (h : But g w w1) : But g w w1.drew := ⟨h.os, h.tape, h.output, h.size, h.block⟩

theorem sumA_eq (x : Nat) (c : UInt8) (h : x < 4294967291) : (IntKind.u64.wrap (↑x * 257 + IntKind.u64.wrap ↑c.toNat)).tmod 4294967291 = (sumA x c.toNat : Nat) := by
  have hc := c.toNat_lt
  rw [wrap_u64 (c.toNat : Int) (by omega) (by omega), wrap_u64 _ (by omega) (by omega), Int.tmod_eq_emod_of_nonneg (by omega)]
  unfold sumA
  omega
theorem sumB_eq (y a : Nat) (h : y < 4294967291) (ha : a < 4294967291) : (IntKind.u64.wrap (↑y + ↑a)).tmod 4294967291 = (sumB y a : Nat) := by
  rw [wrap_u64 _ (by omega) (by omega), Int.tmod_eq_emod_of_nonneg (by omega)]
  unfold sumB
  omega
theorem run_set {w : World} {g x y : Nat} (h : w.heap[g]? = some (.cells #[.int .u64 x, .int .u64 y] 35 (0, 0))) (c : UInt8) (hx : x < 4294967291) (hy : y < 4294967291) :
    IsRun ((w.setCell ⟨g, 0, none⟩ (.int .u64 ((IntKind.u64.wrap (↑x * 257 + IntKind.u64.wrap ↑c.toNat)).tmod 4294967291))).setCell ⟨g, 1, none⟩
      (.int .u64 ((IntKind.u64.wrap (↑y + (IntKind.u64.wrap (↑x * 257 + IntKind.u64.wrap ↑c.toNat)).tmod 4294967291)).tmod 4294967291))).drew.drew g (sumA x c.toNat, sumB y (sumA x c.toNat)) := by
  rw [sumA_eq x c hx, sumB_eq y _ hy (sumA_lt _ _)]
  refine ⟨?_, sumA_lt _ _, sumB_lt _ _⟩
  show ((w.setCell _ _).setCell _ _).heap[g]? = _
  simpa using blk_set (blk_set h 0 (.int .u64 (sumA x c.toNat))) 1 (.int .u64 (sumB y (sumA x c.toNat)))

set_option maxHeartbeats 400000 in
theorem add_ok (g : Nat) (p : Nat × Nat) (s : ByteArray) (w : World) (h : IsRun w g p) (hs : s.size ≤ maxLen) :
    Calls Try.prog 13 #[.pointer (some ⟨g, 0, none⟩), .string s] w fun e w' => e = .returned (.tuple #[]) ∧ IsRun w' g (sumF p.1 p.2 s.data.toList) ∧ But g w w' := by
  unfold maxLen at hs
  go_enter Try.func13, Try.ntmps13
  go_wp2
  go_loopg [7] s.size (fun n i wr => ∃ k : Nat, k ≤ s.size ∧ n = s.size - k ∧ i = .int .i64 k ∧ IsRun wr g (sumF p.1 p.2 (s.data.toList.take k)) ∧ But g w wr)
  case atStart => exact ⟨0, Nat.zero_le _, rfl, rfl, h, But.refl _ _⟩
  case round =>
    obtain ⟨k, hk, hn, rfl, hr, hb⟩ := hrel
    obtain ⟨hc, ha, hb1⟩ := hr
    have HN : Hid (gk = s.size - k) := hn
    clear hn h
    by_cases hlt : k < s.size
    · generalize hx : (sumF p.1 p.2 (List.take k s.data.toList)).1 = x at *
      generalize hy : (sumF p.1 p.2 (List.take k s.data.toList)).2 = y at *
      have HX := Lib.hid hx
      have HY := Lib.hid hy
      have c0 := (cell_of_row wr g 0 _ _ _ hc).trans rfl
      have c1 := (cell_of_row wr g 1 _ _ _ hc).trans rfl
      have f0 := frozen_of_row wr g 0 _ _ hc
      have f1 := frozen_of_row wr g 1 _ _ hc
      have HC := Lib.hid hc
      clear hc hx hy
      go_wp2
      refine region_tail 14 (by kernel_rfl) (by kernel_rfl) ?_
      simp only [List.take_succ_cons, List.take_zero, List.drop_succ_cons, List.drop_zero]
      repeat still_step
      try refine wpStill_nil ?_
      go_wp2
      refine region_tail 13 (by kernel_rfl) (by kernel_rfl) ?_
      simp only [List.take_succ_cons, List.take_zero, List.drop_succ_cons, List.drop_zero]
      repeat still_step
      try refine wpStill_nil ?_
      go_wp2
      go_roundg (s.size - (k + 1))
      case measure => have := HN.out; omega
      case rel =>
        have hsn := sumF_snoc (List.take k s.data.toList) p.1 p.2 s[k]
        rw [← take_snoc s k hlt, HX.out, HY.out] at hsn
        refine ⟨k + 1, by omega, rfl, by go_num, ?_, ((hb.set 0 _).set 1 _).drew.drew⟩
        rw [hsn]
        exact run_set HC.out s[k] ha hb1
    · have HK := Lib.hid (show k = s.size by omega)
      go_wp2
      go_end0
      have e : List.take k s.data.toList = s.data.toList := List.take_of_length_le (by rw [HK.out]; exact Nat.le_of_eq (Array.length_toList))
      rw [e] at hc ha hb1
      exact ⟨rfl, ⟨hc, ha, hb1⟩, hb⟩
end Go.Proofs.Ytinodflkkcdakaa
