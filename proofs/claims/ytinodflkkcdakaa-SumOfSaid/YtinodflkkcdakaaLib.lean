/- A small library: how data read in memory ('Rd'), what a call of its own owns ('Own'), regions that draw their order. -/
import Derived.Test.YtinodflkkcdakaaProg
import Derived.WalkKit
import Derived.WalkSpells
import Derived.WalkLawsBesides
import Derived.Deep.QuietTactic
import Derived.BigQuiet
import Derived.StillTailTactics
import Derived.KernelRfl
import Derived.Lib.Hide
import Derived.Lib.ConvBytes
import Derived.Deep.LoopGhost
namespace Go.Proofs.Ytinodflkkcdakaa
open Go.RowKit
set_option linter.unusedVariables false

/-! ### worlds -/
abbrev Ext (w w' : World) : Prop := Below w.heap.size w w'
theorem Ext.refl (w : World) : Ext w w := Below.refl _ _
theorem Ext.trans {a b c : World} (h : Ext a b) (k : Ext b c) : Ext a c := Below.trans h (Below.mono k h.size)
theorem Ext.alloc {a w : World} (h : Ext a w) (o : Obj) : Ext a (w.alloc o) := Below.alloc h h.size o
theorem Ext.drew {a w : World} (h : Ext a w) : Ext a w.drew := Below.drew h
theorem Ext.drewN {a w : World} (h : Ext a w) (n : Nat) : Ext a (w.drewN n) := ⟨h.os, h.tape, h.output, h.size, h.block⟩
theorem Ext.set {a w : World} (h : Ext a w) {p : Addr} (hp : a.heap.size ≤ p.block) (v : Value) : Ext a (w.setCell p v) := Below.setCell h hp v
theorem Ext.grown {a w w' : World} {row : Option Nat} (h : Ext a w) (hg : w.grownBy w' row) (hr : ∀ k, row = some k → a.heap.size ≤ k) : Ext a w' := Below.grown h hg h.size hr
theorem Ext.cell {w w' : World} (h : Ext w w') {a : Addr} {v : Value} (hc : w.cell? a = some v) : w'.cell? a = some v := (Below.cell h (World.block_lt_of_cell? w a hc)).trans hc
theorem Ext.blk {w w' : World} (h : Ext w w') {g : Nat} {o : Obj} (hc : w.heap[g]? = some o) : w'.heap[g]? = some o := (h.block g (Array.getElem?_eq_some_iff.1 hc).1).trans hc

theorem blk_set {w : World} {g : Nat} {t : TypeId} {cs : Array Value} {fr : Nat × Nat} (h : w.heap[g]? = some (.cells cs t fr)) (i : Nat) (u : Value) : (w.setCell ⟨g, i, none⟩ u).heap[g]? = some (.cells (cs.setIfInBounds i u) t fr) := by
  simp [World.setCell, Array.getElem?_modify, h]
theorem blk_far {w : World} {g : Nat} {o : Obj} (h : w.heap[g]? = some o) {p : Addr} (hp : g ≠ p.block) (u : Value) : (w.setCell p u).heap[g]? = some o := (Below.heap_setCell w p u g hp).trans h
theorem blk_lt {w : World} {g : Nat} {o : Obj} (h : w.heap[g]? = some o) : g < w.heap.size := (Array.getElem?_eq_some_iff.1 h).1
theorem blk_new (w : World) (o : Obj) : (w.alloc o).heap[w.heap.size]? = some o := heap_alloc_new w o

/-! ### data -/
def I64 (n : Int) : Prop := -9223372036854775808 ≤ n ∧ n ≤ 9223372036854775807
structure Kd (α : Type) where
  sz : Nat
  by_ : Nat
  st : Bool
  K : World → (Nat → Prop) → α → List Value → Prop
  len : ∀ {w S x cs}, K w S x cs → cs.length = sz
  frame : ∀ {w w' : World} {S S' : Nat → Prop} {x cs}, (∀ b, S b → S' b ∧ w'.heap[b]? = w.heap[b]?) → K w S x cs → K w' S' x cs
/-- A row of them. -/
def Kd.C {α : Type} (k : Kd α) (w : World) (S : Nat → Prop) (A : Option Addr) (xs : List α) : Prop :=
  ∀ i x, xs[i]? = some x → ∃ ad cs, A = some ad ∧ S ad.block ∧ k.K w S x cs ∧ ∀ j v, cs[j]? = some v → w.cell? (ad.add (i * k.sz + j)) = some v
/-- A value that is one. -/
def Kd.V {α : Type} (k : Kd α) (w : World) (S : Nat → Prop) (x : α) (v : Value) : Prop :=
  match k.st with
  | true => ∃ cs, v = .agg cs ∧ k.K w S x cs.toList
  | false => k.K w S x [v]
theorem Kd.C_frame {α : Type} {k : Kd α} {w w' : World} {S S' : Nat → Prop} {A : Option Addr} {xs : List α} (h : ∀ b, S b → S' b ∧ w'.heap[b]? = w.heap[b]?) (hc : k.C w S A xs) : k.C w' S' A xs := by
  intro i x hx
  obtain ⟨ad, cs, e, hs, hk, hcs⟩ := hc i x hx
  refine ⟨ad, cs, e, (h _ hs).1, k.frame h hk, fun j v hv => ?_⟩
  rw [World.cell?_of_block (w := w) (a := ad.add (i * k.sz + j)) (by rw [show (ad.add (i * k.sz + j)).block = ad.block by unfold Addr.add; split <;> rfl]; exact (h _ hs).2)]
  exact hcs j v hv
theorem Kd.V_frame {α : Type} {k : Kd α} {w w' : World} {S S' : Nat → Prop} {x : α} {v : Value} (h : ∀ b, S b → S' b ∧ w'.heap[b]? = w.heap[b]?) (hv : k.V w S x v) : k.V w' S' x v := by
  unfold Kd.V at *
  split at hv
  · obtain ⟨cs, e, hk⟩ := hv; exact ⟨cs, e, k.frame h hk⟩
  · exact k.frame h hv
/-- It reads so. -/
def Rd {α : Type} (k : Kd α) (w : World) (x : α) (v : Value) : Prop := k.V w (fun b => b < w.heap.size) x v
theorem Rd.ext {α : Type} {k : Kd α} {w w' : World} {x : α} {v : Value} (h : Rd k w x v) (he : Ext w w') : Rd k w' x v :=
  Kd.V_frame (fun b hb => ⟨Nat.lt_of_lt_of_le hb he.size, he.block b hb⟩) h

def kInt : Kd Int where
  sz := 1
  by_ := 8
  st := false
  K := fun _ _ n cs => cs = [.int .i64 n] ∧ I64 n
  len := fun h => by rw [h.1]; rfl
  frame := fun _ h => h
def kByte : Kd Int where
  sz := 1
  by_ := 1
  st := false
  K := fun _ _ n cs => cs = [.int .u8 n] ∧ 0 ≤ n ∧ n < 256
  len := fun h => by rw [h.1]; rfl
  frame := fun _ h => h
def kU64 : Kd Int where
  sz := 1
  by_ := 8
  st := false
  K := fun _ _ n cs => cs = [.int .u64 n] ∧ 0 ≤ n ∧ n < 18446744073709551616
  len := fun h => by rw [h.1]; rfl
  frame := fun _ h => h
def kBool : Kd Bool where
  sz := 1
  by_ := 1
  st := false
  K := fun _ _ b cs => cs = [.bool b]
  len := fun h => by rw [h]; rfl
  frame := fun _ h => h
def kStr : Kd ByteArray where
  sz := 1
  by_ := 16
  st := false
  K := fun _ _ s cs => cs = [.string s] ∧ s.size ≤ 140737488351232
  len := fun h => by rw [h.1]; rfl
  frame := fun _ h => h
def kSl {α : Type} (k : Kd α) : Kd (List α) where
  sz := 1
  by_ := 24
  st := false
  K := fun w S xs cs => ∃ A c, cs = [.slice A xs.length c] ∧ xs.length ≤ c ∧ c ≤ 9223372036854775807 ∧ xs.length * k.by_ ≤ 140737488351232 ∧ k.C w S A xs
  len := fun h => by obtain ⟨A, c, e, _⟩ := h; rw [e]; rfl
  frame := fun h hk => by obtain ⟨A, c, e, h1, h2, h3, hc⟩ := hk; exact ⟨A, c, e, h1, h2, h3, Kd.C_frame h hc⟩
def kPair {α β : Type} (k : Kd α) (l : Kd β) : Kd (α × β) where
  sz := k.sz + l.sz
  by_ := 0
  st := true
  K := fun w S x cs => ∃ c1 c2, cs = c1 ++ c2 ∧ k.K w S x.1 c1 ∧ l.K w S x.2 c2
  len := fun h => by obtain ⟨c1, c2, e, h1, h2⟩ := h; rw [e, List.length_append, k.len h1, l.len h2]
  frame := fun h hk => by obtain ⟨c1, c2, e, h1, h2⟩ := hk; exact ⟨c1, c2, e, k.frame h h1, l.frame h h2⟩
def kIso {α β : Type} (k : Kd β) (b : Nat) (f : α → β) : Kd α where
  sz := k.sz
  by_ := b
  st := true
  K := fun w S x cs => k.K w S (f x) cs
  len := fun h => k.len h
  frame := fun h hk => k.frame h hk

theorem rd_int {w : World} {n : Int} {v : Value} : Rd kInt w n v ↔ v = .int .i64 n ∧ I64 n := by simp [Rd, Kd.V, kInt]
theorem rd_bool {w : World} {b : Bool} {v : Value} : Rd kBool w b v ↔ v = .bool b := by simp [Rd, Kd.V, kBool]
theorem rd_str {w : World} {s : ByteArray} {v : Value} : Rd kStr w s v ↔ v = .string s ∧ s.size ≤ 140737488351232 := by simp [Rd, Kd.V, kStr]
theorem rd_sl {α : Type} {k : Kd α} {w : World} {xs : List α} {v : Value} : Rd (kSl k) w xs v ↔ ∃ A c, v = .slice A xs.length c ∧ xs.length ≤ c ∧ c ≤ 9223372036854775807 ∧ xs.length * k.by_ ≤ 140737488351232 ∧ k.C w (fun b => b < w.heap.size) A xs := by
  simp [Rd, Kd.V, kSl]
theorem add_at (ad : Addr) (m j : Nat) : ad.add (m + j) = if j = 0 then ad.add m else ⟨(ad.add m).block, (ad.add m).off + j, none⟩ := by
  unfold Addr.add
  by_cases hj : j = 0
  · simp [hj]
  · by_cases hm : m = 0
    · simp [hm, hj]
    · simp [hm, hj, Nat.add_assoc]
/-- An element's cells. -/
theorem rd_get {α : Type} {k : Kd α} {w : World} {xs : List α} {A : Option Addr} {n c : Nat} (h : Rd (kSl k) w xs (.slice A n c)) (i : Nat) (hi : i < xs.length) :
    n = xs.length ∧ ∃ ad cs, A = some ad ∧ k.K w (fun b => b < w.heap.size) xs[i] cs ∧ ∀ j v, cs[j]? = some v → w.cell? (ad.add (i * k.sz + j)) = some v := by
  obtain ⟨A', c', e, h1, h2, _, hc⟩ := rd_sl.1 h
  injection e with e1 e2 e3
  subst e1; subst e2
  obtain ⟨ad, cs, e, _, hk, hcs⟩ := hc i xs[i] (by simp [hi])
  exact ⟨rfl, ad, cs, e, hk, hcs⟩
theorem rd_len {α : Type} {k : Kd α} {w : World} {xs : List α} {A : Option Addr} {n c : Nat} (h : Rd (kSl k) w xs (.slice A n c)) : n = xs.length ∧ xs.length ≤ c ∧ c ≤ 9223372036854775807 ∧ xs.length * k.by_ ≤ 140737488351232 := by
  obtain ⟨A', c', e, h1, h2, h3, hc⟩ := rd_sl.1 h
  injection e with e1 e2 e3
  exact ⟨e2, by omega, by omega, h3⟩

/-- A literal of strings. -/
theorem rd_strs (w : World) (T : TypeId) (l : List ByteArray) (h : ∀ s ∈ l, s.size ≤ 140737488351232) (hl : l.length ≤ 1000) :
    Rd (kSl kStr) (w.alloc (.cells (l.map Value.string).toArray T)) l (.slice (some ⟨w.heap.size, 0, none⟩) l.length l.length) := by
  refine rd_sl.2 ⟨_, _, rfl, Nat.le_refl _, by omega, by simp only [kStr]; omega, fun i x hx => ?_⟩
  refine ⟨_, [.string x], rfl, by simp, ⟨rfl, h x (List.mem_of_getElem? hx)⟩, fun j v hv => ?_⟩
  cases j with
  | succ j => simp at hv
  | zero =>
    simp at hv
    subst hv
    have e : (⟨w.heap.size, 0, none⟩ : Addr).add (i * kStr.sz + 0) = ⟨w.heap.size, i, none⟩ := by
      unfold Addr.add; simp [kStr]; rintro rfl; rfl
    rw [e, cell_of_row _ _ i _ _ _ (blk_new w _)]
    simp [hx]

/-- '[]byte(s)': a new row. -/
theorem conv_bytes {P : Program} {src dst e : TypeId} {u : TypeDesc} (hs : P.underlying src = some u) (hd : P.underlying dst = some (.slice e)) (he : P.underlying e = some (.int .u8)) (s : ByteArray) (W : World) :
    ∃ (c : Nat) (sp : List Value) (fr : Nat × Nat) (W2 : World), (convert src dst (.string s)).run P W = .ok (.slice (some ⟨W.heap.size, 0, none⟩) s.size c) W2 ∧
      W2.heap[W.heap.size]? = some (.cells ((s.data.toList.map fun b => Value.int .u8 b.toNat) ++ sp).toArray e fr) ∧ (∀ j, j < s.size → W2.frozen? ⟨W.heap.size, j, none⟩ = false) ∧ Ext W W2 := by
  refine ⟨_, List.replicate (grownCap W s.size 0 e - s.size) (.int .u8 0), ((Lib.bytesCells W e s).size, (Lib.bytesCells W e s).size + 1), _, Lib.run_convert_string_bytes W src dst e s hs hd he, ?_, fun j hj => ?_, ?_⟩
  · rw [Lib.bytesWorld_at_new]
    simp [Lib.bytesCells]
  · simp only [World.frozen?, Lib.bytesWorld_at_new]
    have : s.size ≤ (Lib.bytesCells W e s).size := by simp [Lib.bytesCells]
    simp
    omega
  · exact ⟨rfl, rfl, rfl, by rw [Lib.bytesWorld_size]; omega, fun i hi => Lib.bytesWorld_at_old W e s i hi⟩
theorem push_all : ∀ (l : List UInt8) (r : ByteArray), (l.map fun b => (b.toNat : Int)).foldl (fun r n => r.push (UInt8.ofNat n.toNat)) r = ⟨r.data ++ l.toArray⟩
  | [], r => by simp
  | b :: l, r => by
    simp only [List.map_cons, List.foldl_cons]
    rw [push_all l]
    simp [ByteArray.push]
/-- 'string(b)' of a row that is known. -/
theorem conv_str {P : Program} {src dst e : TypeId} (hs : P.underlying src = some (.slice e)) (he : P.underlying e = some (.int .u8)) (hd : P.underlying dst = some .string) {W : World} {g n c : Nat} {cs : List Value} {fr : Nat × Nat} {l : List UInt8}
    (hg : W.heap[g]? = some (.cells cs.toArray e fr)) (hn : l.length = n) (hl : ∀ (j : Nat) b, l[j]? = some b → cs[j]? = some (.int .u8 b.toNat)) :
    (convert src dst (.slice (some ⟨g, 0, none⟩) n c)).run P W = .ok (.string ⟨l.toArray⟩) W := by
  subst hn
  rw [run_convert_bytes_string W src dst e _ _ c hs he hd]
  have h := run_loadCells_list (P := P) (w := W) (⟨g, 0, none⟩ : Addr) ((l.map fun b => (b.toNat : Int)).map (Value.int .u8)) (fun j v hv => by
    have e : (⟨g, 0, none⟩ : Addr).add j = ⟨g, j, none⟩ := by unfold Addr.add; simp; rintro rfl; rfl
    rw [e, cell_of_row W g j _ _ _ hg]
    simp at hv
    obtain ⟨b, hb, rfl⟩ := hv
    simpa using hl j b hb)
  simp only [List.length_map] at h
  rw [run_bytesToString W _ _ _ _ h, push_all]
  congr 3
  show (#[] : Array UInt8) ++ l.toArray = l.toArray
  simp

theorem rd_strs_at (w : World) (T : TypeId) (l : List ByteArray) {g : Nat} (hg : w.heap.size = g) (h : ∀ s ∈ l, s.size ≤ 140737488351232) (hl : l.length ≤ 1000) :
    Rd (kSl kStr) (w.alloc (.cells (l.map Value.string).toArray T)).drew l (.slice (some ⟨g, 0, none⟩) l.length l.length) := by
  subst hg; exact (rd_strs w T l h hl).ext (Ext.refl _).drew

/-! ### regions that draw their order -/
theorem region_tail {P : Program} {id : Nat} {Q : Exit → Act → World → Prop} {a : Act} {w : World} {l : List Oper} (n : Nat) (hm : P.follows .mixedOrders = true) (hB : Region.lexTailB .any l.toArray n = true)
    (h : wpStill P l.toArray w.drew (fun a' => wpList P l.toArray Q (l.drop n) a' w.drew) (l.take n) a) : (Code.region id l.toArray true).wp P Q a w :=
  wp_region_still_tail n hm hB h

/-! ### numbers -/
theorem wrap_u64 (n : Int) (h0 : 0 ≤ n) (h1 : n < 18446744073709551616) : IntKind.u64.wrap n = n := by
  simp only [IntKind.wrap, IntKind.bits, IntKind.signed, Bool.false_and, Bool.false_eq_true, if_false]
  omega
theorem wrapi (n : Int) (h0 : -9223372036854775808 ≤ n) (h1 : n ≤ 9223372036854775807) : IntKind.i64.wrap n = n := by
  simp only [IntKind.wrap, IntKind.bits, IntKind.signed, Bool.true_and, decide_eq_true_eq, ge_iff_le]
  split <;> omega
theorem wrap_i64 (n : Int) (h0 : -9223372036854775808 ≤ n) (h1 : n ≤ 9223372036854775807) : wrap64 n = n := by unfold wrap64; omega
theorem take_snoc (s : ByteArray) (k : Nat) (h : k < s.size) : s.data.toList.take (k + 1) = s.data.toList.take k ++ [s[k]] := by
  rw [List.take_succ_eq_append_getElem (by simpa using h)]; rfl
end Go.Proofs.Ytinodflkkcdakaa
