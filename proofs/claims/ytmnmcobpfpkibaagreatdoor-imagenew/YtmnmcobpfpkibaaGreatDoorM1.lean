import Derived.Test.YtmnmcobpfpkibaaGreatDoorProg
import Derived.WalkKit
import Derived.WalkSpells
import Derived.WalkLawsBesides
import Derived.Deep.QuietTactic
import Derived.BigQuiet
import Derived.StillTailTactics
import Derived.KernelRfl
import Derived.Lib.Hide
import Derived.Lib.ConvBytes
import Derived.Deep.LoopGhost
import Derived.Shelf.Spec.TrailingZeros
import Derived.Great.BuildSlice
import Derived.Laws.AppendOwn
import Derived.Laws.OwnMore
import Derived.Laws.StructEq
import Derived.MapKept
namespace Go.Proofs.YtmnmcobpfpkibaaGreatDoor
open Go.RowKit
set_option linter.unusedVariables false

abbrev Ext (w w' : World) : Prop := Below w.heap.size w w'
theorem Ext.refl (w : World) : Ext w w := Below.refl _ _
theorem Ext.trans {a b c : World} (h : Ext a b) (k : Ext b c) : Ext a c := Below.trans h (Below.mono k h.size)
theorem Ext.alloc {a w : World} (h : Ext a w) (o : Obj) : Ext a (w.alloc o) := Below.alloc h h.size o
theorem Ext.drew {a w : World} (h : Ext a w) : Ext a w.drew := Below.drew h
theorem Ext.set {a w : World} (h : Ext a w) {p : Addr} (hp : a.heap.size ≤ p.block) (v : Value) : Ext a (w.setCell p v) := Below.setCell h hp v
theorem Ext.cell {w w' : World} (h : Ext w w') {a : Addr} {v : Value} (hc : w.cell? a = some v) : w'.cell? a = some v := (Below.cell h (World.block_lt_of_cell? w a hc)).trans hc
theorem Ext.blk {w w' : World} (h : Ext w w') {g : Nat} {o : Obj} (hc : w.heap[g]? = some o) : w'.heap[g]? = some o := (h.block g (Array.getElem?_eq_some_iff.1 hc).1).trans hc
theorem blk_lt {w : World} {g : Nat} {o : Obj} (h : w.heap[g]? = some o) : g < w.heap.size := (Array.getElem?_eq_some_iff.1 h).1
theorem blk_new (w : World) (o : Obj) : (w.alloc o).heap[w.heap.size]? = some o := heap_alloc_new w o
theorem blk_old (w : World) (o : Obj) {k : Nat} (h : k < w.heap.size) : (w.alloc o).heap[k]? = w.heap[k]? := Below.heap_alloc w o k h
theorem size_alloc (w : World) (o : Obj) : (w.alloc o).heap.size = w.heap.size + 1 := Array.size_push o
structure Kd (α : Type) where
  sz : Nat
  by_ : Nat
  st : Bool
  ok : α → Prop
  K : World → (Nat → Prop) → α → List Value → Prop
  z : α
  zc : List Value
  zk : ∀ w S, K w S z zc
  s1 : st = false → sz = 1
  len : ∀ {w S x cs}, K w S x cs → cs.length = sz
  one : ∀ {w S x cs}, K w S x cs → ∀ v ∈ cs, v.oneCell' = true
  frame : ∀ {w w' : World} {S S' : Nat → Prop} {x cs}, (∀ b, S b → S' b ∧ w'.heap[b]? = w.heap[b]?) → K w S x cs → K w' S' x cs
def Kd.C {α : Type} (k : Kd α) (w : World) (S : Nat → Prop) (A : Option Addr) (xs : List α) : Prop :=
  ∀ i x, xs[i]? = some x → ∃ ad cs, A = some ad ∧ S ad.block ∧ k.K w S x cs ∧ ∀ j v, cs[j]? = some v → w.cell? (ad.add (i * k.sz + j)) = some v
def Kd.V {α : Type} (k : Kd α) (w : World) (S : Nat → Prop) (x : α) (v : Value) : Prop :=
  match k.st with
  | true => ∃ cs, v = .agg cs ∧ k.K w S x cs.toList
  | false => k.K w S x [v]
theorem add_blk (a : Addr) (n : Nat) : (a.add n).block = a.block := by unfold Addr.add; split <;> rfl
theorem add_add (a : Addr) (m n : Nat) : (a.add m).add n = a.add (m + n) := by
  unfold Addr.add
  by_cases hm : m = 0
  · simp [hm]
  · by_cases hn : n = 0
    · simp [hn]
    · simp [hm, hn, Nat.add_assoc]
theorem add_plain (g o n : Nat) : (⟨g, o, none⟩ : Addr).add n = ⟨g, o + n, none⟩ := by
  unfold Addr.add
  by_cases hn : n = 0
  · simp [hn]
  · simp [hn]
theorem Kd.C_frame {α : Type} {k : Kd α} {w w' : World} {S S' : Nat → Prop} {A : Option Addr} {xs : List α} (h : ∀ b, S b → S' b ∧ w'.heap[b]? = w.heap[b]?) (hc : k.C w S A xs) : k.C w' S' A xs := by
  intro i x hx
  obtain ⟨ad, cs, e, hs, hk, hcs⟩ := hc i x hx
  refine ⟨ad, cs, e, (h _ hs).1, k.frame h hk, fun j v hv => ?_⟩
  rw [World.cell?_of_block (w := w) (a := ad.add (i * k.sz + j)) (by rw [add_blk]; exact (h _ hs).2)]
  exact hcs j v hv
theorem Kd.V_frame {α : Type} {k : Kd α} {w w' : World} {S S' : Nat → Prop} {x : α} {v : Value} (h : ∀ b, S b → S' b ∧ w'.heap[b]? = w.heap[b]?) (hv : k.V w S x v) : k.V w' S' x v := by
  unfold Kd.V at *
  split at hv
  · obtain ⟨cs, e, hk⟩ := hv; exact ⟨cs, e, k.frame h hk⟩
  · exact k.frame h hv
theorem Kd.V_cells {α : Type} {k : Kd α} {w : World} {S : Nat → Prop} {x : α} {v : Value} (h : k.V w S x v) : k.K w S x v.cells.toList := by
  unfold Kd.V at h
  split at h
  · obtain ⟨cs, rfl, hk⟩ := h; exact hk
  · have := k.one h v (by simp)
    cases v <;> first | exact h | (simp [Value.oneCell'] at this)
def Kd.mk' {α : Type} (k : Kd α) (cs : List Value) : Value := match k.st with | true => .agg cs.toArray | false => cs.headD undef
theorem Kd.V_mk {α : Type} {k : Kd α} {w : World} {S : Nat → Prop} {x : α} {cs : List Value} (h : k.K w S x cs) : k.V w S x (k.mk' cs) := by
  unfold Kd.V Kd.mk'
  cases hs : k.st with
  | true => exact ⟨_, rfl, h⟩
  | false =>
    have := k.len h
    rw [k.s1 hs] at this
    match cs, this with
    | [v], _ => exact h
theorem Kd.mk_cells {α : Type} {k : Kd α} {w : World} {S : Nat → Prop} {x : α} {cs : List Value} (h : k.K w S x cs) : (k.mk' cs).cells = cs.toArray := by
  unfold Kd.mk'
  cases hs : k.st with
  | true => rfl
  | false =>
    have := k.len h
    rw [k.s1 hs] at this
    match cs, this with
    | [v], _ =>
      have := k.one h v (by simp)
      cases v <;> first | rfl | (simp [Value.oneCell'] at this)

def kNum (t : IntKind) (b : Nat) (lo hi : Int) : Kd Int where
  sz := 1
  by_ := b
  st := false
  ok := fun n => lo ≤ n ∧ n ≤ hi
  K := fun _ _ n cs => cs = [.int t n]
  z := 0
  zc := [.int t 0]
  zk := fun _ _ => rfl
  s1 := fun _ => rfl
  len := fun h => by rw [h]; rfl
  one := fun h => by rw [h]; simp [Value.oneCell']
  frame := fun _ h => h
def kInt : Kd Int := kNum .i64 8 (-9223372036854775808) 9223372036854775807
def kByte : Kd Int := kNum .u8 1 0 255
def kU64 : Kd Int := kNum .u64 8 0 18446744073709551615
def kBool : Kd Bool where
  sz := 1
  by_ := 1
  st := false
  ok := fun _ => True
  K := fun _ _ b cs => cs = [.bool b]
  z := false
  zc := [.bool false]
  zk := fun _ _ => rfl
  s1 := fun _ => rfl
  len := fun h => by rw [h]; rfl
  one := fun h => by rw [h]; simp [Value.oneCell']
  frame := fun _ h => h
def kStr : Kd ByteArray where
  sz := 1
  by_ := 16
  st := false
  ok := fun s => s.size ≤ 140737488351232
  K := fun _ _ s cs => cs = [.string s]
  z := ByteArray.empty
  zc := [.string ByteArray.empty]
  zk := fun _ _ => rfl
  s1 := fun _ => rfl
  len := fun h => by rw [h]; rfl
  one := fun h => by rw [h]; simp [Value.oneCell']
  frame := fun _ h => h
def kSl {α : Type} (k : Kd α) : Kd (List α) where
  sz := 1
  by_ := 24
  st := false
  ok := fun l => l.length * k.by_ ≤ 140737488351232 ∧ l.length ≤ 9223372036854775807 ∧ ∀ x ∈ l, k.ok x
  K := fun w S xs cs => ∃ A c, cs = [.slice A xs.length c] ∧ xs.length ≤ c ∧ c ≤ 9223372036854775807 ∧ (A = none → c = 0) ∧ k.C w S A xs
  z := []
  zc := [.slice none 0 0]
  zk := fun _ _ => ⟨none, 0, rfl, Nat.le_refl _, by decide, fun _ => rfl, fun i x hx => by simp at hx⟩
  s1 := fun _ => rfl
  len := fun h => by obtain ⟨A, c, e, _⟩ := h; rw [e]; rfl
  one := fun h => by obtain ⟨A, c, e, _⟩ := h; rw [e]; simp [Value.oneCell']
  frame := fun h hk => by obtain ⟨A, c, e, h1, h2, h3, hc⟩ := hk; exact ⟨A, c, e, h1, h2, h3, Kd.C_frame h hc⟩
def kTwo {α β : Type} (k : Kd α) (l : Kd β) : Kd (α × β) where
  sz := k.sz + l.sz
  by_ := 0
  st := true
  ok := fun x => k.ok x.1 ∧ l.ok x.2
  K := fun w S x cs => ∃ c1 c2, cs = c1 ++ c2 ∧ k.K w S x.1 c1 ∧ l.K w S x.2 c2
  z := (k.z, l.z)
  zc := k.zc ++ l.zc
  zk := fun w S => ⟨_, _, rfl, k.zk w S, l.zk w S⟩
  s1 := fun h => by cases h
  len := fun h => by obtain ⟨c1, c2, e, h1, h2⟩ := h; rw [e, List.length_append, k.len h1, l.len h2]
  one := fun h => by
    obtain ⟨c1, c2, e, h1, h2⟩ := h
    rw [e]
    intro v hv
    rcases List.mem_append.1 hv with hv | hv
    · exact k.one h1 v hv
    · exact l.one h2 v hv
  frame := fun h hk => by obtain ⟨c1, c2, e, h1, h2⟩ := hk; exact ⟨c1, c2, e, k.frame h h1, l.frame h h2⟩
def kIso {α β : Type} (k : Kd β) (b : Nat) (f : α → β) (z : α) (hz : f z = k.z) : Kd α where
  sz := k.sz
  by_ := b
  st := true
  ok := fun x => k.ok (f x)
  K := fun w S x cs => k.K w S (f x) cs
  z := z
  zc := k.zc
  zk := fun w S => by rw [hz]; exact k.zk w S
  s1 := fun h => by cases h
  len := fun h => k.len h
  one := fun h => k.one h
  frame := fun h hk => k.frame h hk

structure Fld {α β : Type} (k : Kd α) (o : Nat) (l : Kd β) (get : α → β) (set : α → β → α) : Prop where
  bd : o + l.sz ≤ k.sz
  g : ∀ {w S x cs}, k.K w S x cs → l.K w S (get x) ((cs.drop o).take l.sz)
  s : ∀ {w S x y cs c}, k.K w S x cs → l.K w S y c → k.K w S (set x y) (cs.take o ++ c ++ cs.drop (o + l.sz))
theorem Fld.me {α : Type} (k : Kd α) : Fld k 0 k (fun x => x) (fun _ y => y) where
  bd := by omega
  g := fun h => by rw [List.drop_zero, List.take_of_length_le (by have := k.len h; omega)]; exact h
  s := fun h h' => by rw [List.take_zero, List.nil_append, List.drop_of_length_le (by have := k.len h; omega), List.append_nil]; exact h'
theorem Fld.fst {α β γ : Type} {k : Kd α} (m : Kd γ) {o : Nat} {l : Kd β} {get : α → β} {set : α → β → α} (f : Fld k o l get set) : Fld (kTwo k m) o l (fun x => get x.1) (fun x y => (set x.1 y, x.2)) where
  bd := by have := f.bd; simp only [kTwo]; omega
  g := fun h => by
    obtain ⟨c1, c2, rfl, h1, h2⟩ := h
    have e := k.len h1
    have b := f.bd
    rw [List.drop_append_of_le_length (by omega), List.take_append_of_le_length (by simp; omega)]
    exact f.g h1
  s := fun h h' => by
    obtain ⟨c1, c2, rfl, h1, h2⟩ := h
    have e := k.len h1
    have b := f.bd
    refine ⟨_, c2, ?_, f.s h1 h', h2⟩
    rw [List.take_append_of_le_length (by omega), List.drop_append_of_le_length (by omega), List.append_assoc, List.append_assoc, List.append_assoc]
theorem Fld.snd {α β γ : Type} {m : Kd γ} (k : Kd α) {o : Nat} {l : Kd β} {get : γ → β} {set : γ → β → γ} (f : Fld m o l get set) : Fld (kTwo k m) (k.sz + o) l (fun x => get x.2) (fun x y => (x.1, set x.2 y)) where
  bd := by have := f.bd; simp only [kTwo]; omega
  g := fun h => by
    obtain ⟨c1, c2, rfl, h1, h2⟩ := h
    have e := k.len h1
    rw [← List.drop_drop, List.drop_left' e]
    exact f.g h2
  s := fun h h' => by
    obtain ⟨c1, c2, rfl, h1, h2⟩ := h
    have e := k.len h1
    refine ⟨c1, _, ?_, h1, f.s h2 h'⟩
    rw [List.take_append, List.take_of_length_le (by omega), e, show k.sz + o - k.sz = o by omega, Nat.add_assoc, ← List.drop_drop, List.drop_left' e]
    simp only [List.append_assoc]
theorem Fld.iso {α β γ : Type} {m : Kd γ} {b : Nat} {f : α → γ} {z : α} {hz : f z = m.z} {o : Nat} {l : Kd β} {get : γ → β} {set : γ → β → γ} {get' : α → β} {set' : α → β → α} (h : Fld m o l get set)
    (hg : ∀ x, get (f x) = get' x) (hs : ∀ x y, f (set' x y) = set (f x) y) : Fld (kIso m b f z hz) o l get' set' where
  bd := h.bd
  g := fun {w S x cs} hk => by rw [← hg x]; exact h.g hk
  s := fun {w S x y cs c} hk h' => by
    show m.K w S (f (set' x y)) _
    rw [hs]
    exact h.s hk h'
theorem Fld.comp {α β γ : Type} {k : Kd α} {l : Kd β} {m : Kd γ} {o o' : Nat} {g : α → β} {s : α → β → α} {g' : β → γ} {s' : β → γ → β} (h : Fld k o l g s) (h' : Fld l o' m g' s') :
    Fld k (o + o') m (fun x => g' (g x)) (fun x y => s x (s' (g x) y)) where
  bd := by have := h.bd; have := h'.bd; omega
  g := fun {w S x cs} hk => by
    have b := h.bd; have b' := h'.bd; have e := k.len hk
    have := h'.g (h.g hk)
    rwa [List.drop_take, List.take_take, List.drop_drop, Nat.min_eq_left (by omega)] at this
  s := fun {w S x y cs c} hk hc => by
    have b := h.bd; have b' := h'.bd; have e := k.len hk; have ec := m.len hc
    have := h.s hk (h'.s (h.g hk) hc)
    have e2 : cs.take o ++ ((List.take l.sz (cs.drop o)).take o' ++ c ++ (List.take l.sz (cs.drop o)).drop (o' + m.sz)) ++ cs.drop (o + l.sz) = cs.take (o + o') ++ c ++ cs.drop (o + o' + m.sz) := by
      rw [List.take_take, Nat.min_eq_left (by omega : o' ≤ l.sz), ← List.append_assoc, ← List.append_assoc, ← List.take_add, List.drop_take, List.drop_drop, List.append_assoc]
      congr 1
      rw [show cs.drop (o + l.sz) = (cs.drop (o + (o' + m.sz))).drop (l.sz - (o' + m.sz)) by rw [List.drop_drop]; congr 1; omega, List.take_append_drop, Nat.add_assoc]
    rwa [e2] at this

structure Pt where
  w : World
  S : Nat → Prop
  lt : ∀ b, S b → b < w.heap.size
def Pt.le (p q : Pt) : Prop := ∀ b, p.S b → q.S b ∧ q.w.heap[b]? = p.w.heap[b]?
theorem Pt.le_refl (p : Pt) : p.le p := fun _ h => ⟨h, rfl⟩
theorem Pt.le.trans {p q r : Pt} (h : p.le q) (h' : q.le r) : p.le r := fun b hb => ⟨(h' b (h b hb).1).1, (h' b (h b hb).1).2.trans (h b hb).2⟩
def Gl (p : Pt) : Prop := True
theorem gl_up {p q : Pt} (h : p.le q) (hg : Gl p) : Gl q := trivial
structure TV where
  h : Pt → Value → Prop
  up : ∀ {p q : Pt} {v}, p.le q → h p v → h q v
def rd {α : Type} (k : Kd α) (x : α) : TV := ⟨fun p v => k.V p.w p.S x v, fun hl h => Kd.V_frame hl h⟩
def at_ {α : Type} (k : Kd α) (x : α) : TV := ⟨fun p v => ∃ ad cs, v = .pointer (some ad) ∧ p.S ad.block ∧ k.K p.w p.S x cs ∧ ∀ j u, cs[j]? = some u → p.w.cell? (ad.add j) = some u, fun {p q v} hl h => by
  obtain ⟨ad, cs, e, hs, hk, hc⟩ := h
  refine ⟨ad, cs, e, (hl _ hs).1, k.frame hl hk, fun j u hu => ?_⟩
  rw [World.cell?_of_block (w := p.w) (a := ad.add j) (by rw [add_blk]; exact (hl _ hs).2)]
  exact hc j u hu⟩
def own (g o : Nat) : TV := ⟨fun _ v => v = .pointer (some ⟨g, o, none⟩), fun _ h => h⟩
def val (u : Value) : TV := ⟨fun _ v => v = u, fun _ h => h⟩
def both (p : Pt) : List TV → List Value → Prop
  | [], [] => True
  | t :: ts, v :: vs => t.h p v ∧ both p ts vs
  | _, _ => False
theorem both_up {p q : Pt} (h : p.le q) : ∀ {ts vs}, both p ts vs → both q ts vs
  | [], [], _ => trivial
  | t :: ts, v :: vs, hb => ⟨t.up h hb.1, both_up h hb.2⟩
  | [], _ :: _, hb => hb.elim
  | _ :: _, [], hb => hb.elim
def tup (l : List TV) : TV := ⟨fun p v => ∃ vs, v = .tuple vs.toArray ∧ both p l vs, fun hl h => by obtain ⟨vs, e, h⟩ := h; exact ⟨vs, e, both_up hl h⟩⟩
structure BX where
  h : Pt → Obj → Prop
  nil : Prop
  up : ∀ {p q : Pt} {o}, p.le q → h p o → h q o
def box {α : Type} (k : Kd α) (x : α) : BX := ⟨fun p o => ∃ cs t, o = .cells cs t (0, 0) ∧ k.K p.w p.S x cs.toList, False, fun hl h => by obtain ⟨cs, t, e, h⟩ := h; exact ⟨cs, t, e, Kd.frame _ hl h⟩⟩

structure Zt extends Pt where
  gl : Gl toPt
  M : List Nat
structure ExtM (M : List Nat) (w w' : World) : Prop where
  os : w'.os = w.os
  tape : w'.tape = w.tape
  output : w'.output = w.output
  size : w.heap.size ≤ w'.heap.size
  block : ∀ b, b < w.heap.size → b ∉ M → w'.heap[b]? = w.heap[b]?
theorem Ext.m {w w' : World} (h : Ext w w') (M : List Nat) : ExtM M w w' := ⟨h.os, h.tape, h.output, h.size, fun b hb _ => h.block b hb⟩
theorem ExtM.ext {w w' : World} (h : ExtM [] w w') : Ext w w' := ⟨h.os, h.tape, h.output, h.size, fun b hb => h.block b hb (by simp)⟩
theorem ExtM.trans {M : List Nat} {a b c : World} (h : ExtM M a b) (k : Ext b c) : ExtM M a c := ⟨k.os.trans h.os, k.tape.trans h.tape, k.output.trans h.output, Nat.le_trans h.size k.size, fun i hi hM => (k.block i (Nat.lt_of_lt_of_le hi h.size)).trans (h.block i hi hM)⟩
theorem ExtM.alloc {M : List Nat} {a w : World} (h : ExtM M a w) (o : Obj) : ExtM M a (w.alloc o) := h.trans ((Ext.refl w).alloc o)
theorem ExtM.drew {M : List Nat} {a w : World} (h : ExtM M a w) : ExtM M a w.drew := h.trans ((Ext.refl w).drew)
abbrev Slots := List (Nat × TV)
abbrev Boxes := List (Option Nat × BX)
def look : Slots → Nat → Option TV
  | [], _ => none
  | (j, v) :: T, i => bif Nat.beq i j then some v else look T i
structure St (z : Zt) (p : Pt) (n : Nat) (T : Slots) (B : Boxes) (a : Act) : Prop where
  sz : a.tmps.size = n
  df : a.defers = []
  tm : ∀ i t, look T i = some t → ∃ v, a.tmps[i]? = some v ∧ t.h p v
  ow : ∀ g b, (some g, b) ∈ B → ¬ p.S g ∧ (z.w.heap.size ≤ g ∨ g ∈ z.M) ∧ ∃ o, p.w.heap[g]? = some o ∧ b.h p o
  on : ∀ b, (none, b) ∈ B → b.nil
  nd : (B.filterMap (·.1)).Nodup
  ex : ExtM z.M z.w p.w
  su : ∀ b, p.S b → z.S b ∨ z.w.heap.size ≤ b ∨ b ∈ z.M
  le : z.toPt.le p
theorem St.gl {z : Zt} {p : Pt} {n : Nat} {T : Slots} {B : Boxes} {a : Act} (h : St z p n T B a) : Gl p := gl_up h.le z.gl
theorem look_put {T : Slots} {i j : Nat} {t u : TV} : look ((j, t) :: T) i = some u → (i = j ∧ u = t) ∨ (i ≠ j ∧ look T i = some u) := by
  intro hu
  have hu : (bif Nat.beq i j then some t else look T i) = some u := hu
  cases h : Nat.beq i j <;> rw [h] at hu
  · exact .inr ⟨Nat.ne_of_beq_eq_false h, hu⟩
  · injection hu with hu; exact .inl ⟨Nat.eq_of_beq_eq_true h, hu.symm⟩
theorem St.go {z : Zt} {p q : Pt} {n : Nat} {T : Slots} {B B' : Boxes} {a : Act} (h : St z p n T B a) (hl : p.le q) (he : ExtM z.M z.w q.w) (hs : ∀ b, q.S b → z.S b ∨ z.w.heap.size ≤ b ∨ b ∈ z.M)
    (ho : ∀ g b, (some g, b) ∈ B' → ¬ q.S g ∧ (z.w.heap.size ≤ g ∨ g ∈ z.M) ∧ ∃ o, q.w.heap[g]? = some o ∧ b.h q o) (hz : ∀ b, (none, b) ∈ B' → b.nil) (hn : (B'.filterMap (·.1)).Nodup) : St z q n T B' a :=
  ⟨h.sz, h.df, fun i t ht => by obtain ⟨v, h1, h2⟩ := h.tm i t ht; exact ⟨v, h1, t.up hl h2⟩, ho, hz, hn, he, hs, h.le.trans hl⟩
theorem St.put {z : Zt} {p : Pt} {n : Nat} {T : Slots} {B : Boxes} {a : Act} (h : St z p n T B a) {d : Nat} (hd : d < n) {t : TV} {v : Value} (hv : t.h p v) : St z p n ((d, t) :: T) B (a.put (some d) v) := by
  refine ⟨by simp [Act.put, h.sz], h.df, fun i u hu => ?_, h.ow, h.on, h.nd, h.ex, h.su, h.le⟩
  rcases look_put hu with ⟨rfl, rfl⟩ | ⟨hne, hu⟩
  · exact ⟨v, by simp [Act.put, h.sz, hd], hv⟩
  · obtain ⟨v', h1, h2⟩ := h.tm i u hu
    exact ⟨v', by simp [Act.put, Ne.symm hne, h1], h2⟩
theorem St.skip {z : Zt} {p : Pt} {n : Nat} {T : Slots} {B : Boxes} {a : Act} (h : St z p n T B a) (v : Value) : St z p n T B (a.put none v) := h
def Ev (T : Slots) (o : Operand) (t : TV) : Prop := ∀ (p : Pt) (a : Act), (∀ i t, look T i = some t → ∃ v, a.tmps[i]? = some v ∧ t.h p v) → t.h p (a.eval o)
theorem Ev.t {T : Slots} {i : Nat} {t : TV} (hl : look T i = some t) : Ev T (.tmp i) t := fun p a h => by
  obtain ⟨v, h1, h2⟩ := h _ _ hl; simpa [Act.eval, Array.getD_eq_getD_getElem?, h1] using h2
theorem Ev.n {T : Slots} (k : IntKind) (b : Nat) (lo hi x : Int) : Ev T (.const (.int k x)) (rd (kNum k b lo hi) x) := fun _ _ _ => rfl
theorem Ev.b {T : Slots} (x : Bool) : Ev T (.const (.bool x)) (rd kBool x) := fun _ _ _ => rfl
theorem Ev.s {T : Slots} (x : ByteArray) : Ev T (.const (.string x)) (rd kStr x) := fun _ _ _ => rfl
theorem Ev.nil {T : Slots} {α : Type} (k : Kd α) : Ev T (.const (.slice none 0 0)) (rd (kSl k) []) := fun _ _ _ => ⟨none, 0, rfl, Nat.le_refl _, by decide, fun _ => rfl, fun i x hx => by simp at hx⟩
theorem Ev.v {T : Slots} (u : Value) : Ev T (.const u) (val u) := fun _ _ _ => rfl
theorem Ev.f {T : Slots} (g : FuncId) : Ev T (.func g) (val (.func (.func g) #[] #[])) := fun _ _ _ => rfl
theorem ev_i {T : Slots} (x : Int) : Ev T (.const (.int .i64 x)) (rd kInt x) := .n _ _ _ _ _
theorem ev_u {T : Slots} (x : Int) : Ev T (.const (.int .u64 x)) (rd kU64 x) := .n _ _ _ _ _
theorem ev_y {T : Slots} (x : Int) : Ev T (.const (.int .u8 x)) (rd kByte x) := .n _ _ _ _ _
theorem St.ev {z : Zt} {p : Pt} {n : Nat} {T : Slots} {B : Boxes} {a : Act} (h : St z p n T B a) {x : Operand} {t : TV} (he : Ev T x t) : t.h p (a.eval x) := he p a h.tm
end Go.Proofs.YtmnmcobpfpkibaaGreatDoor
namespace Go.Proofs.YtmnmcobpfpkibaaGreatDoor
open Go.RowKit
set_option linter.unusedVariables false

abbrev Kont (ρ : Type) := ρ → Exit → Act → World → Prop
def QN (R : Act → World → Prop) : Exit → Act → World → Prop
  | .normal, a, w => R a w
  | _, _, _ => False
theorem qn_lets {R : Act → World → Prop} : ¬ LetsOut (QN R) := fun ⟨_, _, h⟩ => h
def NoQ : Exit → Act → World → Prop := fun _ _ _ => False
theorem noQ_lets : ¬ LetsOut NoQ := fun ⟨_, _, h⟩ => h
theorem Oper.wp_ofNo {P : Program} {o : Oper} {a : Act} {w : World} {K K' : Act → World → Prop} {Q : Exit → Act → World → Prop} (h : ∀ a w, K a w → K' a w) (hh : o.wp P a w K NoQ) : o.wp P a w K' Q := by
  unfold Oper.wp at *
  generalize (execOp a.eval o).run P w = r at *
  cases r with
  | ok n w' =>
    cases n <;> simp only [Oper.upon] at hh ⊢ <;>
      first
        | exact h _ _ hh
        | exact Calls.mono hh (fun e w'' he => by cases e <;> first | exact h _ _ he | exact he.elim | exact (noQ_lets he).elim)
        | exact Rows.mono hh (fun _ _ he => h _ _ he)
  | halt x w' => cases x <;> simp only [Oper.upon, NoQ] at hh
theorem wpList_monoQ {P : Program} {ops : Array Oper} {Q Q' : Exit → Act → World → Prop} (h : ∀ e a w, Q e a w → Q' e a w) : ∀ (l : List Oper) (a : Act) (w : World), wpList P ops Q l a w → wpList P ops Q' l a w
  | [], a, w, hh => h _ _ _ hh
  | o :: l, a, w, hh => by
    unfold wpList at *
    split
    · rename_i hw
      rw [if_pos hw] at hh
      rcases hh with hh | ⟨h1, a', w', h2⟩
      · refine .inl ?_
        have hk := wpList_monoQ (P := P) (ops := ops) h l
        unfold Oper.wp at *
        generalize (execOp a.eval o).run P w = r at *
        cases r with
        | ok n w' =>
          cases n <;> simp only [Oper.upon] at hh ⊢ <;>
            first
              | exact hk _ _ hh
              | exact Calls.mono hh (fun e w'' he => by cases e <;> first | exact hk _ _ he | exact h _ _ _ he | (obtain ⟨a', w', he⟩ := he; exact ⟨a', w', h _ _ _ he⟩))
              | exact Rows.mono hh (fun _ _ he => hk _ _ he)
        | halt x w' => cases x <;> simp only [Oper.upon] at hh ⊢ <;> exact h _ _ _ hh
      · exact .inr ⟨h1, a', w', h _ _ _ h2⟩
    · rename_i hw; rw [if_neg hw] at hh; exact wpList_monoQ h l _ _ hh

section
variable {P : Program} {ρ : Type} {z : Zt} {n : Nat}

def JC (P : Program) (z : Zt) (n : Nat) (T : Slots) (B : Boxes) (c : Code) (Φ : Option ρ) (Q : Kont ρ) : Prop :=
  ∀ r, Φ = some r → ∀ p a, St z p n T B a → c.wp P (Q r) a p.w
def JX (z : Zt) (n : Nat) (T : Slots) (B : Boxes) (e : Exit) (Φ : Option ρ) (Q : Kont ρ) : Prop :=
  ∀ r, Φ = some r → ∀ p a, St z p n T B a → Q r e a p.w
def JL (P : Program) (z : Zt) (n : Nat) (ops : List Oper) (T : Slots) (B : Boxes) (l : List Oper) (Φ : Option ρ) (Q : Kont ρ) : Prop :=
  ∀ r, Φ = some r → ∀ p a, St z p n T B a → wpList P ops.toArray (QN (Q r .normal)) l a p.w

def qThen (P : Program) (y : Code) (Q : Kont ρ) : Kont ρ := fun r => Exit.then (y.wp P (Q r)) (Q r)
def qBlk (id : Nat) (Q : Kont ρ) : Kont ρ := fun r => Exit.inBlock id (Q r)
def qMid {σ : Type} (z : Zt) (n : Nat) (T' : σ → Slots) (B' : σ → Boxes) (k : σ → Option ρ) (Q : Kont ρ) : Kont ρ := fun r e a w =>
  match e with
  | .normal => ∃ s, k s = some r ∧ ∃ p : Pt, p.w = w ∧ St z p n (T' s) (B' s) a
  | e => Q r e a w

theorem x_tn {T B Φ} {Q : Kont ρ} {y : Code} (h : JC P z n T B y Φ Q) : JX z n T B .normal Φ (qThen P y Q) := h
theorem x_te {T B Φ i} {Q : Kont ρ} {y : Code} (h : JX z n T B (.exit i) Φ Q) : JX z n T B (.exit i) Φ (qThen P y Q) := h
theorem x_tr {T B Φ} {Q : Kont ρ} {y : Code} (h : JX z n T B .ret Φ Q) : JX z n T B .ret Φ (qThen P y Q) := h
theorem x_bn {T B Φ i} {Q : Kont ρ} (h : JX z n T B .normal Φ Q) : JX z n T B .normal Φ (qBlk i Q) := h
theorem x_be {T B Φ i} {Q : Kont ρ} (h : JX z n T B .normal Φ Q) : JX z n T B (.exit i) Φ (qBlk i Q) := fun r hr p a hs => by
  show (if i = i then _ else _); rw [if_pos rfl]; exact h r hr p a hs
theorem x_br {T B Φ i} {Q : Kont ρ} (h : JX z n T B .ret Φ Q) : JX z n T B .ret Φ (qBlk i Q) := h
theorem x_me {σ : Type} {T B Φ i} {T' : σ → Slots} {B' : σ → Boxes} {k : σ → Option ρ} {Q : Kont ρ} (h : JX z n T B (.exit i) Φ Q) : JX z n T B (.exit i) Φ (qMid z n T' B' k Q) := h
theorem x_mr {σ : Type} {T B Φ} {T' : σ → Slots} {B' : σ → Boxes} {k : σ → Option ρ} {Q : Kont ρ} (h : JX z n T B .ret Φ Q) : JX z n T B .ret Φ (qMid z n T' B' k Q) := h
def Sub : Slots → Slots → Prop
  | [], _ => True
  | (i, t) :: l, T => look T i = some t ∧ Sub l T
theorem look_sub {T : Slots} : ∀ {T' : Slots} {i t}, Sub T' T → look T' i = some t → look T i = some t
  | (j, u) :: T', i, t, h, hl => by
    have hl : (bif Nat.beq i j then some u else look T' i) = some t := hl
    cases hb : Nat.beq i j <;> rw [hb] at hl
    · exact look_sub h.2 hl
    · injection hl with hl; subst hl; rw [Nat.eq_of_beq_eq_true hb]; exact h.1
inductive SubB : Boxes → Boxes → Prop
  | nil (B) : SubB [] B
  | c {b B' B} : SubB B' B → SubB (b :: B') (b :: B)
  | s {b B' B} : SubB B' B → SubB B' (b :: B)
theorem SubB.sub {B' B : Boxes} (h : SubB B' B) : B'.Sublist B := by
  induction h with
  | nil B => exact List.nil_sublist _
  | c _ ih => exact ih.cons_cons _
  | s _ ih => exact ih.cons _
theorem SubB.refl : ∀ B : Boxes, SubB B B
  | [] => .nil _
  | _ :: B => .c (SubB.refl B)
theorem St.less {p : Pt} {T T' : Slots} {B B' : Boxes} {a : Act} (h : St z p n T B a) (ht : Sub T' T) (hb : SubB B' B) : St z p n T' B' a :=
  ⟨h.sz, h.df, fun i t hl => h.tm i t (look_sub ht hl), fun g b hg => h.ow g b (hb.sub.subset hg), fun b hg => h.on b (hb.sub.subset hg), (hb.sub.filterMap _).nodup h.nd, h.ex, h.su, h.le⟩
theorem x_mid {σ : Type} {T B Φ} {T' : σ → Slots} {B' : σ → Boxes} {k : σ → Option ρ} {Q : Kont ρ} (s : σ) (hk : Φ = k s) (ht : Sub (T' s) T) (hb : SubB (B' s) B) : JX z n T B .normal Φ (qMid z n T' B' k Q) :=
  fun r hr p a hs => ⟨s, hk ▸ hr, p, rfl, hs.less ht hb⟩

theorem c_seq {T B Φ} {Q : Kont ρ} {x y : Code} (h : JC P z n T B x Φ (qThen P y Q)) : JC P z n T B (x.seq y) Φ Q := fun r hr p a hs => wp_seq (h r hr p a hs)
theorem c_blk {T B Φ i} {Q : Kont ρ} {x : Code} (h : JC P z n T B x Φ (qBlk i Q)) : JC P z n T B (.block i x) Φ Q := fun r hr p a hs => wp_block (h r hr p a hs)
theorem c_exit {T B Φ i} {Q : Kont ρ} (h : JX z n T B (.exit i) Φ Q) : JC P z n T B (.exit i) Φ Q := fun r hr p a hs => wp_exit (h r hr p a hs)
theorem c_skip {T B Φ} {Q : Kont ρ} (h : JX z n T B .normal Φ Q) : JC P z n T B .skip Φ Q := fun r hr p a hs => wp_skip (h r hr p a hs)
theorem c_ret {T B Φ} {Q : Kont ρ} (h : JX z n T B .ret Φ Q) : JC P z n T B .ret Φ Q := fun r hr p a hs => wp_ret (h r hr p a hs)
theorem c_reg {T B Φ i} {Q : Kont ρ} {l : List Oper} (h : JL P z n l T B l Φ Q) : JC P z n T B (.region i l.toArray false) Φ Q := fun r hr p a hs =>
  wp_region_lit (wpList_monoQ (fun e a w hq => by cases e <;> first | exact hq | exact hq.elim) _ _ _ (h r hr p a hs))
theorem c_if {T B i} {b : Bool} {Φ Ψ : Option ρ} {Q : Kont ρ} {x y : Code} (hi : look T i = some (rd kBool b)) (hx : b = true → JC P z n T B x Φ Q) (hy : b = false → JC P z n T B y Ψ Q) :
    JC P z n T B (.cond (.tmp i) x y) (if b = true then Φ else Ψ) Q := fun r hr p a hs => by
  have hv := hs.ev (.t hi)
  have hv : a.eval (.tmp i) = .bool b := by have : [a.eval (.tmp i)] = [Value.bool b] := hv; simpa using this
  refine wp_cond_split hv (fun e => ?_) (fun e => ?_)
  · rw [if_pos e] at hr; exact hx e r hr p a hs
  · rw [if_neg (by simp [e])] at hr; exact hy e r hr p a hs
theorem c_mid {σ : Type} {T B Φ} {Q : Kont ρ} {x y : Code} (T' : σ → Slots) (B' : σ → Boxes) (k : σ → Option ρ) (h : JC P z n T B x Φ (qMid z n T' B' k Q)) (hy : ∀ s, JC P z n (T' s) (B' s) y (k s) Q) : JC P z n T B (x.seq y) Φ Q :=
  fun r hr p a hs => wp_seq (wp_mono (h r hr p a hs) fun e a' w' hq => by
    cases e with
    | normal => obtain ⟨s, hk, q, rfl, hq⟩ := hq; exact hy s r hk q a' hq
    | _ => exact hq)
theorem l_nil {T B Φ ops} {Q : Kont ρ} (h : JX z n T B .normal Φ Q) : JL P z n ops T B [] Φ Q := h
theorem l_bind {α : Type} {T B ops l} {m : Option α} {K : α → Option ρ} {Q : Kont ρ} (h : ∀ x, m = some x → JL P z n ops T B l (K x) Q) : JL P z n ops T B l (m.bind K) Q := fun r hr => by
  obtain ⟨x, hx, hr⟩ := Option.bind_eq_some_iff.1 hr; exact h x hx r hr
theorem l_if {T B ops l} {b : Bool} {Φ Ψ : Option ρ} {Q : Kont ρ} (hx : b = true → JL P z n ops T B l Φ Q) (hy : b = false → JL P z n ops T B l Ψ Q) : JL P z n ops T B l (if b = true then Φ else Ψ) Q := fun r hr => by
  cases b
  · exact hy rfl r hr
  · exact hx rfl r hr
def Gd (ops : List Oper) (T : Slots) : Option (Nat × Bool) → Prop
  | none => True
  | some (j, want) => ∃ d, ((ops[j]?).bind (·.dst)) = some d ∧ ∃ b, look T d = some (rd kBool b) ∧ b = want
def Gn (ops : List Oper) (T : Slots) : Option (Nat × Bool) → Prop
  | none => False
  | some (j, want) => ∃ d, ((ops[j]?).bind (·.dst)) = some d ∧ ((∃ b, look T d = some (rd kBool b) ∧ b ≠ want) ∨ look T d = some (val undef))
theorem wanted_of {p : Pt} {T : Slots} {B : Boxes} {a : Act} {ops : List Oper} {o : Oper} (hs : St z p n T B a) (g : Gd ops T o.guard) : Region.wanted o (yielded ops.toArray a.tmps) = true := by
  unfold Region.wanted
  cases hg : o.guard with
  | none => rfl
  | some jw =>
    obtain ⟨j, want⟩ := jw
    rw [hg] at g
    obtain ⟨d, hd, b, hl, rfl⟩ := g
    obtain ⟨v, h1, h2⟩ := hs.tm _ _ hl
    have h2 : v = .bool b := by have : [v] = [Value.bool b] := h2; simpa using this
    simp [yielded, hd, h1, h2]
theorem not_wanted_of {p : Pt} {T : Slots} {B : Boxes} {a : Act} {ops : List Oper} {o : Oper} (hs : St z p n T B a) (g : Gn ops T o.guard) : Region.wanted o (yielded ops.toArray a.tmps) = false := by
  unfold Region.wanted
  cases hg : o.guard with
  | none => rw [hg] at g; exact g.elim
  | some jw =>
    obtain ⟨j, want⟩ := jw
    rw [hg] at g
    obtain ⟨d, hd, g⟩ := g
    rcases g with ⟨b, hl, hne⟩ | hl
    · obtain ⟨v, h1, h2⟩ := hs.tm _ _ hl
      have h2 : v = .bool b := by have : [v] = [Value.bool b] := h2; simpa using this
      simp [yielded, hd, h1, h2, hne]
    · obtain ⟨v, h1, h2⟩ := hs.tm _ _ hl
      have h2 : v = undef := h2
      simp [yielded, hd, h1, h2, undef]
theorem wpList_append {ops : Array Oper} {Q : Exit → Act → World → Prop} {l2 : List Oper} : ∀ (l1 : List Oper) (a : Act) (w : World), wpList P ops (QN (fun a w => wpList P ops Q l2 a w)) l1 a w → wpList P ops Q (l1 ++ l2) a w
  | [], a, w, h => h
  | o :: l1, a, w, h => by
    show wpList P ops Q (o :: (l1 ++ l2)) a w
    unfold wpList at *
    split
    · rename_i hw
      rw [if_pos hw] at h
      rcases h with h | h
      · refine .inl ?_
        have hk := wpList_append (ops := ops) (Q := Q) (l2 := l2) l1
        unfold Oper.wp at *
        generalize (execOp a.eval o).run P w = r at *
        cases r with
        | ok n w' =>
          cases n <;> simp only [Oper.upon] at h ⊢ <;>
            first
              | exact hk _ _ h
              | exact Calls.mono h (fun e w'' he => by cases e <;> first | exact hk _ _ he | exact he.elim | exact (qn_lets he).elim)
              | exact Rows.mono h (fun _ _ he => hk _ _ he)
        | halt x w' => cases x <;> simp only [Oper.upon] at h ⊢ <;> exact h.elim
      · exact (qn_lets h.2).elim
    · rename_i hw; rw [if_neg hw] at h; exact wpList_append l1 _ _ h
theorem l_mid {σ : Type} {T B ops l Φ} {Q : Kont ρ} (m : Nat) (T' : σ → Slots) (B' : σ → Boxes) (k : σ → Option ρ) (h : JL P z n ops T B (l.take m) Φ (qMid z n T' B' k Q)) (hy : ∀ s, JL P z n ops (T' s) (B' s) (l.drop m) (k s) Q) : JL P z n ops T B l Φ Q := fun r hr p a hs => by
  have := wpList_append (P := P) (ops := ops.toArray) (Q := QN (Q r .normal)) (l2 := l.drop m) (l.take m) a p.w (wpList_monoQ (fun e a' w' hq => by
    cases e with
    | normal => obtain ⟨s, hk, q, rfl, hq⟩ := hq; exact hy s r hk q a' hq
    | _ => exact hq.elim) _ _ _ (h r hr p a hs))
  rwa [List.take_append_drop] at this

def PO (P : Program) (z : Zt) (n : Nat) (T : Slots) (B : Boxes) (op : Op) (t : TV) : Prop :=
  ∀ p a, St z p n T B a → ∃ v, t.h p v ∧ ∀ (o : Oper) (w' : World), o.op = op → Ext p.w w' → (execOp a.eval o).run P w' = .ok (.value v) w'
theorem l_po {T B ops l Φ ty pos af gd op d t} {Q : Kont ρ} (g : Gd ops T gd) (hp : PO P z n T B op t) (hd : Nat.ble (d + 1) n = true) (h : JL P z n ops ((d, t) :: T) B l Φ Q) : JL P z n ops T B (⟨some d, op, ty, pos, af, gd⟩ :: l) Φ Q := fun r hr p a hs => by
  unfold wpList
  rw [if_pos (wanted_of hs (o := ⟨some d, op, ty, pos, af, gd⟩) g)]
  obtain ⟨v, hv, he⟩ := hp p a hs
  refine .inl ?_
  unfold Oper.wp
  rw [he _ p.w rfl (Ext.refl _)]
  exact h r hr p _ (hs.put (Nat.le_of_ble_eq_true hd) hv)
theorem l_p {T B ops l Φ ty pos af op d t} {Q : Kont ρ} (hp : PO P z n T B op t) (hd : Nat.ble (d + 1) n = true) (h : JL P z n ops ((d, t) :: T) B l Φ Q) : JL P z n ops T B (⟨some d, op, ty, pos, af, none⟩ :: l) Φ Q := l_po trivial hp hd h
def EO (P : Program) (z : Zt) (n : Nat) (T : Slots) (B : Boxes) (o : Oper) (R : Pt → Act → Prop) : Prop :=
  ∀ p a, St z p n T B a → ∀ K : Act → World → Prop, (∀ q a', R q a' → Ext p.w q.w → K a' q.w) → o.wp P a p.w K NoQ
def SO (P : Program) (z : Zt) (n : Nat) (T : Slots) (B : Boxes) (o : Oper) (R : Pt → Act → Prop) : Prop :=
  ∀ p a, St z p n T B a → ∀ K : Act → World → Prop, (∀ q a', R q a' → K a' q.w) → o.wp P a p.w K NoQ
theorem EO.so {T B o} {R : Pt → Act → Prop} (h : EO P z n T B o R) : SO P z n T B o R := fun p a hs K hK => h p a hs K fun q a' hr _ => hK q a' hr
theorem l_so {T B ops l Φ o} {R : Pt → Act → Prop} {Q : Kont ρ} (g : Gd ops T o.guard) (hp : SO P z n T B o R) (h : ∀ r, Φ = some r → ∀ q a, R q a → wpList P ops.toArray (QN (Q r .normal)) l a q.w) : JL P z n ops T B (o :: l) Φ Q := fun r hr p a hs => by
  unfold wpList
  rw [if_pos (wanted_of hs g)]
  exact .inl (Oper.wp_ofNo (fun _ _ h => h) (hp p a hs _ (fun q a' hR => h r hr q a' hR)))

def Fok (P : Program) (f : FuncId) : Prop := ∃ fn, P.funcs[f]? = some fn ∧ fn.body.isSome = true ∧ (fn.name == "runtime.NumGoroutine") = false
def Ct (P : Program) (f : FuncId) (ts : List TV) (Φ : Option ρ) (res : ρ → TV) : Prop :=
  Fok P f ∧ ∀ r, Φ = some r → ∀ (p : Pt) (vs : List Value), Gl p → both p ts vs → Calls P f vs.toArray p.w fun e w' => ∃ v, e = .returned v ∧ ∃ q : Pt, q.w = w' ∧ p.le q ∧ Ext p.w w' ∧ (∀ b, q.S b → p.S b ∨ p.w.heap.size ≤ b) ∧ (res r).h q v
def qRet (P : Program) (fn : Func) (z : Zt) (n : Nat) (res : ρ → TV) : Kont ρ := fun r e a w =>
  match e with
  | .ret | .normal => a.defers = [] ∧ ∃ v, (results fn a.tmps).run P w = .ok v w ∧ ∃ q : Pt, q.w = w ∧ z.toPt.le q ∧ ExtM z.M z.w w ∧ (∀ b, q.S b → z.S b ∨ z.w.heap.size ≤ b ∨ b ∈ z.M) ∧ (res r).h q v
  | _ => False
def slotsOf : Nat → List TV → Slots
  | _, [] => []
  | i, t :: ts => (i, t) :: slotsOf (i + 1) ts
theorem both_len {p : Pt} : ∀ {ts vs}, both p ts vs → vs.length = ts.length
  | [], [], _ => rfl
  | _ :: _, _ :: _, h => by simp [both_len h.2]
  | [], _ :: _, h => h.elim
  | _ :: _, [], h => h.elim
theorem look_slots {p : Pt} : ∀ {ts vs} {k i t}, both p ts vs → look (slotsOf k ts) i = some t → ∃ v, k ≤ i ∧ vs[i - k]? = some v ∧ t.h p v
  | [], vs, k, i, t, h, hl => by simp [slotsOf, look] at hl
  | u :: ts, v :: vs, k, i, t, h, hl => by
    rcases look_put (T := slotsOf (k + 1) ts) hl with ⟨rfl, rfl⟩ | ⟨hne, hl⟩
    · exact ⟨v, Nat.le_refl _, by simp, h.1⟩
    · obtain ⟨v', h1, h2, h3⟩ := look_slots h.2 hl
      exact ⟨v', by omega, by rw [show i - k = (i - (k + 1)) + 1 by omega]; simpa using h2, h3⟩
  | _ :: _, [], k, i, t, h, hl => h.elim
theorem enter {f : FuncId} {fn : Func} {c : Code} {ts : List TV} {Φ : Option ρ} {res : ρ → TV} (hf : P.funcs[f]? = some fn) (hb : fn.body = some c) (hn : fn.ntmps = n) (hl : Nat.ble ts.length n = true) (hnm : (fn.name == "runtime.NumGoroutine") = false)
    (h : ∀ z : Zt, JC P z n (slotsOf 0 ts) [] c Φ (qRet P fn z n res)) : Ct P f ts Φ res := ⟨⟨fn, hf, by rw [hb]; rfl, hnm⟩, fun r hr p vs hgl hv => by
  refine calls_of_wp hf hb ?_
  have hlen := both_len hv
  have hl' := Nat.le_of_ble_eq_true hl
  refine wp_mono (h ⟨p, hgl, []⟩ r hr p _ ⟨?_, rfl, ?_, ?_, fun b hb => by simp at hb, ?_, (Ext.refl _).m _, fun b hb => .inl hb, p.le_refl⟩) ?_
  · simp [hn]; omega
  · intro i t ht
    obtain ⟨v, _, h2, h3⟩ := look_slots hv ht
    refine ⟨v, ?_, h3⟩
    have hi := (List.getElem?_eq_some_iff.1 h2).1
    rw [Array.getElem?_append_left (by simpa using hi)]
    simpa using h2
  · intro g b hg; simp at hg
  · simp
  · intro e a w hq
    cases e <;> first | exact hq.elim | (obtain ⟨hd, v, h1, q, h2, h3, h4, h5, h6⟩ := hq; exact ⟨hd, v, h1, v, rfl, q, h2, h3, h4.ext, fun b hb => by rcases h5 b hb with h | h | h; exact .inl h; exact .inr h; simp at h, h6⟩)⟩
theorem St.callOp {p : Pt} {T : Slots} {B : Boxes} {a : Act} (h : St z p n T B a) {q : Pt} (hl : p.le q) (he : Ext p.w q.w) (hs : ∀ b, q.S b → p.S b ∨ p.w.heap.size ≤ b) : St z q n T B a := by
  refine h.go hl (h.ex.trans he) (fun b hb => ?_) (fun g b hg => ?_) h.on h.nd
  · rcases hs b hb with hb | hb
    · exact h.su b hb
    · exact .inr (.inl (Nat.le_trans h.ex.size hb))
  · obtain ⟨h1, h2, o, h3, h4⟩ := h.ow g b hg
    refine ⟨fun hg' => ?_, h2, o, he.blk h3, b.up hl h4⟩
    rcases hs g hg' with hb | hb
    · exact h1 hb
    · have := blk_lt h3; omega
def Evs (T : Slots) : List Operand → List TV → Prop
  | [], [] => True
  | x :: xs, t :: ts => Ev T x t ∧ Evs T xs ts
  | _, _ => False
theorem St.evs {p : Pt} {T : Slots} {B : Boxes} {a : Act} (h : St z p n T B a) : ∀ {xs ts}, Evs T xs ts → both p ts (xs.map a.eval)
  | [], [], _ => trivial
  | _ :: _, _ :: _, hh => ⟨h.ev hh.1, h.evs hh.2⟩
  | [], _ :: _, hh => hh.elim
  | _ :: _, [], hh => hh.elim
theorem e_call {σ : Type} {T B f at_ ty pos af gd d ts} {xs : List Operand} {y : σ} {m : Option σ} {res : σ → TV} (hy : m = some y) (hc : Ct P f ts m res) (hd : Nat.ble (d + 1) n = true) (hx : Evs T xs ts) :
    EO P z n T B ⟨some d, .call ⟨.value (.func f), xs.toArray, at_⟩, ty, pos, af, gd⟩ (fun q a => St z q n ((d, res y) :: T) B a) := fun p a hs K hK => by
  obtain ⟨⟨fn, hf, hb, hnm⟩, hc⟩ := hc
  unfold Oper.wp
  have hb' : fn.body ≠ none := by intro h; simp [h] at hb
  have hnm' : fn.name ≠ "runtime.NumGoroutine" := by simpa using hnm
  have e : (execOp a.eval ⟨some d, .call ⟨.value (.func f), xs.toArray, at_⟩, ty, pos, af, gd⟩).run P p.w = .ok (.enter f (xs.map a.eval).toArray) p.w := by
    simp [execOp, resolve, Deferred.ofValue, Act.eval, invoke, callFunc, hf, hnm', hb']
  rw [e]
  refine (hc y hy p _ hs.gl (hs.evs hx)).mono ?_
  rintro e w' ⟨v, rfl, q, rfl, h1, h2, h3, h4⟩
  exact hK q _ ((hs.callOp h1 h2 h3).put (Nat.le_of_ble_eq_true hd) h4) h2
end
end Go.Proofs.YtmnmcobpfpkibaaGreatDoor
namespace Go.Proofs.YtmnmcobpfpkibaaGreatDoor
open Go.RowKit
set_option linter.unusedVariables false

def tyB (P : Program) (t : TypeId) {α : Type} (k : Kd α) : Bool :=
  ((P.info? t).map (·.size) == some k.sz) && match P.underlying t with | some (.struct _) | some (.array _ _) => k.st | some _ => !k.st | none => false
def Tz (P : Program) (t : TypeId) {α : Type} (k : Kd α) : Prop := (P.info? t).bind (·.zero) = some (k.mk' k.zc)
def fsB (P : Program) (s : TypeId) (f off : Nat) : Bool :=
  match P.underlying s with
  | some (.struct fs) => match fs[f]? with
    | some fl => fl.offset == off && (match P.info? fl.type with | some i => i.size != 0 | none => false)
    | none => false
  | _ => false
def slB (P : Program) (t : TypeId) {α : Type} (k : Kd α) : Bool :=
  match P.underlying t with
  | some (.slice e) => tyB P e k && k.sz != 0
  | _ => false

section
variable {P : Program} {z : Zt} {n : Nat} {T : Slots} {B : Boxes}
theorem run_size {t : TypeId} {m : Nat} (h : (P.info? t).map (·.size) = some m) (w : World) : (sizeOf t).run P w = .ok m w := by
  cases hq : P.info? t with
  | none => simp [hq] at h
  | some i => simp [hq] at h; simp [sizeOf, typeInfo, hq, h]
theorem ty_size {α : Type} {k : Kd α} {t : TypeId} (h : tyB P t k = true) : (P.info? t).map (·.size) = some k.sz := by
  unfold tyB at h; simp only [Bool.and_eq_true, beq_iff_eq] at h; exact h.1
theorem run_isAgg {α : Type} {k : Kd α} {t : TypeId} (h : tyB P t k = true) (w : World) : (isAgg t).run P w = .ok k.st w := by
  unfold tyB at h; simp only [Bool.and_eq_true] at h
  have h := h.2
  cases hu : P.underlying t with
  | none => simp [hu] at h
  | some d =>
    unfold isAgg
    rw [Sem.run_bind, run_underlying hu w]
    rw [hu] at h
    cases d <;> simp_all
theorem run_loadK {α : Type} {k : Kd α} {t : TypeId} (h : tyB P t k = true) {w w0 : World} {S : Nat → Prop} {x : α} {cs : List Value} (hk : k.K w0 S x cs) {ad : Addr} (hc : ∀ j u, cs[j]? = some u → w.cell? (ad.add j) = some u) :
    (loadVar t ad).run P w = .ok (k.mk' cs) w := by
  have hs := run_size (ty_size h) w
  have ha := run_isAgg h w
  unfold loadVar
  rw [Sem.run_bind, ha]
  have hl := k.len hk
  cases hst : k.st with
  | true =>
    have hL := run_loadCells_list (P := P) w ad cs hc
    rw [hl] at hL
    simp [Kd.mk', hst, Sem.run_bind, hs, hL]
  | false =>
    have h1 := k.s1 hst
    rw [h1] at hl
    match cs, hl with
    | [v], _ =>
      have := hc 0 v rfl
      rw [show ad.add 0 = ad by simp [Addr.add]] at this
      simp [Kd.mk', hst, this]
theorem po_mov {x : Operand} {t : TV} (h : Ev T x t) : PO P z n T B (.move x) t := fun p a hs => ⟨_, hs.ev h, fun o w' ho _ => by simp [execOp, ho]⟩
theorem po_asg {x : Operand} {t : TV} (h : Ev T x t) : PO P z n T B (.assign x) t := fun p a hs => ⟨_, hs.ev h, fun o w' ho _ => by simp [execOp, ho]⟩
theorem ev_num {k : IntKind} {b : Nat} {lo hi x : Int} {p : Pt} {v : Value} (h : (rd (kNum k b lo hi) x).h p v) : v = .int k x := by
  have : [v] = [Value.int k x] := h; simpa using this
theorem ev_bool {x : Bool} {p : Pt} {v : Value} (h : (rd kBool x).h p v) : v = .bool x := by
  have : [v] = [Value.bool x] := h; simpa using this
theorem ev_str {x : ByteArray} {p : Pt} {v : Value} (h : (rd kStr x).h p v) : v = .string x := by
  have : [v] = [Value.string x] := h; simpa using this
theorem ev_sl {α : Type} {k : Kd α} {x : List α} {p : Pt} {v : Value} (h : (rd (kSl k) x).h p v) : ∃ A c, v = .slice A x.length c ∧ x.length ≤ c ∧ c ≤ 9223372036854775807 ∧ (A = none → c = 0) ∧ k.C p.w p.S A x := by
  obtain ⟨A, c, e, h⟩ := h; injection e with e; exact ⟨A, c, e, h⟩
theorem po_pickt {t : TV} {b : Bool} {c u v : Operand} (hc : Ev T c (rd kBool b)) (hb : b = true) (hu : Ev T u t) : PO P z n T B (.pick c u v) t := fun p a hs => by
  have h1 := ev_bool (hs.ev hc)
  subst hb
  exact ⟨_, hs.ev hu, fun o w' ho _ => by simp [execOp, ho, h1, asBool]⟩
theorem po_pickf {t : TV} {b : Bool} {c u v : Operand} (hc : Ev T c (rd kBool b)) (hb : b = false) (hv : Ev T v t) : PO P z n T B (.pick c u v) t := fun p a hs => by
  have h1 := ev_bool (hs.ev hc)
  subst hb
  exact ⟨_, hs.ev hv, fun o w' ho _ => by simp [execOp, ho, h1, asBool]⟩
theorem po_not {ty : TypeId} {b : Bool} {x : Operand} (h : Ev T x (rd kBool b)) : PO P z n T B (.unOp .not ty x) (rd kBool (!b)) := fun p a hs => by
  have h1 := ev_bool (hs.ev h)
  exact ⟨.bool !b, rfl, fun o w' ho _ => by simp [execOp, ho, h1, Op.unary]⟩
section
variable {k : IntKind} {b : Nat} {lo hi x y : Int} {u v : Operand} {t t2 : TypeId}
theorem po_add (h : Ev T u (rd (kNum k b lo hi) x)) (h' : Ev T v (rd (kNum k b lo hi) y)) : PO P z n T B (.binOp .add t u v t2) (rd (kNum k b lo hi) (k.wrap (x + y))) := fun p a hs => by
  have h1 := ev_num (hs.ev h); have h2 := ev_num (hs.ev h')
  exact ⟨.int k (k.wrap (x + y)), rfl, fun o w' ho _ => by simp [execOp, ho, h1, h2, eqGuard, binOp, Op.intArith]⟩
theorem po_sub (h : Ev T u (rd (kNum k b lo hi) x)) (h' : Ev T v (rd (kNum k b lo hi) y)) : PO P z n T B (.binOp .sub t u v t2) (rd (kNum k b lo hi) (k.wrap (x - y))) := fun p a hs => by
  have h1 := ev_num (hs.ev h); have h2 := ev_num (hs.ev h')
  exact ⟨.int k (k.wrap (x - y)), rfl, fun o w' ho _ => by simp [execOp, ho, h1, h2, eqGuard, binOp, Op.intArith]⟩
theorem po_mul (h : Ev T u (rd (kNum k b lo hi) x)) (h' : Ev T v (rd (kNum k b lo hi) y)) : PO P z n T B (.binOp .mul t u v t2) (rd (kNum k b lo hi) (k.wrap (x * y))) := fun p a hs => by
  have h1 := ev_num (hs.ev h); have h2 := ev_num (hs.ev h')
  exact ⟨.int k (k.wrap (x * y)), rfl, fun o w' ho _ => by simp [execOp, ho, h1, h2, eqGuard, binOp, Op.intArith]⟩
theorem po_quo (h : Ev T u (rd (kNum k b lo hi) x)) (h' : Ev T v (rd (kNum k b lo hi) y)) (hy : y ≠ 0) : PO P z n T B (.binOp .quo t u v t2) (rd (kNum k b lo hi) (k.wrap (x.tdiv y))) := fun p a hs => by
  have h1 := ev_num (hs.ev h); have h2 := ev_num (hs.ev h')
  exact ⟨.int k (k.wrap (x.tdiv y)), rfl, fun o w' ho _ => by simp [execOp, ho, h1, h2, eqGuard, binOp, Op.intDiv, hy]⟩
theorem po_rem (h : Ev T u (rd (kNum k b lo hi) x)) (h' : Ev T v (rd (kNum k b lo hi) y)) (hy : y ≠ 0) : PO P z n T B (.binOp .rem t u v t2) (rd (kNum k b lo hi) (x.tmod y)) := fun p a hs => by
  have h1 := ev_num (hs.ev h); have h2 := ev_num (hs.ev h')
  exact ⟨.int k (x.tmod y), rfl, fun o w' ho _ => by simp [execOp, ho, h1, h2, eqGuard, binOp, Op.intDiv, hy]⟩
def bAnd (k : IntKind) (x y : Int) : Int := k.wrap (BitVec.ofInt k.bits x &&& BitVec.ofInt k.bits y).toNat
def bOr (k : IntKind) (x y : Int) : Int := k.wrap (BitVec.ofInt k.bits x ||| BitVec.ofInt k.bits y).toNat
def bXor (k : IntKind) (x y : Int) : Int := k.wrap (BitVec.ofInt k.bits x ^^^ BitVec.ofInt k.bits y).toNat
def bNot (k : IntKind) (x y : Int) : Int := k.wrap (BitVec.ofInt k.bits x &&& ~~~BitVec.ofInt k.bits y).toNat
theorem po_and (h : Ev T u (rd (kNum k b lo hi) x)) (h' : Ev T v (rd (kNum k b lo hi) y)) : PO P z n T B (.binOp .and t u v t2) (rd (kNum k b lo hi) (bAnd k x y)) := fun p a hs => by
  have h1 := ev_num (hs.ev h); have h2 := ev_num (hs.ev h')
  exact ⟨.int k (bAnd k x y), rfl, fun o w' ho _ => by simp only [execOp, ho, h1, h2]; simp [eqGuard, binOp, Op.intBits, bAnd]⟩
theorem po_or (h : Ev T u (rd (kNum k b lo hi) x)) (h' : Ev T v (rd (kNum k b lo hi) y)) : PO P z n T B (.binOp .or t u v t2) (rd (kNum k b lo hi) (bOr k x y)) := fun p a hs => by
  have h1 := ev_num (hs.ev h); have h2 := ev_num (hs.ev h')
  exact ⟨.int k (bOr k x y), rfl, fun o w' ho _ => by simp only [execOp, ho, h1, h2]; simp [eqGuard, binOp, Op.intBits, bOr]⟩
theorem po_ann (h : Ev T u (rd (kNum k b lo hi) x)) (h' : Ev T v (rd (kNum k b lo hi) y)) : PO P z n T B (.binOp .andNot t u v t2) (rd (kNum k b lo hi) (bNot k x y)) := fun p a hs => by
  have h1 := ev_num (hs.ev h); have h2 := ev_num (hs.ev h')
  exact ⟨.int k (bNot k x y), rfl, fun o w' ho _ => by simp only [execOp, ho, h1, h2]; simp [eqGuard, binOp, Op.intBits, bNot]⟩
def bShl (k : IntKind) (x y : Int) : Int := k.wrap (x * 2 ^ (min y.toNat k.bits))
def bShr (k : IntKind) (x y : Int) : Int := x.fdiv (2 ^ (min y.toNat k.bits))
variable {k' : IntKind} {b' : Nat} {lo' hi' : Int}
theorem po_shl (h : Ev T u (rd (kNum k b lo hi) x)) (h' : Ev T v (rd (kNum k' b' lo' hi') y)) (hy : 0 ≤ y) : PO P z n T B (.binOp .shl t u v t2) (rd (kNum k b lo hi) (bShl k x y)) := fun p a hs => by
  have h1 := ev_num (hs.ev h); have h2 := ev_num (hs.ev h')
  exact ⟨.int k (bShl k x y), rfl, fun o w' ho _ => by simp only [execOp, ho, h1, h2]; simp [eqGuard, binOp, Op.shift, bShl, Int.not_lt.2 hy]⟩
theorem po_shr (h : Ev T u (rd (kNum k b lo hi) x)) (h' : Ev T v (rd (kNum k' b' lo' hi') y)) (hy : 0 ≤ y) : PO P z n T B (.binOp .shr t u v t2) (rd (kNum k b lo hi) (bShr k x y)) := fun p a hs => by
  have h1 := ev_num (hs.ev h); have h2 := ev_num (hs.ev h')
  exact ⟨.int k (bShr k x y), rfl, fun o w' ho _ => by simp only [execOp, ho, h1, h2]; simp [eqGuard, binOp, Op.shift, bShr, Int.not_lt.2 hy]⟩
theorem po_eq (h : Ev T u (rd (kNum k b lo hi) x)) (h' : Ev T v (rd (kNum k b lo hi) y)) : PO P z n T B (.binOp .eql t u v t2) (rd kBool (x == y)) := fun p a hs => by
  have h1 := ev_num (hs.ev h); have h2 := ev_num (hs.ev h')
  exact ⟨.bool (x == y), rfl, fun o w' ho _ => by simp only [execOp, ho, h1, h2]; simp [eqGuard, binOp, Op.intCmp]⟩
theorem po_ne (h : Ev T u (rd (kNum k b lo hi) x)) (h' : Ev T v (rd (kNum k b lo hi) y)) : PO P z n T B (.binOp .neq t u v t2) (rd kBool (x != y)) := fun p a hs => by
  have h1 := ev_num (hs.ev h); have h2 := ev_num (hs.ev h')
  exact ⟨.bool (x != y), rfl, fun o w' ho _ => by simp only [execOp, ho, h1, h2]; simp [eqGuard, binOp, Op.intCmp]⟩
theorem po_lt (h : Ev T u (rd (kNum k b lo hi) x)) (h' : Ev T v (rd (kNum k b lo hi) y)) : PO P z n T B (.binOp .lss t u v t2) (rd kBool (decide (x < y))) := fun p a hs => by
  have h1 := ev_num (hs.ev h); have h2 := ev_num (hs.ev h')
  exact ⟨.bool (decide (x < y)), rfl, fun o w' ho _ => by simp only [execOp, ho, h1, h2]; simp [eqGuard, binOp, Op.intCmp]⟩
theorem po_le (h : Ev T u (rd (kNum k b lo hi) x)) (h' : Ev T v (rd (kNum k b lo hi) y)) : PO P z n T B (.binOp .leq t u v t2) (rd kBool (decide (x ≤ y))) := fun p a hs => by
  have h1 := ev_num (hs.ev h); have h2 := ev_num (hs.ev h')
  exact ⟨.bool (decide (x ≤ y)), rfl, fun o w' ho _ => by simp only [execOp, ho, h1, h2]; simp [eqGuard, binOp, Op.intCmp]⟩
theorem po_gt (h : Ev T u (rd (kNum k b lo hi) x)) (h' : Ev T v (rd (kNum k b lo hi) y)) : PO P z n T B (.binOp .gtr t u v t2) (rd kBool (decide (y < x))) := fun p a hs => by
  have h1 := ev_num (hs.ev h); have h2 := ev_num (hs.ev h')
  exact ⟨.bool (decide (y < x)), rfl, fun o w' ho _ => by simp only [execOp, ho, h1, h2]; simp [eqGuard, binOp, Op.intCmp]⟩
theorem po_ge (h : Ev T u (rd (kNum k b lo hi) x)) (h' : Ev T v (rd (kNum k b lo hi) y)) : PO P z n T B (.binOp .geq t u v t2) (rd kBool (decide (y ≤ x))) := fun p a hs => by
  have h1 := ev_num (hs.ev h); have h2 := ev_num (hs.ev h')
  exact ⟨.bool (decide (y ≤ x)), rfl, fun o w' ho _ => by simp only [execOp, ho, h1, h2]; simp [eqGuard, binOp, Op.intCmp]⟩
end
section
variable {x y : ByteArray} {u v : Operand} {t t2 : TypeId}
def sEq (x y : ByteArray) : Bool := x.toList == y.toList
def sLt (x y : ByteArray) : Bool := Op.bytesLess x.toList y.toList
theorem po_seq (h : Ev T u (rd kStr x)) (h' : Ev T v (rd kStr y)) : PO P z n T B (.binOp .eql t u v t2) (rd kBool (sEq x y)) := fun p a hs => by
  have h1 := ev_str (hs.ev h); have h2 := ev_str (hs.ev h')
  exact ⟨.bool (sEq x y), rfl, fun o w' ho _ => by simp only [execOp, ho, h1, h2]; simp [eqGuard, binOp, Op.stringOp, sEq]⟩
theorem po_sne (h : Ev T u (rd kStr x)) (h' : Ev T v (rd kStr y)) : PO P z n T B (.binOp .neq t u v t2) (rd kBool (!sEq x y)) := fun p a hs => by
  have h1 := ev_str (hs.ev h); have h2 := ev_str (hs.ev h')
  exact ⟨.bool (!sEq x y), rfl, fun o w' ho _ => by simp only [execOp, ho, h1, h2]; simp [eqGuard, binOp, Op.stringOp, sEq]⟩
theorem po_sle (h : Ev T u (rd kStr x)) (h' : Ev T v (rd kStr y)) : PO P z n T B (.binOp .leq t u v t2) (rd kBool (sLt x y || sEq x y)) := fun p a hs => by
  have h1 := ev_str (hs.ev h); have h2 := ev_str (hs.ev h')
  exact ⟨.bool (sLt x y || sEq x y), rfl, fun o w' ho _ => by simp only [execOp, ho, h1, h2]; simp [eqGuard, binOp, Op.stringOp, sLt, sEq]⟩
def cat (x y : ByteArray) : Option ByteArray := if x.size + y.size ≤ 9223372036854775807 then some (x ++ y) else none
def sAt (x : ByteArray) (i : Int) : Option Int := if 0 ≤ i then (x[i.toNat]?).map (fun b => (b.toNat : Int)) else none
theorem po_six {k : IntKind} {b : Nat} {lo hi i r : Int} (h : Ev T u (rd kStr x)) (h' : Ev T v (rd (kNum k b lo hi) i)) (hc : sAt x i = some r) (hu : P.underlying t = some .string) : PO P z n T B (.index t u v) (rd kByte r) := fun p a hs => by
  have h1 := ev_str (hs.ev h); have h2 := ev_num (hs.ev h')
  unfold sAt at hc
  split at hc
  · rename_i hi
    simp only [Option.map_eq_some_iff] at hc
    obtain ⟨b, hb, rfl⟩ := hc
    exact ⟨.int .u8 b.toNat, rfl, fun o w' ho _ => by simp [execOp, ho, h1, h2, Instr.index, run_underlying hu, asIntOf, hi, hb]⟩
  · cases hc
end
theorem both_at {p : Pt} : ∀ {ts vs} {i : Nat} {t}, both p ts vs → ts[i]? = some t → ∃ v, vs[i]? = some v ∧ t.h p v
  | t :: ts, v :: vs, 0, u, h, hi => by simp at hi; subst hi; exact ⟨v, rfl, h.1⟩
  | t :: ts, v :: vs, i + 1, u, h, hi => by simpa using both_at h.2 (by simpa using hi)
  | [], [], i, u, h, hi => by simp at hi
  | [], _ :: _, i, u, h, hi => h.elim
  | _ :: _, [], i, u, h, hi => h.elim
theorem po_ext {l : List TV} {t : TV} {x : Operand} {i : Nat} (h : Ev T x (tup l)) (hi : l[i]? = some t) : PO P z n T B (.extract x i) t := fun p a hs => by
  obtain ⟨vs, e, hb⟩ := hs.ev h
  obtain ⟨v, h1, h2⟩ := both_at hb hi
  exact ⟨v, h2, fun o w' ho _ => by simp [execOp, ho, e, Instr.extract, h1]⟩
theorem run_fieldAt {s : TypeId} {f off : Nat} (h : fsB P s f off = true) (ad : Addr) (w : World) : (Instr.fieldAt s (.pointer (some ad)) f).run P w = .ok (.pointer (some (ad.add off))) w := by
  unfold fsB at h
  split at h
  · rename_i fs hu
    split at h
    · rename_i fl hf
      simp only [Bool.and_eq_true, beq_iff_eq] at h
      obtain ⟨rfl, h⟩ := h
      split at h
      · rename_i i hi
        have : i.size ≠ 0 := by simpa using h
        simp [Instr.fieldAt, run_underlying hu, hf, Instr.sureAddr, fieldPlace, sizeOf, typeInfo, hi, this]
      · cases h
    · cases h
  · cases h
theorem po_fo {g o' : Nat} {s : TypeId} {f off : Nat} {x : Operand} (h : Ev T x (own g o')) (hf : fsB P s f off = true) : PO P z n T B (.fieldAddr s x f) (own g (o' + off)) := fun p a hs => by
  have h1 : a.eval x = .pointer (some ⟨g, o', none⟩) := hs.ev h
  exact ⟨_, rfl, fun o w' ho _ => by simp [execOp, ho, h1, run_fieldAt hf, add_plain]⟩
theorem po_fa {α β : Type} {k : Kd α} {l : Kd β} {y : α} {get : α → β} {set : α → β → α} {s : TypeId} {f off : Nat} {x : Operand} (h : Ev T x (at_ k y)) (hf : fsB P s f off = true) (fl : Fld k off l get set) : PO P z n T B (.fieldAddr s x f) (at_ l (get y)) := fun p a hs => by
  obtain ⟨ad, cs, h1, h2, h3, h4⟩ := hs.ev h
  refine ⟨.pointer (some (ad.add off)), ⟨_, _, rfl, by rw [add_blk]; exact h2, fl.g h3, fun j u hj => ?_⟩, fun o w' ho _ => by simp [execOp, ho, h1, run_fieldAt hf]⟩
  rw [add_add]
  refine h4 _ _ ?_
  rw [List.getElem?_take] at hj
  split at hj
  · rwa [List.getElem?_drop] at hj
  · cases hj
theorem Ext.cell? {p w : World} (h : Ext p w) {ad : Addr} {u : Value} (hc : p.cell? ad = some u) : w.cell? ad = some u := h.cell hc
theorem po_la {α : Type} {k : Kd α} {y : α} {t : TypeId} {x : Operand} (h : Ev T x (at_ k y)) (ht : tyB P t k = true) : PO P z n T B (.load t x) (rd k y) := fun p a hs => by
  obtain ⟨ad, cs, h1, h2, h3, h4⟩ := hs.ev h
  exact ⟨k.mk' cs, Kd.V_mk h3, fun o w' ho he => by simp [execOp, ho, h1, Instr.loadAt, Instr.sureAddr, run_loadK ht h3 (fun j u hj => he.cell (h4 j u hj))]⟩
theorem St.box {p : Pt} {a : Act} (hs : St z p n T B a) {α : Type} {k : Kd α} {y : α} {i g : Nat} (hi : B[i]? = some (some g, box k y)) : ¬ p.S g ∧ (z.w.heap.size ≤ g ∨ g ∈ z.M) ∧ ∃ cs t, p.w.heap[g]? = some (.cells cs t (0, 0)) ∧ k.K p.w p.S y cs.toList := by
  obtain ⟨h1, h2, o, h3, cs, t, rfl, h4⟩ := hs.ow _ _ (List.mem_of_getElem? hi)
  exact ⟨h1, h2, cs, t, h3, h4⟩
theorem cell_own {w : World} {g : Nat} {cs : Array Value} {t : TypeId} {fr : Nat × Nat} (hg : w.heap[g]? = some (.cells cs t fr)) {off sz : Nat} {j : Nat} {u : Value} (hj : ((cs.toList.drop off).take sz)[j]? = some u) : w.cell? ((⟨g, off, none⟩ : Addr).add j) = some u := by
  rw [add_plain, cell_of_row _ _ _ _ _ _ hg]
  rw [List.getElem?_take] at hj
  split at hj
  · rw [List.getElem?_drop] at hj; simpa using hj
  · cases hj
theorem po_lo {α β : Type} {k : Kd α} {l : Kd β} {y : α} {get : α → β} {set : α → β → α} {t : TypeId} {x : Operand} {g off : Nat} (i : Nat) (h : Ev T x (own g off)) (hi : B[i]? = some (some g, box k y)) (fl : Fld k off l get set) (ht : tyB P t l = true) :
    PO P z n T B (.load t x) (rd l (get y)) := fun p a hs => by
  have h1 : a.eval x = .pointer (some ⟨g, off, none⟩) := hs.ev h
  obtain ⟨_, _, cs, t, h3, h4⟩ := hs.box hi
  exact ⟨l.mk' _, Kd.V_mk (fl.g h4), fun o w' ho he => by
    simp [execOp, ho, h1, Instr.loadAt, Instr.sureAddr, run_loadK ht (fl.g h4) (fun j u hj => cell_own (he.blk h3) hj)]⟩
def at? {α : Type} (l : List α) (i : Int) : Option α := if 0 ≤ i then l[i.toNat]? else none
theorem po_ia {α : Type} {k : Kd α} {y : List α} {e : α} {ik : IntKind} {b : Nat} {lo hi i : Int} {t : TypeId} {x v : Operand} (h : Ev T x (rd (kSl k) y)) (h' : Ev T v (rd (kNum ik b lo hi) i)) (hi : at? y i = some e) (ht : slB P t k = true) :
    PO P z n T B (.indexAddr t x v) (at_ k e) := fun p a hs => by
  obtain ⟨A, c, h1, h2, h2', h3, h4⟩ := ev_sl (hs.ev h)
  have hv := ev_num (hs.ev h')
  unfold at? at hi
  split at hi
  · rename_i h0
    have hlt := (List.getElem?_eq_some_iff.1 hi).1
    obtain ⟨ad, cs, rfl, hS, hk, hc⟩ := h4 _ _ hi
    refine ⟨.pointer (some (ad.add (i.toNat * k.sz))), ⟨_, cs, rfl, by rw [add_blk]; exact hS, hk, fun j u hj => by rw [add_add]; exact hc j u hj⟩, fun o w' ho he => ?_⟩
    unfold slB at ht
    split at ht
    · rename_i el hu
      simp only [Bool.and_eq_true] at ht
      simp [execOp, ho, h1, hv, Instr.indexAt, run_underlying hu, asIntOf, h0, show i < (y.length : Int) by omega, run_size (ty_size ht.1)]
    · cases ht
  · cases hi
theorem po_len {α : Type} {k : Kd α} {y : List α} {x : Operand} {t : TypeId} {ty : TypeId} (h : Ev T x (rd (kSl k) y)) (ht : slB P t k = true) : PO P z n T B (.call ⟨.builtin .len, #[x], #[t]⟩) (rd kInt y.length) := fun p a hs => by
  obtain ⟨A, c, h1, h2, h2', h3, h4⟩ := ev_sl (hs.ev h)
  refine ⟨.int .i64 y.length, rfl, fun o w' ho he => ?_⟩
  unfold slB at ht
  split at ht
  · rename_i el hu
    simp [execOp, ho, h1, resolve, invoke, builtin, Builtin.len_, run_underlying hu, goInt]
  · cases ht
theorem po_lens {y : ByteArray} {x : Operand} {t : TypeId} (h : Ev T x (rd kStr y)) (hu : P.underlying t = some .string) : PO P z n T B (.call ⟨.builtin .len, #[x], #[t]⟩) (rd kInt y.size) := fun p a hs => by
  have h1 := ev_str (hs.ev h)
  exact ⟨.int .i64 y.size, rfl, fun o w' ho he => by simp [execOp, ho, h1, resolve, invoke, builtin, Builtin.len_, run_underlying hu, goInt]⟩
theorem po_cv {k k2 : IntKind} {b b2 : Nat} {lo hi lo2 hi2 x : Int} {u : Operand} {t t2 : TypeId} (h : Ev T u (rd (kNum k b lo hi) x)) (h1 : P.underlying t = some (.int k)) (h2 : P.underlying t2 = some (.int k2)) : PO P z n T B (.convert t t2 u) (rd (kNum k2 b2 lo2 hi2) (k2.wrap x)) := fun p a hs => by
  have hv := ev_num (hs.ev h)
  exact ⟨.int k2 (k2.wrap x), rfl, fun o w' ho _ => by simp [execOp, ho, hv, convert, run_underlying h1, run_underlying h2, Conv.intToInt]⟩

theorem setRow_far (w : World) (g : Nat) (cs : Array Value) {b : Nat} (h : b ≠ g) : (w.setRow g cs).heap[b]? = w.heap[b]? := by
  simp [World.setRow, Array.getElem?_modify, Ne.symm h]
theorem setRow_size (w : World) (g : Nat) (cs : Array Value) : (w.setRow g cs).heap.size = w.heap.size := by simp [World.setRow]
theorem St.new {p : Pt} {a : Act} (hs : St z p n T B a) (o : Obj) {bx : BX} (hb : ∀ q : Pt, p.le q → bx.h q o) : ∃ q : Pt, q.w = p.w.alloc o ∧ p.le q ∧ Ext p.w q.w ∧ St z q n T ((some p.w.heap.size, bx) :: B) a := by
  have hle : p.le ⟨p.w.alloc o, p.S, fun b hb => by rw [size_alloc]; exact Nat.lt_succ_of_lt (p.lt b hb)⟩ := fun b hb => ⟨hb, blk_old _ _ (p.lt b hb)⟩
  refine ⟨⟨p.w.alloc o, p.S, fun b hb => by rw [size_alloc]; exact Nat.lt_succ_of_lt (p.lt b hb)⟩, rfl, hle, (Ext.refl _).alloc _, hs.go hle (hs.ex.alloc o) hs.su ?_ ?_ ?_⟩
  · intro g b hg
    rcases List.mem_cons.1 hg with e | hg
    · injection e with e1 e2
      injection e1 with e1
      subst e1; subst e2
      exact ⟨fun h => Nat.lt_irrefl _ (p.lt _ h), .inl hs.ex.size, o, blk_new _ _, hb _ hle⟩
    · obtain ⟨h1, h2, o', h3, h4⟩ := hs.ow g b hg
      exact ⟨h1, h2, o', (blk_old _ _ (blk_lt h3)).trans h3, b.up hle h4⟩
  · intro b hb
    rcases List.mem_cons.1 hb with e | hb
    · injection e with e1 e2; cases e1
    · exact hs.on b hb
  · simp only [List.filterMap_cons, List.nodup_cons]
    refine ⟨fun h => ?_, hs.nd⟩
    obtain ⟨⟨g, b⟩, hg, e⟩ := List.mem_filterMap.1 h
    simp only at e
    subst e
    obtain ⟨_, _, o', h3, _⟩ := hs.ow _ b hg
    exact Nat.lt_irrefl _ (blk_lt h3)
theorem e_box {α : Type} {k : Kd α} {y : α} {d : Nat} {t ty : TypeId} {pos af gd} {x : Operand} (h : Ev T x (rd k y)) (hd : Nat.ble (d + 1) n = true) :
    EO P z n T B ⟨some d, .box t x, ty, pos, af, gd⟩ (fun q a => ∃ g, St z q n ((d, own g 0) :: T) ((some g, box k y) :: B) a) := fun p a hs K hK => by
  have hv := hs.ev h
  obtain ⟨q, e, hle, he, hq⟩ := hs.new (.cells (a.eval x).cells t (0, 0)) (bx := box k y) (fun q hle => ⟨_, _, rfl, Kd.frame _ hle (Kd.V_cells hv)⟩)
  have := hK q (a.put (some d) (.pointer (some ⟨p.w.heap.size, 0, none⟩))) ⟨_, hq.put (Nat.le_of_ble_eq_true hd) rfl⟩ he
  rw [e] at this
  simpa [Oper.wp, execOp, Instr.box, newVar, newRow, Oper.upon] using this
theorem e_alloc {α : Type} (k : Kd α) {d : Nat} {t ty : TypeId} {pos af gd} (hz : Tz P t k) (hd : Nat.ble (d + 1) n = true) :
    EO P z n T B ⟨some d, .alloc t, ty, pos, af, gd⟩ (fun q a => ∃ g, St z q n ((d, own g 0) :: T) ((some g, box k k.z) :: B) a) := fun p a hs K hK => by
  obtain ⟨q, e, hle, he, hq⟩ := hs.new (.cells (k.mk' k.zc).cells t (0, 0)) (bx := box k k.z) (fun q hle => ⟨_, _, rfl, by rw [Kd.mk_cells (k.zk q.w q.S)]; exact k.zk _ _⟩)
  have := hK q (a.put (some d) (.pointer (some ⟨p.w.heap.size, 0, none⟩))) ⟨_, hq.put (Nat.le_of_ble_eq_true hd) rfl⟩ he
  rw [e] at this
  unfold Tz at hz
  cases hi : P.info? t with
  | none => simp [hi] at hz
  | some ti =>
    simp [hi] at hz
    simpa [Oper.wp, execOp, Instr.alloc, zeroValue, typeInfo, hi, hz, newVar, newRow, Oper.upon] using this
theorem nodup_set {β : Type} {o : Option Nat} {b b' : β} : ∀ {i : Nat} {B : List (Option Nat × β)}, B[i]? = some (o, b) → (B.set i (o, b')).filterMap (·.1) = B.filterMap (·.1)
  | 0, x :: B, h => by simp at h; subst h; simp [List.filterMap_cons]
  | i + 1, x :: B, h => by
    have := nodup_set (o := o) (b := b) (b' := b') (i := i) (B := B) (by simpa using h)
    simp only [List.set_cons_succ, List.filterMap_cons, this]
  | 0, [], h => by simp at h
  | i + 1, [], h => by simp at h
theorem nodup_at {β : Type} {g : Nat} {b b' : β} : ∀ {i j : Nat} {B : List (Option Nat × β)}, (B.filterMap (·.1)).Nodup → B[i]? = some (some g, b) → B[j]? = some (some g, b') → i = j
  | 0, 0, _, _, _, _ => rfl
  | 0, j + 1, x :: B, hn, h, h' => by
    simp at h h'; subst h
    simp only [List.filterMap_cons, List.nodup_cons] at hn
    exact (hn.1 (List.mem_filterMap.2 ⟨_, List.mem_of_getElem? h', rfl⟩)).elim
  | i + 1, 0, x :: B, hn, h, h' => by
    simp at h h'; subst h'
    simp only [List.filterMap_cons, List.nodup_cons] at hn
    exact (hn.1 (List.mem_filterMap.2 ⟨_, List.mem_of_getElem? h, rfl⟩)).elim
  | i + 1, j + 1, x :: B, hn, h, h' => by
    have : (B.filterMap (·.1)).Nodup := by
      simp only [List.filterMap_cons] at hn
      split at hn
      · exact hn
      · exact (List.nodup_cons.1 hn).2
    exact congrArg (· + 1) (nodup_at (g := g) (b := b) (b' := b') this (by simpa using h) (by simpa using h'))
  | i, j, [], _, h, _ => by simp at h
theorem St.setBox {p : Pt} {a : Act} (hs : St z p n T B a) {i g : Nat} {bx bx' : BX} (hi : B[i]? = some (some g, bx)) {cs cs' : Array Value} {t : TypeId} {fr : Nat × Nat} (hg : p.w.heap[g]? = some (.cells cs t fr)) (hb : ∀ q : Pt, p.le q → bx'.h q (.cells cs' t fr)) :
    ∃ q : Pt, q.w = p.w.setRow g cs' ∧ p.le q ∧ St z q n T (B.set i (some g, bx')) a := by
  obtain ⟨n1, n2, _⟩ := hs.ow g bx (List.mem_of_getElem? hi)
  have hle : p.le ⟨p.w.setRow g cs', p.S, fun b hb => by rw [setRow_size]; exact p.lt b hb⟩ := fun b hb => ⟨hb, setRow_far _ _ _ (fun e => n1 (e ▸ hb))⟩
  have hlt := (List.getElem?_eq_some_iff.1 hi)
  refine ⟨⟨p.w.setRow g cs', p.S, fun b hb => by rw [setRow_size]; exact p.lt b hb⟩, rfl, hle, hs.go hle ?_ hs.su ?_ ?_ ?_⟩
  · exact ⟨hs.ex.os, hs.ex.tape, hs.ex.output, by simp only [setRow_size]; exact hs.ex.size, fun b hb hM => by
      simp only
      rw [setRow_far _ _ _ (by rintro rfl; rcases n2 with h | h; omega; exact hM h)]; exact hs.ex.block b hb hM⟩
  · intro g' b' hm
    obtain ⟨j, hj⟩ := List.mem_iff_getElem?.1 hm
    by_cases hij : i = j
    · subst hij
      rw [List.getElem?_set_self hlt.1] at hj
      injection hj with hj
      injection hj with e1 e2
      injection e1 with e1
      subst e1; subst e2
      exact ⟨n1, n2, _, setRow_heap _ _ _ _ _ _ hg, hb _ hle⟩
    · rw [List.getElem?_set_ne hij] at hj
      obtain ⟨h1, h2, o', h3, h4⟩ := hs.ow g' b' (List.mem_of_getElem? hj)
      have hne : g' ≠ g := fun e => by subst e; exact hij (nodup_at hs.nd hi hj)
      exact ⟨h1, h2, o', (setRow_far _ _ _ hne).trans h3, b'.up hle h4⟩
  · intro b hm
    obtain ⟨j, hj⟩ := List.mem_iff_getElem?.1 hm
    by_cases hij : i = j
    · subst hij
      rw [List.getElem?_set_self hlt.1] at hj
      injection hj with hj
      injection hj with e1 e2
      cases e1
    · rw [List.getElem?_set_ne hij] at hj
      exact hs.on b (List.mem_of_getElem? hj)
  · have e : (B.set i (some g, bx')).filterMap (·.1) = B.filterMap (·.1) := nodup_set hi
    rw [e]; exact hs.nd
theorem s_store {α β : Type} {k : Kd α} {l : Kd β} {y : α} {v : β} {get : α → β} {set : α → β → α} {t ty : TypeId} {pos af gd} {x u : Operand} {g off : Nat} (i : Nat) (h : Ev T x (own g off)) (hv : Ev T u (rd l v)) (hi : B[i]? = some (some g, box k y)) (fl : Fld k off l get set) (ht : tyB P t l = true) :
    SO P z n T B ⟨none, .store t x u, ty, pos, af, gd⟩ (fun q a => St z q n T (B.set i (some g, box k (set y v))) a) := fun p a hs K hK => by
  have h1 : a.eval x = .pointer (some ⟨g, off, none⟩) := hs.ev h
  have hk := Kd.V_cells (hs.ev hv)
  obtain ⟨_, _, cs, tt, h3, h4⟩ := hs.box hi
  have hlen := l.len hk
  have hbd := fl.bd
  have hcs := k.len h4
  obtain ⟨q, e, hle, hq⟩ := hs.setBox hi h3 (cs' := (cs.toList.take (off + 0) ++ (a.eval u).cells.toList ++ cs.toList.drop (off + 0 + (a.eval u).cells.toList.length)).toArray) (bx' := box k (set y v))
    (fun q hle => ⟨_, _, rfl, by rw [hlen]; exact Kd.frame _ hle (fl.s h4 hk)⟩)
  have hst := run_storeCells_at P g off tt (a.eval u).cells.toList 0 cs p.w h3 (by rw [hlen]; simp at hcs; omega) (l.one hk)
  have := hK q (a.put none undef) hq
  rw [e] at this
  have hsz := run_size (ty_size ht) p.w
  have hl2 : (a.eval u).cells.size = l.sz := by simpa using hlen
  simp only [Oper.wp, execOp, h1, Instr.storeAt, Instr.sureAddr, storeVar, Sem.run_bind, Sem.run_pure, Result.andThen_ok, hsz, hl2, ne_eq, not_true_eq_false, if_false, hst, Oper.upon]
  exact this
end
end Go.Proofs.YtmnmcobpfpkibaaGreatDoor
namespace Go.Proofs.YtmnmcobpfpkibaaGreatDoor
open Go.RowKit
set_option linter.unusedVariables false

def rep {σ ρ : Type} (body : σ → (σ → Option ρ) → Option ρ) : Nat → σ → Option ρ
  | 0, _ => none
  | m + 1, s => body s (rep body m)
def jn {σ ρ : Type} (k : σ → Option ρ) (m : (σ → Option ρ) → Option ρ) : Option ρ := m k
def FUEL : Nat := 18446744073709551616
def lfold {α σ ρ : Type} (g : Int → α → σ → (σ → Option ρ) → Option ρ) (k : σ → Option ρ) : Int → List α → σ → Option ρ
  | _, [], s => k s
  | i, x :: l, s => g i x s (fun s' => lfold g k (i + 1) l s')

section
variable {P : Program} {ρ : Type} {z : Zt} {n : Nat}
theorem c_mono {T B c Φ} {Q Q' : Kont ρ} (hq : ∀ r e a w, Q r e a w → Q' r e a w) (h : JC P z n T B c Φ Q) : JC P z n T B c Φ Q' := fun r hr p a hs => wp_mono (h r hr p a hs) (hq r)
theorem c_ift {T B i} {b : Bool} {Φ : Option ρ} {Q : Kont ρ} {x y : Code} (hi : look T i = some (rd kBool b)) (hb : b = true) (h : JC P z n T B x Φ Q) : JC P z n T B (.cond (.tmp i) x y) Φ Q := fun r hr p a hs => by
  have hv := ev_bool (hs.ev (.t hi)); subst hb; exact wp_cond_true hv (h r hr p a hs)
theorem c_iff {T B i} {b : Bool} {Φ : Option ρ} {Q : Kont ρ} {x y : Code} (hi : look T i = some (rd kBool b)) (hb : b = false) (h : JC P z n T B y Φ Q) : JC P z n T B (.cond (.tmp i) x y) Φ Q := fun r hr p a hs => by
  have hv := ev_bool (hs.ev (.t hi)); subst hb; exact wp_cond_false hv (h r hr p a hs)
theorem c_fam {ι : Type} {T B c Φ} {Q : Kont ρ} (T' : ι → Slots) (B' : ι → Boxes) (Ψ : ι → Option ρ) (μ : ι → Nat) (i0 : ι) (ht : ∀ p a, St z p n T B a → St z p n (T' i0) (B' i0) a) (hΦ : Φ = Ψ i0)
    (h : ∀ i, JC P z n (T' i) (B' i) c (Ψ i) (qMid z n (fun j : {j // μ j < μ i} => T' j.1) (fun j => B' j.1) (fun j => Ψ j.1) Q)) : JC P z n T B (.loop c) Φ Q := fun r hr p a hs => by
  subst hΦ
  refine wp_loop_ghost (fun m a w => ∃ i, m = μ i ∧ Ψ i = some r ∧ ∃ p : Pt, p.w = w ∧ St z p n (T' i) (B' i) a) (μ i0) ⟨i0, rfl, hr, p, rfl, ht p a hs⟩ ?_
  rintro m a w ⟨i, rfl, hm, p, rfl, hs⟩
  refine wp_mono (h i r hm p a hs) fun e a' w' hq => ?_
  cases e with
  | normal =>
    obtain ⟨⟨j, hj⟩, hk, q, rfl, hq⟩ := hq
    exact ⟨μ j, hj, j, rfl, hk, q, rfl, hq⟩
  | exit => exact hq
  | goto => exact hq
  | ret => exact hq
  | panic => exact hq
  | outgrown => exact hq
theorem c_loop {σ η : Type} {T B c N} {Q : Kont ρ} {body : σ → (σ → Option ρ) → Option ρ} (T' : σ → η → Slots) (B' : σ → η → Boxes) {s0 : σ} (h0 : η) (ht : Sub (T' s0 h0) T) (hb : SubB (B' s0 h0) B)
    (h : ∀ s e k, JC P z n (T' s e) (B' s e) c (body s k) (qMid z n (fun s : σ × η => T' s.1 s.2) (fun s => B' s.1 s.2) (fun s => k s.1) Q)) : JC P z n T B (.loop c) (rep body N s0) Q := by
  refine c_fam (fun i : Nat × σ × η => T' i.2.1 i.2.2) (fun i => B' i.2.1 i.2.2) (fun i => rep body i.1 i.2.1) (fun i => i.1) (N, s0, h0) (fun p a hs => hs.less ht hb) rfl ?_
  rintro ⟨m, s, e⟩
  cases m with
  | zero => intro r hr; simp [rep] at hr
  | succ m =>
    refine c_mono (fun r e a w hq => ?_) (h s e (rep body m))
    cases e with
    | normal => obtain ⟨⟨s', e'⟩, hk, q, rfl, hq⟩ := hq; exact ⟨⟨(m, s', e'), Nat.lt_succ_self _⟩, hk, q, rfl, hq⟩
    | exit => exact hq
    | goto => exact hq
    | ret => exact hq
    | panic => exact hq
    | outgrown => exact hq
theorem c_jn {σ η : Type} {T B} {Q : Kont ρ} {x y : Code} {k : σ → Option ρ} {m : (σ → Option ρ) → Option ρ} (T' : σ → η → Slots) (B' : σ → η → Boxes) (h : ∀ k' : σ → Option ρ, JC P z n T B x (m k') (qMid z n (fun s : σ × η => T' s.1 s.2) (fun s => B' s.1 s.2) (fun s => k' s.1) Q)) (hy : ∀ s e, JC P z n (T' s e) (B' s e) y (k s) Q) : JC P z n T B (x.seq y) (jn k m) Q :=
  c_mid (fun s : σ × η => T' s.1 s.2) (fun s => B' s.1 s.2) (fun s => k s.1) (h k) (fun s => hy s.1 s.2)
theorem l_jn {σ η : Type} {T B ops l} {Q : Kont ρ} {k : σ → Option ρ} {f : (σ → Option ρ) → Option ρ} (m : Nat) (T' : σ → η → Slots) (B' : σ → η → Boxes) (h : ∀ k' : σ → Option ρ, JL P z n ops T B (l.take m) (f k') (qMid z n (fun s : σ × η => T' s.1 s.2) (fun s => B' s.1 s.2) (fun s => k' s.1) Q)) (hy : ∀ s e, JL P z n ops (T' s e) (B' s e) (l.drop m) (k s) Q) : JL P z n ops T B l (jn k f) Q :=
  l_mid m (fun s : σ × η => T' s.1 s.2) (fun s => B' s.1 s.2) (fun s => k s.1) (h k) (fun s => hy s.1 s.2)
theorem look_here (T : Slots) (i : Nat) (t : TV) : look ((i, t) :: T) i = some t := by
  show (bif Nat.beq i i then some t else look T i) = some t
  rw [show Nat.beq i i = true from Nat.beq_refl i]; rfl
theorem nbeq {i j : Nat} (h : i ≠ j) : Nat.beq i j = false := by
  cases hb : Nat.beq i j
  · rfl
  · exact absurd (Nat.eq_of_beq_eq_true hb) h
theorem look_far {T : Slots} {i j : Nat} {t : TV} (h : Nat.beq i j = false) : look ((j, t) :: T) i = look T i := by
  show (bif Nat.beq i j then some t else look T i) = _; rw [h]; rfl
theorem wrap_small (i : Nat) (h : i < 9223372036854775807) : IntKind.i64.wrap ((i : Int) + 1) = (i : Int) + 1 := by
  simp only [IntKind.wrap, IntKind.bits, IntKind.signed, Bool.true_and, decide_eq_true_eq, ge_iff_le]
  split <;> omega
theorem look_not {j : Nat} : ∀ {T : Slots}, T.all (fun e => !Nat.beq e.1 j) = true → ∀ {t}, look T j = some t → False
  | [], _, t, h => by simp [look] at h
  | (i, u) :: T, ha, t, h => by
    simp only [List.all_cons, Bool.and_eq_true, Bool.not_eq_true'] at ha
    rcases look_put h with ⟨rfl, _⟩ | ⟨_, h⟩
    · simp at ha
    · exact look_not ha.2 h
theorem c_rng {α σ η : Type} {T B} {Q : Kont ρ} {kx : Kd α} {l : List α} {g : Int → α → σ → (σ → Option ρ) → Option ρ} {k : σ → Option ρ} {s0 : σ} {b b1 r1 r2 tc ti tl tn tx : Nat} {body : Code} {y1 y2 y3 y4 y5 p1 p2 p3 a1 a2 a3} (T' : σ → η → Slots) (B' : σ → η → Boxes) (h0 : η)
    (ht : Sub (T' s0 h0) T) (hb : SubB (B' s0 h0) B) (hi : look T ti = some (rd kInt 0)) (hl : look T tl = some (rd kInt l.length)) (hx : look T tx = some (rd (kSl kx) l))
    (hd : Nat.ble (tc + 1) n = true ∧ Nat.ble (ti + 1) n = true ∧ Nat.ble (tn + 1) n = true ∧ Nat.beq tl ti = false ∧ Nat.beq tl tc = false ∧ Nat.beq tl tn = false ∧ Nat.beq tx ti = false ∧ Nat.beq tx tc = false ∧ Nat.beq tx tn = false ∧ Nat.beq ti tc = false ∧ Nat.beq ti tn = false ∧ Nat.beq tx tl = false)
    (hf : ∀ s e, (T' s e).all (fun e => !Nat.beq e.1 tc && !Nat.beq e.1 ti && !Nat.beq e.1 tn && !Nat.beq e.1 tl) = true)
    (hbody : ∀ (i : Nat) x s e c, l[i]? = some x → JC P z n ((ti, rd kInt i) :: (tl, rd kInt l.length) :: (tx, rd (kSl kx) l) :: T' s e) (B' s e) body (g i x s c) (qBlk b1 (qMid z n (fun s : σ × η => (ti, rd kInt i) :: (tl, rd kInt l.length) :: (tx, rd (kSl kx) l) :: T' s.1 s.2) (fun s => B' s.1 s.2) (fun s => c s.1) Q)))
    (hend : ∀ s e, JX z n ((tx, rd (kSl kx) l) :: T' s e) (B' s e) (.exit b) (k s) Q) :
    JC P z n T B (.loop ((Code.region r1 [⟨some tc, .binOp .lss y1 (.tmp ti) (.tmp tl) y2, y3, p1, a1, none⟩].toArray false).seq ((Code.cond (.tmp tc) .skip (.exit b)).seq ((Code.block b1 body).seq (Code.region r2 [⟨some tn, .binOp .add y1 (.tmp ti) (.const (.int .i64 1)) y2, y4, p2, a2, none⟩, ⟨some ti, .move (.tmp tn), y5, p3, a3, none⟩].toArray false)))))
      (lfold g k 0 l s0) Q := fun r hr p a hs => by
  obtain ⟨d1, d2, d3, e1, e2, e3, e4, e5, e6, e7, e8, e9⟩ := hd
  have hbound : l.length ≤ 9223372036854775807 := by
    obtain ⟨v, _, hv⟩ := hs.tm _ _ hx
    obtain ⟨A, c, _, h1, h2, _⟩ := ev_sl hv
    omega
  have f1 : ∀ s e, (T' s e).all (fun e => !Nat.beq e.1 tc) = true := fun s e => by
    refine List.all_eq_true.2 fun x hx => ?_
    have := List.all_eq_true.1 (hf s e) x hx
    simp only [Bool.and_eq_true] at this; exact this.1.1.1
  have f2 : ∀ s e, (T' s e).all (fun e => !Nat.beq e.1 ti) = true := fun s e => by
    refine List.all_eq_true.2 fun x hx => ?_
    have := List.all_eq_true.1 (hf s e) x hx
    simp only [Bool.and_eq_true] at this; exact this.1.1.2
  have f3 : ∀ s e, (T' s e).all (fun e => !Nat.beq e.1 tn) = true := fun s e => by
    refine List.all_eq_true.2 fun x hx => ?_
    have := List.all_eq_true.1 (hf s e) x hx
    simp only [Bool.and_eq_true] at this; exact this.1.2
  have f4 : ∀ s e, (T' s e).all (fun e => !Nat.beq e.1 tl) = true := fun s e => by
    refine List.all_eq_true.2 fun x hx => ?_
    have := List.all_eq_true.1 (hf s e) x hx
    simp only [Bool.and_eq_true] at this; exact this.2
  refine c_fam (ι := {i : Nat // i ≤ l.length} × σ × η) (fun i => (ti, rd kInt (i.1.1 : Int)) :: (tl, rd kInt l.length) :: (tx, rd (kSl kx) l) :: T' i.2.1 i.2.2) (fun i => B' i.2.1 i.2.2) (fun i => lfold g k (i.1.1 : Int) (l.drop i.1.1) i.2.1) (fun i => l.length - i.1.1)
    (⟨0, Nat.zero_le _⟩, s0, h0) (fun p a hs => ⟨hs.sz, hs.df, fun j t hj => ?_, fun g b hg => hs.ow g b (hb.sub.subset hg), fun b hg => hs.on b (hb.sub.subset hg), (hb.sub.filterMap _).nodup hs.nd, hs.ex, hs.su, hs.le⟩) (by simp) ?_ r hr p a hs
  · rcases look_put hj with ⟨rfl, rfl⟩ | ⟨_, hj⟩
    · exact hs.tm _ _ hi
    rcases look_put hj with ⟨rfl, rfl⟩ | ⟨_, hj⟩
    · exact hs.tm _ _ hl
    rcases look_put hj with ⟨rfl, rfl⟩ | ⟨_, hj⟩
    · exact hs.tm _ _ hx
    exact hs.tm _ _ (look_sub ht hj)
  rintro ⟨⟨i, hile⟩, s, e⟩
  have hT := look_here ((tl, rd kInt l.length) :: (tx, rd (kSl kx) l) :: T' s e) ti (rd kInt (i : Int))
  have hTl : look ((ti, rd kInt (i : Int)) :: (tl, rd kInt l.length) :: (tx, rd (kSl kx) l) :: T' s e) tl = some (rd kInt l.length) := by rw [look_far e1]; exact look_here _ _ _
  refine c_seq (c_reg (l_p (po_lt (.t hT) (.t hTl)) d1 (l_nil (x_tn (c_seq ?_)))))
  by_cases hlt : i < l.length
  · have hd : l.drop i = l[i] :: l.drop (i + 1) := List.drop_eq_getElem_cons hlt
    refine c_ift (look_here _ _ _) (decide_eq_true (by omega)) (c_skip (x_tn (c_seq (c_blk ?_))))
    simp only [hd, lfold]
    have hbd := hbody i l[i] s e (fun s' => lfold g k ((i : Int) + 1) (l.drop (i + 1)) s') (List.getElem?_eq_getElem hlt)
    refine c_mono (fun r e a w hq => ?_) (fun r hr p a hs => hbd r hr p a ⟨hs.sz, hs.df, fun j t hj => hs.tm j t ?_, hs.ow, hs.on, hs.nd, hs.ex, hs.su, hs.le⟩)
    · have nrm : qMid z n (fun s : σ × η => (ti, rd kInt (i : Int)) :: (tl, rd kInt l.length) :: (tx, rd (kSl kx) l) :: T' s.1 s.2) (fun s => B' s.1 s.2) (fun s => lfold g k ((i : Int) + 1) (l.drop (i + 1)) s.1) Q r .normal a w →
          (Code.region r2 [⟨some tn, .binOp .add y1 (.tmp ti) (.const (.int .i64 1)) y2, y4, p2, a2, none⟩, ⟨some ti, .move (.tmp tn), y5, p3, a3, none⟩].toArray false).wp P (qMid z n (fun j : {j : {i : Nat // i ≤ l.length} × σ × η // l.length - j.1.1 < l.length - i} => (ti, rd kInt (j.1.1.1 : Int)) :: (tl, rd kInt l.length) :: (tx, rd (kSl kx) l) :: T' j.1.2.1 j.1.2.2) (fun j => B' j.1.2.1 j.1.2.2) (fun j => lfold g k (j.1.1.1 : Int) (l.drop j.1.1.1) j.1.2.1) Q r) a w := by
        rintro ⟨⟨s', e'⟩, hk, q, rfl, hq2⟩
        refine c_reg (l_p (po_add (.t (look_here _ _ _)) (.n .i64 8 _ _ 1)) d3 (l_p (po_mov (.t (look_here _ _ _))) d2 (l_nil ?_))) r hk q a hq2
        refine fun r hr p a hs => ⟨⟨(⟨i + 1, hlt⟩, s', e'), by show l.length - (i + 1) < l.length - i; omega⟩, by simpa using hr, p, rfl, ⟨hs.sz, hs.df, fun j t hj => hs.tm j t ?_, hs.ow, hs.on, hs.nd, hs.ex, hs.su, hs.le⟩⟩
        rw [wrap_small i (by omega)]
        rcases look_put hj with ⟨rfl, rfl⟩ | ⟨hne, hj⟩
        · exact look_here _ _ _
        rw [look_far (nbeq hne)]
        by_cases hjn : j = tn
        · subst hjn
          exfalso
          rcases look_put hj with ⟨rfl, _⟩ | ⟨_, hj⟩
          · simp at e3
          rcases look_put hj with ⟨rfl, _⟩ | ⟨_, hj⟩
          · simp at e6
          exact look_not (f3 s' e') hj
        · rw [look_far (nbeq hjn), look_far (nbeq hne)]; exact hj
      cases e with
      | normal => exact nrm hq
      | exit j =>
        simp only [qBlk, Exit.inBlock] at hq ⊢
        split at hq
        · rename_i hj; rw [if_pos hj]; exact nrm hq
        · rename_i hj; rw [if_neg hj]; exact hq
      | goto => exact hq
      | ret => exact hq
      | panic => exact hq
      | outgrown => exact hq
    · by_cases hjc : j = tc
      · subst hjc
        exfalso
        rcases look_put hj with ⟨rfl, _⟩ | ⟨_, hj⟩
        · simp at e7
        rcases look_put hj with ⟨rfl, _⟩ | ⟨_, hj⟩
        · simp at e2
        rcases look_put hj with ⟨rfl, _⟩ | ⟨_, hj⟩
        · simp at e5
        exact look_not (f1 s e) hj
      · rw [look_far (nbeq hjc)]; exact hj
  · have hi' : i = l.length := by omega
    refine c_iff (look_here _ _ _) (decide_eq_false (by omega)) (c_exit (x_te (x_me ?_)))
    simp only [hi', List.drop_length, lfold]
    intro r hr p a hs
    refine hend s e r hr p a ⟨hs.sz, hs.df, fun j t hj => hs.tm j t ?_, hs.ow, hs.on, hs.nd, hs.ex, hs.su, hs.le⟩
    have hjc : j ≠ tc := by
      rintro rfl
      rcases look_put hj with ⟨rfl, _⟩ | ⟨_, hj⟩
      · simp at e5
      exact look_not (f1 s e) hj
    have hji : j ≠ ti := by
      rintro rfl
      rcases look_put hj with ⟨rfl, _⟩ | ⟨_, hj⟩
      · simp at e4
      exact look_not (f2 s e) hj
    rw [look_far (nbeq hjc), look_far (nbeq hji)]
    by_cases hjl : j = tl
    · subst hjl
      rcases look_put hj with ⟨rfl, rfl⟩ | ⟨_, hj⟩
      · simp at e9
      · exact (look_not (f4 s e) hj).elim
    · rw [look_far (nbeq hjl)]; exact hj
end
end Go.Proofs.YtmnmcobpfpkibaaGreatDoor
namespace Go.Proofs.YtmnmcobpfpkibaaGreatDoor
open Go.RowKit
set_option linter.unusedVariables false
def nn (y : Int) : Option Unit := if 0 ≤ y then some () else none
def nz (y : Int) : Option Unit := if y ≠ 0 then some () else none
theorem nn_ge {y : Int} {u : Unit} (h : nn y = some u) : 0 ≤ y := by unfold nn at h; split at h <;> simp_all
theorem at_nat {α : Type} {l : List α} {i : Nat} {x : α} (h : l[i]? = some x) : at? l (i : Int) = some x := by unfold at?; rw [if_pos (by omega)]; exact h
theorem ne_t {b : Bool} (h : b = false) : b ≠ true := by rw [h]; decide
theorem ne_f {b : Bool} (h : b = true) : b ≠ false := by rw [h]; decide
def skB (ops : List Oper) (j : Nat) (want : Bool) : List Nat → List Oper → Bool
  | _, [] => true
  | ds, o :: l => (match o.guard with
    | none => false
    | some (j', w) => (Nat.beq j' j && w == want) || (match (ops[j']?).bind (·.dst) with | some d => ds.any (Nat.beq d) | none => false)) && (match o.dst with | some d => skB ops j want (d :: ds) l | none => skB ops j want ds l)
def dstsOf : List Oper → List Nat
  | [] => []
  | o :: l => match o.dst with | some d => d :: dstsOf l | none => dstsOf l
def without (ds : List Nat) : Slots → Slots
  | [] => []
  | (i, t) :: T => bif ds.any (Nat.beq i) then without ds T else (i, t) :: without ds T
theorem look_without {ds : List Nat} : ∀ {T : Slots} {i : Nat} {t : TV}, look (without ds T) i = some t → look T i = some t ∧ ds.any (Nat.beq i) = false
  | [], i, t, h => by simp [without, look] at h
  | (j, u) :: T, i, t, h => by
    unfold without at h
    cases hb : ds.any (Nat.beq j) <;> rw [hb] at h
    · rcases look_put (T := without ds T) h with ⟨rfl, rfl⟩ | ⟨hne, h⟩
      · exact ⟨look_here _ _ _, hb⟩
      · rw [look_far (nbeq hne)]; exact look_without h
    · have h2 := look_without (T := T) h
      have hne : i ≠ j := by rintro rfl; rw [h2.2] at hb; cases hb
      rw [look_far (nbeq hne)]; exact h2
section
variable {P : Program} {ρ : Type} {z : Zt} {n : Nat} {T : Slots} {B : Boxes} {ops l : List Oper} {Φ : Option ρ} {Q : Kont ρ} {ty t : TypeId} {pos : String} {af : Array Edge} {gd : Option (Nat × Bool)} {d : Nat}
theorem l_box {α : Type} {k : Kd α} {y : α} {x : Operand} (h : Ev T x (rd k y)) (hd : Nat.ble (d + 1) n = true) (hk : ∀ g, JL P z n ops ((d, own g 0) :: T) ((some g, box k y) :: B) l Φ Q) : JL P z n ops T B (⟨some d, .box t x, ty, pos, af, none⟩ :: l) Φ Q :=
  l_so trivial (e_box h hd).so fun r hr q a ⟨g, hs⟩ => hk g r hr q a hs
theorem l_new {α : Type} (k : Kd α) (hz : Tz P t k) (hd : Nat.ble (d + 1) n = true) (hk : ∀ g, JL P z n ops ((d, own g 0) :: T) ((some g, box k k.z) :: B) l Φ Q) : JL P z n ops T B (⟨some d, .alloc t, ty, pos, af, none⟩ :: l) Φ Q :=
  l_so trivial (e_alloc k hz hd).so fun r hr q a ⟨g, hs⟩ => hk g r hr q a hs
theorem l_st {α β : Type} {k : Kd α} {m : Kd β} {y : α} {v : β} {get : α → β} {set : α → β → α} {x u : Operand} {g off : Nat} (i : Nat) (h : Ev T x (own g off)) (hv : Ev T u (rd m v)) (hi : B[i]? = some (some g, box k y)) (fl : Fld k off m get set) (ht : tyB P t m = true)
    (hk : JL P z n ops T (B.set i (some g, box k (set y v))) l Φ Q) : JL P z n ops T B (⟨none, .store t x u, ty, pos, af, none⟩ :: l) Φ Q :=
  l_so trivial (s_store i h hv hi fl ht) fun r hr q a hs => hk r hr q a hs
theorem l_call {σ : Type} {f at_ ts} {xs : List Operand} {m : Option σ} {res : σ → TV} {K : σ → Option ρ} (hc : Ct P f ts m res) (hx : Evs T xs ts) (hd : Nat.ble (d + 1) n = true) (hk : ∀ y, m = some y → JL P z n ops ((d, res y) :: T) B l (K y) Q) :
    JL P z n ops T B (⟨some d, .call ⟨.value (.func f), xs.toArray, at_⟩, ty, pos, af, none⟩ :: l) (m.bind K) Q :=
  l_bind fun y hy => l_so trivial (e_call hy hc hd hx).so fun r hr q a hs => hk y hy r hr q a hs
theorem l_callg {σ : Type} {f at_ ts} {xs : List Operand} {m : Option σ} {res : σ → TV} {K : σ → Option ρ} (g : Gd ops T gd) (hc : Ct P f ts m res) (hx : Evs T xs ts) (hd : Nat.ble (d + 1) n = true) (hk : ∀ y, m = some y → JL P z n ops ((d, res y) :: T) B l (K y) Q) :
    JL P z n ops T B (⟨some d, .call ⟨.value (.func f), xs.toArray, at_⟩, ty, pos, af, gd⟩ :: l) (m.bind K) Q :=
  l_bind fun y hy => l_so g (e_call hy hc hd hx).so fun r hr q a hs => hk y hy r hr q a hs

theorem run_equal_bool {x y : Bool} {w : World} (ht : P.underlying t = some .bool) : (Op.equal t (.bool x) (.bool y)).run P w = .ok (x == y) w := by
  show (Op.equalIn (9999 + 1) t (.bool x) (.bool y)).run P w = _
  rw [Op.equalIn, Sem.run_bind, run_underlying ht]
  rfl
theorem po_beq {u v : Operand} {x y : Bool} {t2 : TypeId} (h : Ev T u (rd kBool x)) (h' : Ev T v (rd kBool y)) (ht : P.underlying t = some .bool) : PO P z n T B (.binOp .eql t u v t2) (rd kBool (x == y)) := fun p a hs => by
  have h1 := ev_bool (hs.ev h); have h2 := ev_bool (hs.ev h')
  exact ⟨.bool (x == y), rfl, fun o w' ho _ => by simp only [execOp, ho, h1, h2]; simp [eqGuard, binOp, run_equal_bool ht]⟩
theorem skip_all {j d : Nat} {want b : Bool} (hd : ((ops[j]?).bind (·.dst)) = some d) (hb : b ≠ want) {p : Pt} : ∀ (l1 : List Oper) (ds : List Nat) (a : Act) (T0 : Slots), skB ops j want ds l1 = true → (∀ x ∈ dstsOf l1, x < n ∧ x ≠ d) → St z p n T0 B a → a.tmps[d]? = some (.bool b) → (∀ x ∈ ds, a.tmps[x]? = some undef) →
    ∀ {K : Exit → Act → World → Prop} {l2 : List Oper}, (∀ a', St z p n (without (dstsOf l1) T0) B a' → wpList P ops.toArray K l2 a' p.w) → wpList P ops.toArray K (l1 ++ l2) a p.w
  | [], ds, a, T0, _, _, hs, _, _, K, l2, h => h a (by
      have : ∀ T : Slots, without [] T = T := fun T => by
        induction T with
        | nil => rfl
        | cons x T ih => show (bif false then _ else _) = _; rw [ih]; rfl
      rw [show dstsOf [] = [] from rfl, this]; exact hs)
  | o :: l1, ds, a, T0, hsk, hlt, hs, hv, hu, K, l2, h => by
    show wpList P ops.toArray K (o :: (l1 ++ l2)) a p.w
    unfold skB at hsk
    simp only [Bool.and_eq_true] at hsk
    obtain ⟨hg, hrest⟩ := hsk
    have hw : Region.wanted o (yielded ops.toArray a.tmps) = false := by
      unfold Region.wanted
      split at hg
      · cases hg
      · rename_i j' w hgd
        rw [hgd]
        simp only [Bool.or_eq_true, Bool.and_eq_true, beq_iff_eq] at hg
        rcases hg with ⟨h1, rfl⟩ | hg
        · have := Nat.eq_of_beq_eq_true h1
          subst this
          simp [yielded, hd, hv, hb]
        · split at hg
          · rename_i d' hd'
            obtain ⟨x, hx, he⟩ := List.any_eq_true.1 hg
            have := Nat.eq_of_beq_eq_true he
            subst this
            simp [yielded, hd', hu _ hx, undef]
          · cases hg
    unfold wpList
    rw [if_neg (by rw [hw]; simp)]
    cases ho : o.dst with
    | none =>
      rw [ho] at hrest
      have e : dstsOf (o :: l1) = dstsOf l1 := by simp [dstsOf, ho]
      rw [e] at hlt h
      exact skip_all hd hb l1 ds a T0 hrest hlt hs hv hu h
    | some x =>
      rw [ho] at hrest
      have e : dstsOf (o :: l1) = x :: dstsOf l1 := by simp [dstsOf, ho]
      rw [e] at hlt h
      have hx := hlt x (by simp)
      have hs' : St z p n (without [x] T0) B (a.put (some x) undef) := by
        have h1 := hs.put (t := val undef) (v := undef) hx.1 rfl
        refine ⟨h1.sz, h1.df, fun i t hl => ?_, h1.ow, h1.on, h1.nd, h1.ex, h1.su, h1.le⟩
        obtain ⟨h2, h3⟩ := look_without hl
        refine h1.tm i t ?_
        rw [look_far (by simpa using h3)]; exact h2
      refine skip_all hd hb l1 (x :: ds) _ (without [x] T0) hrest (fun y hy => hlt y (by simp [hy])) hs' ?_ ?_ (fun a' ha => h a' ?_)
      · simp [Act.put, hx.2, hv]
      · intro y hy
        by_cases hyx : x = y
        · subst hyx; simp [Act.put, hs.sz, hx.1]
        · rcases List.mem_cons.1 hy with rfl | hy
          · exact absurd rfl hyx
          · simp [Act.put, hyx, hu y hy]
      · refine ⟨ha.sz, ha.df, fun i t hl => ?_, ha.ow, ha.on, ha.nd, ha.ex, ha.su, ha.le⟩
        refine ha.tm i t ?_
        have key : ∀ {T : Slots}, look (without (x :: dstsOf l1) T) i = some t → look (without (dstsOf l1) (without [x] T)) i = some t := by
          intro T
          induction T with
          | nil => exact id
          | cons c T ih =>
            obtain ⟨c, u⟩ := c
            intro hh
            unfold without at hh
            cases hb1 : Nat.beq c x
            · have hA : without [x] ((c, u) :: T) = (c, u) :: without [x] T := by
                show (bif (Nat.beq c x || false) then _ else _) = _
                rw [hb1]; rfl
              rw [hA]
              have hB : (x :: dstsOf l1).any (Nat.beq c) = (dstsOf l1).any (Nat.beq c) := by simp [hb1]
              rw [hB] at hh
              show look (bif (dstsOf l1).any (Nat.beq c) then _ else _) i = _
              cases hb2 : (dstsOf l1).any (Nat.beq c) <;> rw [hb2] at hh
              · rcases look_put (T := without (x :: dstsOf l1) T) hh with ⟨rfl, rfl⟩ | ⟨hne, hh⟩
                · exact look_here _ _ _
                · show look ((c, u) :: without (dstsOf l1) (without [x] T)) i = _
                  rw [look_far (nbeq hne)]; exact ih hh
              · exact ih hh
            · have hA : without [x] ((c, u) :: T) = without [x] T := by
                show (bif (Nat.beq c x || false) then _ else _) = _
                rw [hb1]; rfl
              rw [hA]
              have hB : (x :: dstsOf l1).any (Nat.beq c) = true := by simp [hb1]
              rw [hB] at hh
              exact ih hh
        exact key hl
theorem l_skipn (m j : Nat) (want : Bool) (g : ∃ d, ((ops[j]?).bind (·.dst)) = some d ∧ ∃ b, look T d = some (rd kBool b) ∧ b ≠ want)
    (hs : (skB ops j want [] (l.take m) && (dstsOf (l.take m)).all (fun x => Nat.ble (x + 1) n && (match (ops[j]?).bind (·.dst) with | some d => !Nat.beq x d | none => false))) = true)
    (h : JL P z n ops (without (dstsOf (l.take m)) T) B (l.drop m) Φ Q) : JL P z n ops T B l Φ Q := fun r hr p a hst => by
  obtain ⟨d, hd, b, hl, hb⟩ := g
  simp only [Bool.and_eq_true] at hs
  obtain ⟨v, h1, h2⟩ := hst.tm _ _ hl
  have h2 := ev_bool h2
  subst h2
  have := skip_all hd hb (l.take m) [] a T hs.1 (fun x hx => by
    have := List.all_eq_true.1 hs.2 x hx
    rw [hd] at this
    simp only [Bool.and_eq_true, Bool.not_eq_true'] at this
    exact ⟨Nat.le_of_ble_eq_true this.1, Nat.ne_of_beq_eq_false this.2⟩) hst h1 (fun x hx => by simp at hx) (K := QN (Q r .normal)) (l2 := l.drop m) (fun a' ha => h r hr p a' ha)
  rwa [List.take_append_drop] at this

inductive Rv (P : Program) (T : Slots) (B : Boxes) : ResultVar → TV → Prop
  | t {i t} : look T i = some t → Rv P T B (.tmp i) t
  | c {i ty g α} {k : Kd α} {v : α} (j : Nat) : look T i = some (own g 0) → B[j]? = some (some g, box k v) → tyB P ty k = true → Rv P T B (.cell i ty) (rd k v)
def Rvs (P : Program) (T : Slots) (B : Boxes) : List ResultVar → List TV → Prop
  | [], [] => True
  | x :: xs, t :: ts => Rv P T B x t ∧ Rvs P T B xs ts
  | _, _ => False
def resOf (tmps : Array Value) : ResultVar → Sem Value
  | .tmp t => pure (tmps.getD t undef)
  | .cell i t => do loadVar t (← asAddr (tmps.getD i undef))
theorem results_eq (fn : Func) (tmps : Array Value) : results fn tmps = (do
    let vs ← fn.results.mapM (resOf tmps)
    pure (if h : vs.size = 1 then vs[0] else .tuple vs)) := rfl
theorem rv_run {p : Pt} {a : Act} (hs : St z p n T B a) {x : ResultVar} {t : TV} (h : Rv P T B x t) : ∃ v, (resOf a.tmps x).run P p.w = .ok v p.w ∧ t.h p v := by
  cases h with
  | t hl =>
    obtain ⟨v, h1, h2⟩ := hs.tm _ _ hl
    exact ⟨v, by simp [resOf, Array.getD_eq_getD_getElem?, h1], h2⟩
  | @c i ty g α k v j hl hj ht =>
    obtain ⟨u, h1, h2⟩ := hs.tm _ _ hl
    have h2 : u = .pointer (some ⟨g, 0, none⟩) := h2
    obtain ⟨_, _, cs, tt, h3, h4⟩ := hs.box hj
    refine ⟨k.mk' cs.toList, ?_, Kd.V_mk h4⟩
    have := run_loadK (P := P) ht (w := p.w) h4 (ad := ⟨g, 0, none⟩) (fun j u hu => by rw [add_plain, cell_of_row _ _ _ _ _ _ h3]; simpa using hu)
    simp [resOf, Array.getD_eq_getD_getElem?, h1, h2, asAddr, this]
theorem rvs_run {p : Pt} {a : Act} (hs : St z p n T B a) : ∀ {xs : List ResultVar} {ts : List TV}, Rvs P T B xs ts → ∃ vs, (xs.mapM (resOf a.tmps)).run P p.w = .ok vs p.w ∧ both p ts vs
  | [], [], _ => ⟨[], by simp, trivial⟩
  | x :: xs, t :: ts, h => by
    obtain ⟨v, h1, h2⟩ := rv_run hs h.1
    obtain ⟨vs, h3, h4⟩ := rvs_run hs h.2
    refine ⟨v :: vs, ?_, h2, h4⟩
    rw [List.mapM_cons, Sem.run_bind, h1]
    simp only [Result.andThen_ok, Sem.run_bind, h3, Sem.run_pure]
  | [], _ :: _, h => h.elim
  | _ :: _, [], h => h.elim
theorem x_ret1 {fn : Func} {y : ρ} {res : ρ → TV} {x : ResultVar} (hf : fn.results = #[x]) (h : Rv P T B x (res y)) : JX z n T B .ret (some y) (qRet P fn z n res) := fun r hr p a hs => by
  injection hr with hr
  subst hr
  obtain ⟨vs, h1, h2⟩ := rvs_run (P := P) hs (xs := [x]) (ts := [res y]) ⟨h, trivial⟩
  match vs, h2 with
  | [v], h2 =>
    refine ⟨hs.df, v, ?_, p, rfl, hs.le, hs.ex, hs.su, h2.1⟩
    rw [results_eq, hf, Sem.run_bind, List.mapM_toArray, Sem.run_map, h1]
    simp
theorem x_retn {fn : Func} {y : ρ} {res : ρ → TV} {xs : List ResultVar} {ts : List TV} (hf : fn.results = xs.toArray) (h1 : Nat.beq ts.length 1 = false) (hr : res y = tup ts) (h : Rvs P T B xs ts) : JX z n T B .ret (some y) (qRet P fn z n res) := fun r hr' p a hs => by
  injection hr' with hr'
  subst hr'
  obtain ⟨vs, h2, h3⟩ := rvs_run (P := P) hs h
  refine ⟨hs.df, .tuple vs.toArray, ?_, p, rfl, hs.le, hs.ex, hs.su, by rw [hr]; exact ⟨vs, rfl, h3⟩⟩
  have := both_len h3
  rw [results_eq, hf, Sem.run_bind, List.mapM_toArray, Sem.run_map, h2]
  have h4 : ¬ vs.length = 1 := by rw [this]; exact Nat.ne_of_beq_eq_false h1
  simp [h4]
end
end Go.Proofs.YtmnmcobpfpkibaaGreatDoor
namespace Go.Proofs.YtmnmcobpfpkibaaGreatDoor
open Go.RowKit
set_option linter.unusedVariables false

def Later (w : World) : Type := { w' : World // Ext w w' }
instance (w : World) : Nonempty (Later w) := ⟨⟨w, Ext.refl w⟩⟩
def Later.w {w : World} (x : Later w) : World := x.1
@[go_sem] theorem Later.cell? {w : World} (x : Later w) (a : Addr) (h : (w.cell? a).isSome = true) : x.w.cell? a = w.cell? a := by
  obtain ⟨v, hv⟩ := Option.isSome_iff_exists.1 h
  rw [hv]
  exact Ext.cell x.2 hv

section
variable {P : Program} {ops : Array Oper} {md : Region.Mode}
theorem wpOp_ofNo {i : Nat} {a : Act} {w : World} {K K' : Act → World → Prop} {Q : Exit → Act → World → Prop} (h : ∀ a w, K a w → K' a w) (hh : wpOp P ops NoQ i K a w) : wpOp P ops Q i K' a w := by
  unfold wpOp at *
  split
  · exact h _ _ (by simpa [*] using hh)
  · rename_i o ho
    simp only [ho] at hh
    split
    · rename_i hw
      simp only [hw, if_true] at hh
      rcases hh with hh | hh
      · exact .inl (Oper.wp_ofNo h hh)
      · exact (noQ_lets hh.2).elim
    · rename_i hw; simp only [hw] at hh; exact h _ _ hh

def opMe : Op → Bool
  | .move _ | .assign _ | .pick _ _ _ | .extract _ _ => true
  | _ => false
theorem run_me {o : Oper} {ρ : Operand → Value} {w w' : World} {v : Value} (h : opMe o.op = true) (hr : (execOp ρ o).run P w = .ok (.value v) w) : (execOp ρ o).run P w' = .ok (.value v) w' := by
  unfold execOp at *
  cases ho : o.op <;> rw [ho] at h hr <;> try (simp [opMe] at h)
  · simp at hr ⊢; exact hr
  · simp at hr ⊢; exact hr
  · rename_i c x y
    cases hc : ρ c <;> simp_all [asBool, stuck]
  · rename_i t i
    cases hc : ρ t <;> simp_all [Instr.extract, stuck]
    rename_i vs
    cases hv : vs[i]? <;> simp_all
def FloatAt (P : Program) (ops : Array Oper) (o : Oper) (v : Value) (a : Act) (w : World) : Prop :=
  (Region.wanted o (yielded ops a.tmps) = true ∧ ∀ w', (opMe o.op = false → Ext w w') → (execOp a.eval o).run P w' = .ok (.value v) w') ∨
  (Region.wanted o (yielded ops a.tmps) = false ∧ v = undef)
theorem FloatAt.later {o : Oper} {v : Value} {a : Act} {w w' : World} (h : FloatAt P ops o v a w) (he : opMe o.op = false → Ext w w') : FloatAt P ops o v a w' := by
  rcases h with ⟨h1, h2⟩ | h
  · exact .inl ⟨h1, fun x hx => h2 x (fun hm => (he hm).trans (hx hm))⟩
  · exact .inr h
theorem FloatAt.of_same {o : Oper} {v : Value} {a a' : Act} {w : World} (hy : FloatAt P ops o v a w) (he : execOp a'.eval o = execOp a.eval o)
    (hw : Region.wanted o (yielded ops a'.tmps) = Region.wanted o (yielded ops a.tmps)) : FloatAt P ops o v a' w := by
  unfold FloatAt at *
  rw [he, hw]
  exact hy
theorem FloatAt.wpOp {i : Nat} {o : Oper} {v : Value} {a : Act} {w : World} {Q : Exit → Act → World → Prop} (hi : ops[i]? = some o) (hy : FloatAt P ops o v a w) {K : Act → World → Prop} (h : K (a.put o.dst v) w) : Go.wpOp P ops Q i K a w := by
  unfold Go.wpOp
  simp only [hi]
  rcases hy with ⟨hw, hv⟩ | ⟨hw, rfl⟩
  · have := hv w (fun _ => Ext.refl w)
    simp only [hw, if_true, Oper.wp, this, Oper.upon]; exact .inl h
  · simp only [hw, Bool.false_eq_true, if_false]; exact h
theorem wpOp_putF {j : Nat} {oi oj : Oper} {v : Value} (hj : ops[j]? = some oj) (hap : oi.apart ops oj = true)
    (hsi : ∀ cs b, oi.op ≠ .select cs b) (hsj : ∀ cs b, oj.op ≠ .select cs b) {K : Act → World → Prop} {a : Act} {w : World}
    (hy : FloatAt P ops oi v a w) (h : wpOp P ops NoQ j K (a.put oi.dst v) w) :
    wpOp P ops NoQ j (fun a' w' => FloatAt P ops oi v a' w ∧ K (a'.put oi.dst v) w') a w := by
  obtain ⟨h1, h2, h3⟩ := Oper.apart_spec hap
  have keep : ∀ (a : Act), FloatAt P ops oi v a w → ∀ u, FloatAt P ops oi v (a.put oj.dst u) w := fun a hy u =>
    hy.of_same (execOp_put oi hsi a oj.dst u h3) (wanted_put oi a oj.dst u h3)
  have keepD : ∀ d, FloatAt P ops oi v { a with defers := d :: a.defers } w := fun d => hy.of_same rfl rfl
  unfold wpOp at *
  simp only [hj] at *
  rw [wanted_put oj a oi.dst v h1] at h
  split
  · rename_i hw
    simp only [hw, if_true] at h
    rcases h with h | ⟨_, hlets⟩
    case inr => exact (noQ_lets hlets).elim
    refine .inl ?_
    unfold Oper.wp at *
    rw [execOp_put oj hsj a oi.dst v h1] at h
    generalize (execOp a.eval oj).run P w = r at *
    cases r with
    | ok n w' =>
      cases n <;> simp only [Oper.upon] at h ⊢
      case value u => exact ⟨keep a hy u, by rw [← Act.put_comm a v u h2]; exact h⟩
      case skip => exact ⟨keep a hy _, by rw [← Act.put_comm a v undef h2]; exact h⟩
      case defer d =>
        refine ⟨keep _ (keepD d) _, ?_⟩
        rw [← Act.put_comm _ v undef h2, ← Act.put_defers]
        exact h
      case enter f args =>
        refine Calls.mono h fun e w'' he => ?_
        cases e with
        | returned u => exact ⟨keep a hy u, by rw [← Act.put_comm a v u h2]; exact he⟩
        | panicked c => exact he
        | outgrown => exact he
      case row row args => exact Rows.mono h fun u w'' he => ⟨keep a hy u, by rw [← Act.put_comm a v u h2]; exact he⟩
    | halt x w' =>
      cases x <;> simp only [Oper.upon] at h ⊢
      case panic u => exact h
  · rename_i hw
    simp only [hw] at h
    exact ⟨keep a hy _, by rw [← Act.put_comm a v undef h2]; exact h⟩

def anyE (P : Program) (ops : Array Oper) (sk : Nat → Bool) (Q : Act → World → Prop) : Nat → Array Bool → Act → World → Prop
  | 0, listed, a, w => Region.ready .any ops listed = [] ∧ Q a w
  | f + 1, listed, a, w => (Region.ready .any ops listed = [] → Q a w) ∧
    ∀ i ∈ Region.ready .any ops listed, wpOp P ops NoQ i (fun a' w' => (sk i = false → Ext w w') ∧ anyE P ops sk Q f (listed.setIfInBounds i true) a' w') a w
theorem wpAny_of_anyE {sk : Nat → Bool} {Q : Act → World → Prop} {Q' : Exit → Act → World → Prop} (hQ : ∀ a w, Q a w → Q' .normal a w) : ∀ (f : Nat) (listed : Array Bool) (a : Act) (w : World),
    anyE P ops sk Q f listed a w → wpAny P .any ops Q' f listed a w
  | 0, _, _, _, h => ⟨h.1, hQ _ _ h.2⟩
  | f + 1, _, _, _, h => ⟨fun h0 => hQ _ _ (h.1 h0), fun i hi => wpOp_ofNo (fun a' w' h' => wpAny_of_anyE hQ f _ a' w' h'.2) (h.2 i hi)⟩

def anc (ops : Array Oper) : Nat → Nat → Nat → Bool
  | 0, _, _ => false
  | f + 1, j, i => match ops[j]? with
    | some o => o.after.any (fun e => Region.binds .any e && e.on == i) || o.after.any (fun e => Region.binds .any e && anc ops f e.on i)
    | none => false
def Closed (ops : Array Oper) (listed : Array Bool) : Prop :=
  ∀ j o, ops[j]? = some o → listed.getD j false = true → ∀ e ∈ o.after, Region.binds .any e = true → listed.getD e.on false = true
theorem anc_listed {listed : Array Bool} (hc : Closed ops listed) {i : Nat} : ∀ (f j : Nat) {o : Oper}, ops[j]? = some o → (∀ e ∈ o.after, Region.binds .any e = true → listed.getD e.on false = true) → anc ops f j i = true → listed.getD i false = true
  | 0, _, _, _, _, h => by simp [anc] at h
  | f + 1, j, o, ho, hd, h => by
    simp only [anc, ho, Bool.or_eq_true] at h
    rcases h with h | h
    · obtain ⟨e, he, hb⟩ := Array.any_eq_true'.1 h
      simp only [Bool.and_eq_true, beq_iff_eq] at hb
      rw [← hb.2]; exact hd e he hb.1
    · obtain ⟨e, he, hb⟩ := Array.any_eq_true'.1 h
      simp only [Bool.and_eq_true] at hb
      have hl := hd e he hb.1
      cases f with
      | zero => simp [anc] at hb
      | succ f =>
        cases ho2 : ops[e.on]? with
        | none => simp [anc, ho2] at hb
        | some o2 => exact anc_listed hc (f + 1) e.on ho2 (fun e' he' hb' => hc e.on o2 ho2 hl e' he' hb') hb.2
theorem Closed.set {listed : Array Bool} {j : Nat} (hc : Closed ops listed) (hj : j ∈ Region.ready .any ops listed) : Closed ops (listed.setIfInBounds j true) := by
  obtain ⟨_, oj, hoj, hall⟩ := mem_ready.1 hj
  intro k o hk hl e he hb
  by_cases hjk : j = k
  · subst hjk
    have : o = oj := Option.some.inj (hk.symm.trans hoj)
    subst this
    exact getD_set_true (hall e he hb)
  · rw [getD_set_ne false hjk] at hl
    exact getD_set_true (hc k o hk hl e he hb)
theorem anyE_first {sk : Nat → Bool} {Q : Act → World → Prop} {i : Nat} {oi : Oper} {v : Value} (hi : ops[i]? = some oi) (hsel : ∀ (j : Nat) (o : Oper) cs b, ops[j]? = some o → o.op ≠ .select cs b) (hski : sk i = false) :
    ∀ (f : Nat) (listed : Array Bool) (a : Act) (w : World), Closed ops listed →
      (∀ j oj, ops[j]? = some oj → j ≠ i → listed.getD j true = false → (∀ e ∈ oj.after, Region.binds .any e = true → e.on ≠ i) → oi.apart ops oj = true) →
      (∀ j, sk j = true → listed.getD j true = false → opMe oi.op = false → ∃ n, anc ops n j i = true) →
      i ∈ Region.ready .any ops listed → FloatAt P ops oi v a w →
      anyE P ops sk Q f (listed.setIfInBounds i true) (a.put oi.dst v) w → anyE P ops sk Q (f + 1) listed a w := by
  intro f
  induction f with
  | zero =>
    intro listed a w _ _ _ hr hy H
    refine ⟨fun h => (by rw [h] at hr; cases hr), fun j hj => ?_⟩
    by_cases hji : j = i
    · subst hji; exact hy.wpOp hi ⟨fun _ => Ext.refl w, H⟩
    · have := ready_mono hj hji
      rw [H.1] at this
      cases this
  | succ f ih =>
    intro listed a w hcl hfree hsk hr hy H
    have hun := (mem_ready.1 hr).1
    refine ⟨fun h => (by rw [h] at hr; cases hr), fun j hj => ?_⟩
    by_cases hji : j = i
    · subst hji; exact hy.wpOp hi ⟨fun _ => Ext.refl w, H⟩
    · have h1 := H.2 j (ready_mono hj hji)
      obtain ⟨hjun, oj, hoj, hall⟩ := mem_ready.1 hj
      have hnot : ∀ e ∈ oj.after, Region.binds .any e = true → e.on ≠ i := fun e he hb heq => by
        have h1 := hall e he hb
        rw [heq, getD_both hun] at h1
        cases h1
      have hskj : opMe oi.op = false → sk j = false := fun hm => by
        cases hs : sk j with
        | false => rfl
        | true =>
          obtain ⟨n, hn⟩ := hsk j hs hjun hm
          have := anc_listed hcl n j hoj hall hn
          rw [getD_both hun] at this
          cases this
      have h2 := wpOp_putF hoj (hfree j oj hoj hji hjun hnot) (fun cs b => hsel i oi cs b hi) (fun cs b => hsel j oj cs b hoj) hy h1
      have unl : ∀ k, (listed.setIfInBounds j true).getD k true = false → listed.getD k true = false := fun k hk => by
        by_cases hjk : j = k
        · subst hjk; exact hjun
        · rw [getD_set_ne true hjk] at hk; exact hk
      refine wpOp_mono (fun a' w' h3 => ?_) h2
      obtain ⟨h4, h5, h6⟩ := h3
      refine ⟨h5, ih (listed.setIfInBounds j true) a' w' (hcl.set hj) (fun k ok hk hki hu hno => hfree k ok hk hki (unl k hu) hno) (fun k hk hu => hsk k hk (unl k hu)) (ready_mono hr (Ne.symm hji)) (h4.later (fun hm => h5 (hskj hm))) ?_⟩
      rw [Array.setIfInBounds_comm _ _ hji]
      exact h6

def walkE (P : Program) (ops : Array Oper) (fl sk : Nat → Bool) (Q : Act → World → Prop) : List Nat → Act → World → Prop
  | [], a, w => Q a w
  | i :: rest, a, w => match ops[i]? with
    | none => False
    | some o =>
      if fl i then
        if Region.wanted o (yielded ops a.tmps) then ∃ v, (∀ w', (opMe o.op = false → Ext w w') → (execOp a.eval o).run P w' = .ok (.value v) w') ∧ walkE P ops fl sk Q rest (a.put o.dst v) w
        else walkE P ops fl sk Q rest (a.put o.dst undef) w
      else
        if Region.wanted o (yielded ops a.tmps) then o.wp P a w (fun a' w' => (sk i = false → Ext w w') ∧ walkE P ops fl sk Q rest a' w') NoQ
        else walkE P ops fl sk Q rest (a.put o.dst undef) w
def meAt (ops : Array Oper) (i : Nat) : Bool := match ops[i]? with | some o => opMe o.op | none => false
def chkE (ops : Array Oper) (fl sk : Nat → Bool) : List Nat → Array Bool → Bool
  | [], listed => (Region.ready .any ops listed).isEmpty
  | i :: rest, listed =>
    (if fl i then (Region.ready .any ops listed).contains i && Region.free .any ops listed i && !sk i && (List.range ops.size).all (fun j => !sk j || listed.getD j true || meAt ops i || anc ops 14 j i)
     else decide (Region.ready .any ops listed = [i])) && chkE ops fl sk rest (listed.setIfInBounds i true)
theorem anyE_of_walk {fl sk : Nat → Bool} {Q : Act → World → Prop} (hsel : Region.noSelect ops = true) (hskb : ∀ j, sk j = true → j < ops.size) : ∀ (ord : List Nat) (listed : Array Bool) (a : Act) (w : World), Closed ops listed → chkE ops fl sk ord listed = true →
    walkE P ops fl sk Q ord a w → anyE P ops sk Q ord.length listed a w
  | [], listed, a, w, _, hB, h => ⟨by simpa [chkE] using hB, h⟩
  | i :: rest, listed, a, w, hcl, hB, h => by
    simp only [chkE, Bool.and_eq_true] at hB
    obtain ⟨hB1, hB2⟩ := hB
    unfold walkE at h
    cases ho : ops[i]? with
    | none => rw [ho] at h; exact h.elim
    | some o =>
      rw [ho] at h
      simp only at h
      by_cases hf : fl i = true
      · simp only [hf, if_true, Bool.and_eq_true] at hB1 h
        obtain ⟨⟨⟨hr, hfr⟩, hs⟩, hall⟩ := hB1
        have hr' : i ∈ Region.ready .any ops listed := by simpa using hr
        have hfl : ∃ v, FloatAt P ops o v a w ∧ walkE P ops fl sk Q rest (a.put o.dst v) w := by
          by_cases hw : Region.wanted o (yielded ops a.tmps) = true
          · simp only [hw, if_true] at h
            obtain ⟨v, h1, h2⟩ := h
            exact ⟨v, .inl ⟨hw, h1⟩, h2⟩
          · simp only [hw] at h
            exact ⟨undef, .inr ⟨by simpa using hw, rfl⟩, h⟩
        obtain ⟨v, hy, hK⟩ := hfl
        refine anyE_first ho (Region.noSelect_spec hsel) (by simpa using hs) _ listed a w hcl (Region.free_spec ho hfr) (fun j hj hu hm => ⟨14, ?_⟩) hr' hy (anyE_of_walk hsel hskb rest _ _ _ (hcl.set hr') hB2 hK)
        have h1 := List.all_eq_true.1 hall j (List.mem_range.2 (hskb j hj))
        simpa [hj, hu, meAt, ho, hm] using h1
      · simp only [hf] at hB1 h
        have hB1' : Region.ready .any ops listed = [i] := by simpa using hB1
        refine ⟨fun h0 => (by rw [hB1'] at h0; cases h0), fun j hj => ?_⟩
        rw [hB1'] at hj
        have : j = i := by simpa using hj
        subst this
        have hr' : j ∈ Region.ready .any ops listed := by rw [hB1']; simp
        unfold wpOp
        simp only [ho]
        by_cases hw : Region.wanted o (yielded ops a.tmps) = true
        · simp only [hw, if_true] at h ⊢
          exact .inl (Oper.wp_mono (fun a' w' h' => ⟨h'.1, anyE_of_walk hsel hskb rest _ _ _ (hcl.set hr') hB2 h'.2⟩) h)
        · simp only [hw] at h ⊢
          exact ⟨fun _ => Ext.refl w, anyE_of_walk hsel hskb rest _ _ _ (hcl.set hr') hB2 h⟩
def inL (l : List Nat) (i : Nat) : Bool := l.contains i
theorem region_walk {id : Nat} {Q : Exit → Act → World → Prop} {a : Act} {w : World} {l : List Oper} (ord fo sk : List Nat) (hm : P.follows .mixedOrders = true)
    (hB : (Region.noSelect l.toArray && sk.all (fun j => decide (j < l.length)) && decide (ord.length = l.length) && chkE l.toArray (fun i => !inL fo i) (inL sk) ord (Array.replicate l.length false)) = true)
    (h : walkE P l.toArray (fun i => !inL fo i) (inL sk) (Q .normal) ord a w.drew) : (Code.region id l.toArray true).wp P Q a w := by
  simp only [Bool.and_eq_true, decide_eq_true_eq] at hB
  obtain ⟨⟨⟨h1, h2⟩, h3⟩, h4⟩ := hB
  refine wp_region_any hm ?_
  have := anyE_of_walk (P := P) (Q := Q .normal) h1 (fun j hj => by
    have := List.all_eq_true.1 h2 j (by simpa [inL] using hj)
    simpa using this) ord (Array.replicate l.length false) a w.drew (fun j o _ hl => by rw [getD_replicate_false] at hl; cases hl) h4 h
  rw [h3] at this
  exact wpAny_of_anyE (fun _ _ h => h) _ _ _ _ (by simpa using this)
end
end Go.Proofs.YtmnmcobpfpkibaaGreatDoor
namespace Go.Proofs.YtmnmcobpfpkibaaGreatDoor
open Go.RowKit
set_option linter.unusedVariables false
section
variable {P : Program} {ρ : Type} {z : Zt} {n : Nat}
def JW (P : Program) (z : Zt) (n : Nat) (ops : List Oper) (fo sk : List Nat) (T : Slots) (B : Boxes) (ord : List Nat) (Φ : Option ρ) (Q : Kont ρ) : Prop :=
  ∀ r, Φ = some r → ∀ p a, St z p n T B a → walkE P ops.toArray (fun i => !inL fo i) (inL sk) (Q r .normal) ord a p.w
theorem c_draw {T B i Φ} {Q : Kont ρ} {l : List Oper} (ord fo sk : List Nat) (hm : P.follows .mixedOrders = true)
    (hB : (Region.noSelect l.toArray && sk.all (fun j => decide (j < l.length)) && decide (ord.length = l.length) && chkE l.toArray (fun i => !inL fo i) (inL sk) ord (Array.replicate l.length false)) = true)
    (h : JW P z n l fo sk T B ord Φ Q) : JC P z n T B (.region i l.toArray true) Φ Q := fun r hr p a hs => by
  refine region_walk ord fo sk hm hB ?_
  have hle : p.le ⟨p.w.drew, p.S, p.lt⟩ := fun b hb => ⟨hb, rfl⟩
  exact h r hr ⟨p.w.drew, p.S, p.lt⟩ a (hs.go hle hs.ex.drew hs.su (fun g b hg => by obtain ⟨h1, h2, o, h3, h4⟩ := hs.ow g b hg; exact ⟨h1, h2, o, h3, b.up hle h4⟩) hs.on hs.nd)
theorem w_nil {T B Φ ops fo sk} {Q : Kont ρ} (h : JX z n T B .normal Φ Q) : JW P z n ops fo sk T B [] Φ Q := h
theorem w_bind {α : Type} {T B ops fo sk l} {m : Option α} {K : α → Option ρ} {Q : Kont ρ} (h : ∀ x, m = some x → JW P z n ops fo sk T B l (K x) Q) : JW P z n ops fo sk T B l (m.bind K) Q := fun r hr => by
  obtain ⟨x, hx, hr⟩ := Option.bind_eq_some_iff.1 hr; exact h x hx r hr
theorem w_if {T B ops fo sk l} {b : Bool} {Φ Ψ : Option ρ} {Q : Kont ρ} (hx : b = true → JW P z n ops fo sk T B l Φ Q) (hy : b = false → JW P z n ops fo sk T B l Ψ Q) : JW P z n ops fo sk T B l (if b = true then Φ else Ψ) Q := fun r hr => by
  cases b
  · exact hy rfl r hr
  · exact hx rfl r hr
theorem walkE_mono {ops : Array Oper} {fl sk : Nat → Bool} {Q Q' : Act → World → Prop} (h : ∀ a w, Q a w → Q' a w) : ∀ (l : List Nat) (a : Act) (w : World), walkE P ops fl sk Q l a w → walkE P ops fl sk Q' l a w
  | [], a, w, hh => h a w hh
  | i :: l, a, w, hh => by
    unfold walkE at *
    split at hh
    · exact hh
    · rename_i o ho
      try simp only [ho]
      split at hh
      · rename_i hf
        simp only [hf, if_true]
        split at hh
        · rename_i hw; simp only [hw, if_true]; obtain ⟨v, h1, h2⟩ := hh; exact ⟨v, h1, walkE_mono h l _ _ h2⟩
        · rename_i hw; simp only [hw]; exact walkE_mono h l _ _ hh
      · rename_i hf
        simp only [hf]
        split at hh
        · rename_i hw; simp only [hw, if_true]; exact Oper.wp_mono (fun a' w' h' => ⟨h'.1, walkE_mono h l _ _ h'.2⟩) hh
        · rename_i hw; simp only [hw]; exact walkE_mono h l _ _ hh
theorem walkE_append {ops : Array Oper} {fl sk : Nat → Bool} {Q : Act → World → Prop} {l2 : List Nat} : ∀ (l1 : List Nat) (a : Act) (w : World), walkE P ops fl sk (walkE P ops fl sk Q l2) l1 a w → walkE P ops fl sk Q (l1 ++ l2) a w
  | [], a, w, hh => hh
  | i :: l, a, w, hh => by
    show walkE P ops fl sk Q (i :: (l ++ l2)) a w
    unfold walkE at hh ⊢
    split at hh
    · exact hh
    · rename_i o ho
      try simp only [ho]
      split at hh
      · rename_i hf
        simp only [hf, if_true]
        split at hh
        · rename_i hw; simp only [hw, if_true]; obtain ⟨v, h1, h2⟩ := hh; exact ⟨v, h1, walkE_append l _ _ h2⟩
        · rename_i hw; simp only [hw]; exact walkE_append l _ _ hh
      · rename_i hf
        simp only [hf]
        split at hh
        · rename_i hw; simp only [hw, if_true]; exact Oper.wp_mono (fun a' w' h' => ⟨h'.1, walkE_append l _ _ h'.2⟩) hh
        · rename_i hw; simp only [hw]; exact walkE_append l _ _ hh
theorem w_jn {σ η : Type} {T B ops fo sk l} {Q : Kont ρ} {k : σ → Option ρ} {f : (σ → Option ρ) → Option ρ} (m : Nat) (T' : σ → η → Slots) (B' : σ → η → Boxes) (h : ∀ k' : σ → Option ρ, JW P z n ops fo sk T B (l.take m) (f k') (qMid z n (fun s : σ × η => T' s.1 s.2) (fun s => B' s.1 s.2) (fun s => k' s.1) Q)) (hy : ∀ s e, JW P z n ops fo sk (T' s e) (B' s e) (l.drop m) (k s) Q) : JW P z n ops fo sk T B l (jn k f) Q := fun r hr p a hs => by
  have := walkE_append (l2 := l.drop m) (l.take m) a p.w (walkE_mono (fun a' w' hq => by obtain ⟨s, hk, q, rfl, hq⟩ := hq; exact hy s.1 s.2 r hk q a' hq) _ _ _ (h k r hr p a hs))
  rwa [List.take_append_drop] at this
theorem w_po {T B ops fo sk l Φ ty pos af gd op d t} {i : Nat} {Q : Kont ρ} (ho : ops[i]? = some ⟨some d, op, ty, pos, af, gd⟩) (hf : inL fo i = false) (g : Gd ops T gd) (hp : PO P z n T B op t) (hd : Nat.ble (d + 1) n = true) (h : JW P z n ops fo sk ((d, t) :: T) B l Φ Q) : JW P z n ops fo sk T B (i :: l) Φ Q := fun r hr p a hs => by
  unfold walkE
  have ho' : ops.toArray[i]? = some ⟨some d, op, ty, pos, af, gd⟩ := by simpa using ho
  obtain ⟨v, hv, he⟩ := hp p a hs
  simp only [ho', hf, Bool.not_false, if_true]
  rw [if_pos (wanted_of hs (o := ⟨some d, op, ty, pos, af, gd⟩) g)]
  refine ⟨v, fun w' hx => ?_, h r hr p _ (hs.put (Nat.le_of_ble_eq_true hd) hv)⟩
  cases hm : opMe op with
  | false => exact he _ w' rfl (hx hm)
  | true => exact run_me (w := p.w) hm (he _ p.w rfl (Ext.refl _))
theorem w_p {T B ops fo sk l Φ ty pos af op d t} {i : Nat} {Q : Kont ρ} (ho : ops[i]? = some ⟨some d, op, ty, pos, af, none⟩) (hf : inL fo i = false) (hp : PO P z n T B op t) (hd : Nat.ble (d + 1) n = true) (h : JW P z n ops fo sk ((d, t) :: T) B l Φ Q) : JW P z n ops fo sk T B (i :: l) Φ Q := w_po ho hf trivial hp hd h
theorem w_skip {T B ops fo sk l Φ ty pos af gd op d} {i : Nat} {Q : Kont ρ} (ho : ops[i]? = some ⟨some d, op, ty, pos, af, gd⟩) (g : Gn ops T gd) (hd : Nat.ble (d + 1) n = true) (h : JW P z n ops fo sk ((d, val undef) :: T) B l Φ Q) : JW P z n ops fo sk T B (i :: l) Φ Q := fun r hr p a hs => by
  have ho' : ops.toArray[i]? = some ⟨some d, op, ty, pos, af, gd⟩ := by simpa using ho
  have hn := not_wanted_of hs (o := ⟨some d, op, ty, pos, af, gd⟩) g
  have hh := h r hr p _ (hs.put (t := val undef) (Nat.le_of_ble_eq_true hd) rfl)
  unfold walkE
  simp only [ho']
  split
  · rw [if_neg (by rw [hn]; simp)]; exact hh
  · rw [if_neg (by rw [hn]; simp)]; exact hh
theorem w_eo {T B ops fo sk l Φ o} {i : Nat} {R : Pt → Act → Prop} {Q : Kont ρ} (ho : ops[i]? = some o) (hf : inL fo i = true) (g : Gd ops T o.guard) (hp : EO P z n T B o R) (h : ∀ r, Φ = some r → ∀ q a, R q a → walkE P ops.toArray (fun i => !inL fo i) (inL sk) (Q r .normal) l a q.w) : JW P z n ops fo sk T B (i :: l) Φ Q := fun r hr p a hs => by
  unfold walkE
  have ho' : ops.toArray[i]? = some o := by simpa using ho
  simp only [ho', hf, Bool.not_true, Bool.false_eq_true, if_false]
  rw [if_pos (wanted_of hs g)]
  exact hp p a hs _ (fun q a' hR he => ⟨fun _ => he, h r hr q a' hR⟩)
theorem w_so {T B ops fo sk l Φ o} {i : Nat} {R : Pt → Act → Prop} {Q : Kont ρ} (ho : ops[i]? = some o) (hf : inL fo i = true) (hk : inL sk i = true) (g : Gd ops T o.guard) (hp : SO P z n T B o R) (h : ∀ r, Φ = some r → ∀ q a, R q a → walkE P ops.toArray (fun i => !inL fo i) (inL sk) (Q r .normal) l a q.w) : JW P z n ops fo sk T B (i :: l) Φ Q := fun r hr p a hs => by
  unfold walkE
  have ho' : ops.toArray[i]? = some o := by simpa using ho
  simp only [ho', hf, Bool.not_true, Bool.false_eq_true, if_false]
  rw [if_pos (wanted_of hs g)]
  exact hp p a hs _ (fun q a' hR => ⟨fun hx => (by rw [hk] at hx; cases hx), h r hr q a' hR⟩)
theorem w_new {α : Type} (k : Kd α) {T B ops fo sk l Φ ty pos af d t} {i : Nat} {Q : Kont ρ} (ho : ops[i]? = some ⟨some d, .alloc t, ty, pos, af, none⟩) (hf : inL fo i = true) (hz : Tz P t k) (hd : Nat.ble (d + 1) n = true) (hk : ∀ g, JW P z n ops fo sk ((d, own g 0) :: T) ((some g, box k k.z) :: B) l Φ Q) : JW P z n ops fo sk T B (i :: l) Φ Q :=
  w_eo ho hf trivial (e_alloc k hz hd) fun r hr q a ⟨g, hs⟩ => hk g r hr q a hs
theorem w_st {α β : Type} {k : Kd α} {m : Kd β} {y : α} {v : β} {get : α → β} {set : α → β → α} {x u : Operand} {g off : Nat} {T B ops fo sk l Φ ty pos af t} {i : Nat} {Q : Kont ρ} (b : Nat) (ho : ops[i]? = some ⟨none, .store t x u, ty, pos, af, none⟩) (hf : inL fo i = true) (hk : inL sk i = true)
    (h : Ev T x (own g off)) (hv : Ev T u (rd m v)) (hi : B[b]? = some (some g, box k y)) (fl : Fld k off m get set) (ht : tyB P t m = true) (hh : JW P z n ops fo sk T (B.set b (some g, box k (set y v))) l Φ Q) : JW P z n ops fo sk T B (i :: l) Φ Q :=
  w_so ho hf hk trivial (s_store b h hv hi fl ht) fun r hr q a hs => hh r hr q a hs
theorem w_callg {σ : Type} {f at_ ts} {xs : List Operand} {m : Option σ} {res : σ → TV} {K : σ → Option ρ} {T B ops fo sk l ty pos af gd d} {i : Nat} {Q : Kont ρ} (ho : ops[i]? = some ⟨some d, .call ⟨.value (.func f), xs.toArray, at_⟩, ty, pos, af, gd⟩) (hf : inL fo i = true) (g : Gd ops T gd) (hc : Ct P f ts m res) (hx : Evs T xs ts) (hd : Nat.ble (d + 1) n = true) (hk : ∀ y, m = some y → JW P z n ops fo sk ((d, res y) :: T) B l (K y) Q) :
    JW P z n ops fo sk T B (i :: l) (m.bind K) Q :=
  w_bind fun y hy => w_eo ho hf g (e_call hy hc hd hx) fun r hr q a hs => hk y hy r hr q a hs
theorem w_call {σ : Type} {f at_ ts} {xs : List Operand} {m : Option σ} {res : σ → TV} {K : σ → Option ρ} {T B ops fo sk l ty pos af d} {i : Nat} {Q : Kont ρ} (ho : ops[i]? = some ⟨some d, .call ⟨.value (.func f), xs.toArray, at_⟩, ty, pos, af, none⟩) (hf : inL fo i = true) (hc : Ct P f ts m res) (hx : Evs T xs ts) (hd : Nat.ble (d + 1) n = true) (hk : ∀ y, m = some y → JW P z n ops fo sk ((d, res y) :: T) B l (K y) Q) :
    JW P z n ops fo sk T B (i :: l) (m.bind K) Q := w_callg ho hf trivial hc hx hd hk
end
end Go.Proofs.YtmnmcobpfpkibaaGreatDoor
namespace Go.Proofs.YtmnmcobpfpkibaaGreatDoor
open Go.RowKit
set_option linter.unusedVariables false
def placesOf (P : Program) (t : TypeId) : Option (List (Nat × Nat)) :=
  match P.underlying t with
  | some (.struct fields) => fields.toList.mapM (fun f => (P.info? f.type).map fun i => (f.offset, i.size))
  | _ => none
def plB (P : Program) (t : TypeId) (i off sz : Nat) : Bool :=
  match placesOf P t with
  | some ps => ps[i]? == some (off, sz)
  | none => false
section
variable {P : Program} {ρ : Type} {z : Zt} {n : Nat} {T : Slots} {B : Boxes}
theorem foldl_set (off : Nat) : ∀ (vs : List Value) (i : Nat) (cells : Array Value), off + i + vs.length ≤ cells.size →
    (vs.zipIdx i).foldl (fun (cs : Array Value) (x : Value × Nat) => cs.setIfInBounds (off + x.2) x.1) cells = (cells.toList.take (off + i) ++ vs ++ cells.toList.drop (off + i + vs.length)).toArray
  | [], i, cells, h => by simp
  | v :: vs, i, cells, h => by
    rw [List.zipIdx_cons, List.foldl_cons, foldl_set off vs (i + 1) _ (by simp at h ⊢; omega)]
    have e := list_seg_step cells.toList (off + i) v vs (by simp at h ⊢; omega)
    congr 1
    simpa [Array.toList_setIfInBounds, Nat.add_assoc] using e
theorem foldl_setA (off : Nat) (vs : Array Value) (cells : Array Value) (h : off + vs.size ≤ cells.size) :
    vs.zipIdx.foldl (fun (cs : Array Value) (x : Value × Nat) => cs.setIfInBounds (off + x.2) x.1) cells = (cells.toList.take off ++ vs.toList ++ cells.toList.drop (off + vs.size)).toArray := by
  have := foldl_set off vs.toList 0 cells (by simpa using h)
  rw [← Array.foldl_toList, Array.toList_zipIdx, this]
  simp
theorem fill_cons {place : Nat → Option (Nat × Nat)} {cells : Array Value} {i : Nat} {v : Value} {rest : List (Nat × Value)} {off size : Nat} (hp : place i = some (off, size)) (hv : v.cells.size = size) (hc : off + size ≤ cells.size) :
    Instr.fill place cells ((i, v) :: rest) = Instr.fill place (cells.toList.take off ++ v.cells.toList ++ cells.toList.drop (off + size)).toArray rest := by
  rw [Instr.fill, hp]
  simp only
  rw [if_neg (by simp [hv]; omega)]
  have := foldl_setA off v.cells cells (by omega)
  rw [hv] at this
  exact congrArg (fun c => Instr.fill place c rest) this
inductive Bld (P : Program) (t : TypeId) (T : Slots) {α : Type} (k : Kd α) : List (Nat × Operand) → α → α → Prop
  | nil (x : α) : Bld P t T k [] x x
  | cons {β : Type} {i : Nat} {o : Operand} {l : Kd β} {off : Nat} {get : α → β} {set : α → β → α} {y : β} {x x' : α} {rest : List (Nat × Operand)} : plB P t i off l.sz = true → Fld k off l get set → Ev T o (rd l y) → Bld P t T k rest (set x y) x' → Bld P t T k ((i, o) :: rest) x x'
theorem bld_fill {α : Type} {k : Kd α} {t : TypeId} {ps : List (Nat × Nat)} (hps : placesOf P t = some ps) {p : Pt} {a : Act} (hs : St z p n T B a) : ∀ {parts : List (Nat × Operand)} {x x' : α} {cells : Array Value}, Bld P t T k parts x x' → k.K p.w p.S x cells.toList →
    ∃ cells', Instr.fill (ps.toArray[·]?) cells (parts.map fun (i, o) => (i, a.eval o)) = some cells' ∧ k.K p.w p.S x' cells'.toList
  | [], x, x', cells, h, hk => by cases h; exact ⟨cells, rfl, hk⟩
  | _ :: rest, x, x', cells, h, hk => by
    cases h with
    | @cons β i o l off get set y _ _ _ hp fl he hr =>
      have hv := Kd.V_cells (hs.ev he)
      have hlen := l.len hv
      have hbd := fl.bd
      have hcl := k.len hk
      have hp' : ps.toArray[i]? = some (off, l.sz) := by
        unfold plB at hp
        rw [hps] at hp
        simpa using hp
      have hk2 := fl.s hk hv
      obtain ⟨cells', h1, h2⟩ := bld_fill hps hs (cells := (cells.toList.take off ++ (a.eval o).cells.toList ++ cells.toList.drop (off + l.sz)).toArray) hr hk2
      refine ⟨cells', ?_, h2⟩
      rw [List.map_cons, fill_cons hp' (by simpa using hlen) (by simp at hcl; omega)]
      exact h1
theorem po_build {α : Type} (k : Kd α) {t : TypeId} {parts : List (Nat × Operand)} {x : α} (hst : k.st = true) (hz : Tz P t k) (hps : (placesOf P t).isSome = true) (h : Bld P t T k parts k.z x) : PO P z n T B (.build t parts.toArray) (rd k x) := fun p a hs => by
  obtain ⟨ps, hps⟩ := Option.isSome_iff_exists.1 hps
  obtain ⟨cells', h1, h2⟩ := bld_fill hps hs (cells := k.zc.toArray) h (k.zk _ _)
  have hb : P.built t (parts.map fun (i, o) => (i, a.eval o)) = some cells' := by
    unfold Tz Kd.mk' at hz
    rw [hst] at hz
    unfold placesOf at hps
    unfold Program.built
    cases hi : P.info? t with
    | none => simp [hi] at hz
    | some it =>
      split at hps
      · rename_i fs hu
        have hz' : it.zero = some (.agg k.zc.toArray) := by simpa [hi] using hz
        simp only [hu, hz', hps, Value.cells]
        exact h1
      · cases hps
  refine ⟨.agg cells', ?_, fun o w' ho _ => ?_⟩
  · show k.V _ _ _ _
    unfold Kd.V
    rw [hst]
    exact ⟨_, rfl, h2⟩
  · have := run_build (P := P) w' t (parts.map fun (i, o) => (i, a.eval o)).toArray cells' (by simpa using hb)
    simp only [execOp, ho, List.map_toArray]
    rw [Sem.run_bind, this]
    rfl

inductive Bsl (T : Slots) {α : Type} (k : Kd α) : Nat → List (Nat × Operand) → List α → Prop
  | nil (j : Nat) : Bsl T k j [] []
  | cons {j : Nat} {o : Operand} {y : α} {rest : List (Nat × Operand)} {ys : List α} : Ev T o (rd k y) → Bsl T k (j + 1) rest ys → Bsl T k j ((j, o) :: rest) (y :: ys)
def Kd.R {α : Type} (k : Kd α) (w : World) (S : Nat → Prop) : List α → List Value → Prop
  | [], cs => cs = []
  | x :: xs, cs => ∃ c1 c2, cs = c1 ++ c2 ∧ k.K w S x c1 ∧ Kd.R k w S xs c2
theorem Kd.R_len {α : Type} {k : Kd α} {w : World} {S : Nat → Prop} : ∀ {xs : List α} {cs : List Value}, k.R w S xs cs → cs.length = xs.length * k.sz
  | [], cs, h => by rw [show cs = [] from h]; simp
  | x :: xs, cs, h => by
    obtain ⟨c1, c2, rfl, h1, h2⟩ := h
    rw [List.length_append, k.len h1, Kd.R_len h2, List.length_cons, Nat.add_mul]; omega
theorem Kd.R_frame {α : Type} {k : Kd α} {w w' : World} {S S' : Nat → Prop} (h : ∀ b, S b → S' b ∧ w'.heap[b]? = w.heap[b]?) : ∀ {xs : List α} {cs : List Value}, k.R w S xs cs → k.R w' S' xs cs
  | [], cs, hh => hh
  | x :: xs, cs, hh => by
    obtain ⟨c1, c2, e, h1, h2⟩ := hh
    exact ⟨c1, c2, e, k.frame h h1, Kd.R_frame h h2⟩
theorem Kd.R_get {α : Type} {k : Kd α} {w : World} {S : Nat → Prop} : ∀ {xs : List α} {cs : List Value} {i : Nat} {x : α}, k.R w S xs cs → xs[i]? = some x → k.K w S x ((cs.drop (i * k.sz)).take k.sz)
  | [], cs, i, x, h, hi => by simp at hi
  | y :: xs, cs, 0, x, h, hi => by
    simp at hi; subst hi
    obtain ⟨c1, c2, rfl, h1, h2⟩ := h
    rw [Nat.zero_mul, List.drop_zero, List.take_append_of_le_length (by rw [k.len h1]; omega), List.take_of_length_le (by rw [k.len h1]; omega)]
    exact h1
  | y :: xs, cs, i + 1, x, h, hi => by
    obtain ⟨c1, c2, rfl, h1, h2⟩ := h
    have : (c1 ++ c2).drop ((i + 1) * k.sz) = c2.drop (i * k.sz) := by
      rw [Nat.add_mul, Nat.one_mul, Nat.add_comm, ← List.drop_drop, List.drop_left' (k.len h1)]
    rw [this]
    exact Kd.R_get h2 (by simpa using hi)
theorem Kd.R_append {α : Type} {k : Kd α} {w : World} {S : Nat → Prop} : ∀ {xs ys : List α} {c1 c2 : List Value}, k.R w S xs c1 → k.R w S ys c2 → k.R w S (xs ++ ys) (c1 ++ c2)
  | [], ys, c1, c2, h1, h2 => by rw [show c1 = [] from h1]; exact h2
  | x :: xs, ys, c1, c2, h1, h2 => by
    obtain ⟨a, b, rfl, h3, h4⟩ := h1
    exact ⟨a, b ++ c2, by simp, h3, Kd.R_append h4 h2⟩
theorem Kd.R_one {α : Type} {k : Kd α} {w : World} {S : Nat → Prop} : ∀ {xs : List α} {cs : List Value}, k.R w S xs cs → ∀ v ∈ cs, v.oneCell' = true
  | [], cs, h, v, hv => by rw [show cs = [] from h] at hv; simp at hv
  | x :: xs, cs, h, v, hv => by
    obtain ⟨c1, c2, rfl, h1, h2⟩ := h
    rcases List.mem_append.1 hv with hv | hv
    · exact k.one h1 v hv
    · exact Kd.R_one h2 v hv
theorem Kd.C_row {α : Type} {k : Kd α} {w : World} {S : Nat → Prop} {xs : List α} {cs more : List Value} {g : Nat} {t : TypeId} {fr : Nat × Nat} (hg : w.heap[g]? = some (.cells (cs ++ more).toArray t fr)) (hS : S g) (h : k.R w S xs cs) : k.C w S (some ⟨g, 0, none⟩) xs := by
  intro i x hx
  have hk := Kd.R_get h hx
  refine ⟨⟨g, 0, none⟩, _, rfl, hS, hk, fun j v hv => ?_⟩
  rw [add_plain, Nat.zero_add, cell_of_row _ _ _ _ _ _ hg]
  rw [List.getElem?_take] at hv
  split at hv
  · rw [List.getElem?_drop] at hv
    have hlt := (List.getElem?_eq_some_iff.1 hv).1
    simp only [List.getElem?_toArray]
    rw [List.getElem?_append_left hlt]; exact hv
  · cases hv
theorem bsl_fill {α : Type} {k : Kd α} {p : Pt} {a : Act} (hs : St z p n T B a) : ∀ {parts : List (Nat × Operand)} {j : Nat} {ys : List α} {pre rest : List Value}, Bsl T k j parts ys → pre.length = j * k.sz → rest.length = parts.length * k.sz →
    ∃ cs, Instr.fill (fun i => some (i * k.sz, k.sz)) (pre ++ rest).toArray (parts.map fun (i, o) => (i, a.eval o)) = some (pre ++ cs).toArray ∧ k.R p.w p.S ys cs
  | [], j, ys, pre, rest, h, hp, hr => by
    cases h
    have : rest = [] := by simpa using hr
    subst this
    exact ⟨[], rfl, rfl⟩
  | _ :: parts, j, ys, pre, rest, h, hp, hr => by
    cases h with
    | @cons _ o y _ ys he hb =>
      have hv := Kd.V_cells (hs.ev he)
      have hlen := k.len hv
      rw [List.length_cons, Nat.add_mul, Nat.one_mul] at hr
      obtain ⟨cs, h1, h2⟩ := bsl_fill hs (pre := pre ++ (a.eval o).cells.toList) (rest := rest.drop k.sz) hb (by rw [List.length_append, hp, hlen, Nat.add_mul]; omega) (by rw [List.length_drop, hr]; omega)
      refine ⟨(a.eval o).cells.toList ++ cs, ?_, _, _, rfl, hv, h2⟩
      rw [List.map_cons, fill_cons (place := fun i => some (i * k.sz, k.sz)) (off := j * k.sz) (size := k.sz) rfl (by simpa using hlen) (by simp [hp, hr] <;> omega)]
      have e : ((pre ++ rest).toArray.toList.take (j * k.sz) ++ (a.eval o).cells.toList ++ (pre ++ rest).toArray.toList.drop (j * k.sz + k.sz)) = pre ++ (a.eval o).cells.toList ++ rest.drop k.sz := by
        show (pre ++ rest).take (j * k.sz) ++ _ ++ (pre ++ rest).drop (j * k.sz + k.sz) = _
        rw [List.take_left' hp, ← List.drop_drop, List.drop_left' hp]
      rw [e, h1]
      simp
theorem bsl_len {α : Type} {k : Kd α} : ∀ {parts : List (Nat × Operand)} {j : Nat} {ys : List α}, Bsl T k j parts ys → ys.length = parts.length
  | [], j, ys, h => by cases h; rfl
  | _ :: parts, j, ys, h => by cases h with | cons _ h => simp [bsl_len h]
theorem St.newS {p : Pt} {a : Act} (hs : St z p n T B a) (o : Obj) : ∃ q : Pt, q.w = p.w.alloc o ∧ p.le q ∧ q.S p.w.heap.size ∧ (∀ b, q.S b ↔ p.S b ∨ b = p.w.heap.size) ∧ Ext p.w q.w ∧ St z q n T B a := by
  have hle : p.le ⟨p.w.alloc o, fun b => p.S b ∨ b = p.w.heap.size, fun b hb => by rw [size_alloc]; rcases hb with hb | rfl; exact Nat.lt_succ_of_lt (p.lt b hb); omega⟩ := fun b hb => ⟨.inl hb, blk_old _ _ (p.lt b hb)⟩
  refine ⟨_, rfl, hle, .inr rfl, fun b => Iff.rfl, (Ext.refl _).alloc _, hs.go hle (hs.ex.alloc o) (fun b hb => ?_) (fun g b hg => ?_) hs.on hs.nd⟩
  · rcases hb with hb | rfl
    · exact hs.su b hb
    · exact .inr (.inl hs.ex.size)
  · obtain ⟨h1, h2, o', h3, h4⟩ := hs.ow g b hg
    refine ⟨fun hb => ?_, h2, o', (blk_old _ _ (blk_lt h3)).trans h3, b.up hle h4⟩
    rcases hb with hb | rfl
    · exact h1 hb
    · exact Nat.lt_irrefl _ (blk_lt h3)
def slzB (P : Program) (t : TypeId) (sz : Nat) : Bool :=
  match P.underlying t with
  | some (.slice e) => (match P.info? e with | some i => i.size == sz && i.zero.isSome | none => false) && sz != 0
  | _ => false
theorem e_bsl {α : Type} (k : Kd α) {d len : Nat} {t ty : TypeId} {pos af gd} {parts : List (Nat × Operand)} {ys : List α} (ht : slzB P t k.sz = true) (hl : (Nat.beq parts.length len && Nat.ble 1 len && Nat.ble (len * k.sz) 16777216) = true) (h : Bsl T k 0 parts ys) (hd : Nat.ble (d + 1) n = true) :
    EO P z n T B ⟨some d, .buildSlice t len parts.toArray, ty, pos, af, gd⟩ (fun q a => St z q n ((d, rd (kSl k) ys) :: T) B a) := fun p a hs K hK => by
  simp only [Bool.and_eq_true] at hl
  obtain ⟨⟨hl1, hl2⟩, hl3⟩ := hl
  have hl1 := Nat.eq_of_beq_eq_true hl1
  subst hl1
  unfold slzB at ht
  split at ht
  · rename_i e hu
    simp only [Bool.and_eq_true] at ht
    obtain ⟨ht, hz⟩ := ht
    split at ht
    · rename_i ie hie
      simp only [Bool.and_eq_true, beq_iff_eq] at ht
      obtain ⟨hsz, hzz⟩ := ht
      obtain ⟨zv, hzv⟩ := Option.isSome_iff_exists.1 hzz
      have hpos : 0 < parts.length * k.sz := Nat.mul_pos (Nat.le_of_ble_eq_true hl2) (Nat.pos_of_ne_zero (by simpa using hz))
      obtain ⟨cs, h1, h2⟩ := bsl_fill hs (pre := []) (rest := ((Array.range (parts.length * ie.size)).map (zv.cells[· % zv.cells.size]!)).toList) h (by simp) (by simp [hsz])
      have hrun := run_buildSlice (P := P) p.w t e parts.length (parts.map fun (i, o) => (i, a.eval o)).toArray cs.toArray ie zv hu hie hzv (by have := Nat.le_of_ble_eq_true hl3; rw [hsz]; omega) (by rw [hsz]; omega) (by rw [List.nil_append, Array.toArray_toList] at h1; rw [hsz] at h1 ⊢; simpa using h1)
      obtain ⟨q, eq, hle, hS, _, hext, hq⟩ := hs.newS (.cells cs.toArray e)
      have hyl := bsl_len h
      have := hK q (a.put (some d) (.slice (some ⟨p.w.heap.size, 0, none⟩) parts.length parts.length)) (hq.put (Nat.le_of_ble_eq_true hd) (t := rd (kSl k) ys) ⟨some ⟨p.w.heap.size, 0, none⟩, parts.length, by rw [hyl], Nat.le_of_eq hyl, ?_, (fun h => by cases h), ?_⟩) hext
      · rw [eq] at this
        simp only [Oper.wp, execOp, List.map_toArray]
        rw [Sem.run_bind, hrun]
        exact this
      · have := Nat.le_of_ble_eq_true hl3
        have : parts.length ≤ parts.length * k.sz := Nat.le_mul_of_pos_right _ (Nat.pos_of_ne_zero (by simpa using hz))
        omega
      · refine Kd.C_row (cs := cs) (more := []) (t := e) (fr := (0, 0)) ?_ hS (Kd.R_frame hle h2)
        rw [eq, List.append_nil]; exact blk_new _ _
    · cases ht
  · cases ht
variable {ops l : List Oper} {Φ : Option ρ} {Q : Kont ρ} {ty t : TypeId} {pos : String} {af : Array Edge} {gd : Option (Nat × Bool)} {d : Nat}
theorem l_bsl {α : Type} (k : Kd α) {len : Nat} {parts : List (Nat × Operand)} {ys : List α} (ht : slzB P t k.sz = true) (hl : (Nat.beq parts.length len && Nat.ble 1 len && Nat.ble (len * k.sz) 16777216) = true) (h : Bsl T k 0 parts ys) (hd : Nat.ble (d + 1) n = true)
    (hk : JL P z n ops ((d, rd (kSl k) ys) :: T) B l Φ Q) : JL P z n ops T B (⟨some d, .buildSlice t len parts.toArray, ty, pos, af, none⟩ :: l) Φ Q :=
  l_so trivial (e_bsl k ht hl h hd).so fun r hr q a hs => hk r hr q a hs
theorem w_bsl {α : Type} (k : Kd α) {fo sk : List Nat} {ord : List Nat} {i : Nat} {len : Nat} {parts : List (Nat × Operand)} {ys : List α} (ho : ops[i]? = some ⟨some d, .buildSlice t len parts.toArray, ty, pos, af, none⟩) (hf : inL fo i = true) (ht : slzB P t k.sz = true) (hl : (Nat.beq parts.length len && Nat.ble 1 len && Nat.ble (len * k.sz) 16777216) = true) (h : Bsl T k 0 parts ys) (hd : Nat.ble (d + 1) n = true)
    (hk : JW P z n ops fo sk ((d, rd (kSl k) ys) :: T) B ord Φ Q) : JW P z n ops fo sk T B (i :: ord) Φ Q :=
  w_eo ho hf trivial (e_bsl k ht hl h hd) fun r hr q a hs => hk r hr q a hs
end
end Go.Proofs.YtmnmcobpfpkibaaGreatDoor
namespace Go.Proofs.YtmnmcobpfpkibaaGreatDoor
open Go.RowKit
set_option linter.unusedVariables false
def row {α : Type} (k : Kd α) (xs : List α) (o : Option Nat) (c : Nat) : TV := ⟨fun _ v => v = .slice (o.map fun g => ⟨g, 0, none⟩) xs.length c, fun _ h => h⟩
def rows {α : Type} (k : Kd α) (e : TypeId) (xs : List α) (c : Nat) : BX :=
  ⟨fun p o => ∃ cs more, o = .cells (cs ++ more).toArray e (0, 0) ∧ k.R p.w p.S xs cs ∧ xs.length ≤ c ∧ c ≤ maxLen ∧ (cs ++ more).length = c * k.sz, xs = [] ∧ c = 0,
   fun hl h => by obtain ⟨cs, more, e, h1, h2⟩ := h; exact ⟨cs, more, e, Kd.R_frame hl h1, h2⟩⟩
def app {α : Type} (xs ys : List α) : Option (List α) := if xs.length + ys.length ≤ 4294967296 then some (xs ++ ys) else none
def apB (P : Program) (t e : TypeId) (sz : Nat) : Bool :=
  (match P.underlying t with | some (.slice e') => Nat.beq e' e | _ => false) && (match P.info? e with | some i => Nat.beq i.size sz && Nat.ble i.bytes 32768 && (match i.zero with | some z => Nat.beq z.cells.size sz | none => false) | none => false) && Nat.ble 1 sz
theorem zc_len (z : Array Value) (m : Nat) : (Builtin.zeroCells z m).toList.length = m * z.size := by simp [Builtin.zeroCells]
theorem apB_spec {P : Program} {t e : TypeId} {sz : Nat} (h : apB P t e sz = true) : P.underlying t = some (.slice e) ∧ 0 < sz ∧ ∃ i z, P.info? e = some i ∧ i.size = sz ∧ i.bytes ≤ 32768 ∧ i.zero = some z ∧ z.cells.size = sz := by
  unfold apB at h
  simp only [Bool.and_eq_true] at h
  obtain ⟨⟨h1, h2⟩, h3⟩ := h
  split at h1
  · rename_i e' hu
    have := Nat.eq_of_beq_eq_true h1
    subst this
    split at h2
    · rename_i i hi
      simp only [Bool.and_eq_true] at h2
      obtain ⟨⟨h4, h5⟩, h6⟩ := h2
      split at h6
      · rename_i z hz
        exact ⟨hu, Nat.le_of_ble_eq_true h3, i, z, hi, Nat.eq_of_beq_eq_true h4, Nat.le_of_ble_eq_true h5, hz, Nat.eq_of_beq_eq_true h6⟩
      · cases h6
    · cases h2
  · cases h1
theorem C_flat {α : Type} {k : Kd α} {w : World} {S : Nat → Prop} {a : Addr} : ∀ {xs : List α} {m : Nat}, (∀ i x, xs[i]? = some x → ∃ cs, k.K w S x cs ∧ ∀ j v, cs[j]? = some v → w.cell? (a.add ((m + i) * k.sz + j)) = some v) →
    ∃ cs, k.R w S xs cs ∧ ∀ j u, cs[j]? = some u → w.cell? (a.add (m * k.sz + j)) = some u
  | [], m, h => ⟨[], rfl, fun j u hj => by simp at hj⟩
  | x :: xs, m, h => by
    obtain ⟨c1, h1, h2⟩ := h 0 x rfl
    obtain ⟨c2, h3, h4⟩ := C_flat (xs := xs) (m := m + 1) (fun i y hy => by
      obtain ⟨cs, h5, h6⟩ := h (i + 1) y (by simpa using hy)
      exact ⟨cs, h5, fun j v hv => by have := h6 j v hv; rwa [show m + (i + 1) = m + 1 + i by omega] at this⟩)
    refine ⟨c1 ++ c2, ⟨c1, c2, rfl, h1, h3⟩, fun j u hj => ?_⟩
    rw [List.getElem?_append] at hj
    split at hj
    · have := h2 j u hj
      rwa [Nat.add_zero] at this
    · have := h4 _ u hj
      rename_i hlt
      rw [k.len h1] at this hlt
      rwa [show (m + 1) * k.sz + (j - k.sz) = m * k.sz + j by rw [Nat.add_mul]; omega] at this
theorem sl_cells {α : Type} {k : Kd α} {p : Pt} {ys : List α} {A : Option Addr} (h : k.C p.w p.S A ys) : (ys = []) ∨ ∃ a cs, A = some a ∧ k.R p.w p.S ys cs ∧ ∀ j u, cs[j]? = some u → p.w.cell? (a.add j) = some u := by
  cases ys with
  | nil => exact .inl rfl
  | cons y ys =>
    refine .inr ?_
    obtain ⟨a, _, rfl, _⟩ := h 0 y rfl
    obtain ⟨cs, h1, h2⟩ := C_flat (k := k) (w := p.w) (S := p.S) (a := a) (xs := y :: ys) (m := 0) (fun i x hx => by
      obtain ⟨ad, cs, e, _, hk, hc⟩ := h i x hx
      injection e with e
      subst e
      exact ⟨cs, hk, fun j v hv => by simpa using hc j v hv⟩)
    exact ⟨a, cs, rfl, h1, fun j u hj => by simpa using h2 j u hj⟩
section
variable {P : Program} {ρ : Type} {z : Zt} {n : Nat} {T : Slots} {B : Boxes} {ops l : List Oper} {Φ : Option ρ} {Q : Kont ρ} {ty t : TypeId} {pos : String} {af : Array Edge} {gd : Option (Nat × Bool)} {d : Nat}
theorem l_rnil {α : Type} (k : Kd α) (e : TypeId) {x : Operand} (hx : x = .const (.slice none 0 0)) (hd : Nat.ble (d + 1) n = true) (hk : JL P z n ops ((d, row k [] none 0) :: T) ((none, rows k e [] 0) :: B) l Φ Q) : JL P z n ops T B (⟨some d, .assign x, ty, pos, af, none⟩ :: l) Φ Q := by
  subst hx
  refine l_p (t := row k [] none 0) (fun p a hs => ⟨.slice none 0 0, rfl, fun o w' ho _ => by simp [execOp, ho, Act.eval]⟩) hd ?_
  intro r hr p a hs
  refine hk r hr p a ⟨hs.sz, hs.df, hs.tm, fun g b hg => hs.ow g b (by simpa using hg), fun b hb => ?_, by simpa using hs.nd, hs.ex, hs.su, hs.le⟩
  rcases List.mem_cons.1 hb with e | hb
  · injection e with e1 e2; subst e2; exact ⟨rfl, rfl⟩
  · exact hs.on b hb
theorem St.newAt {p : Pt} {a : Act} (hs : St z p n T B a) {i : Nat} {o : Option Nat} {bx bx' : BX} (hi : B[i]? = some (o, bx)) (ob : Obj) (hb : ∀ q : Pt, p.le q → bx'.h q ob) :
    ∃ q : Pt, q.w = p.w.drew.alloc ob ∧ p.le q ∧ Ext p.w q.w ∧ St z q n T (B.set i (some p.w.heap.size, bx')) a := by
  have hle0 : p.le ⟨p.w.drew, p.S, p.lt⟩ := fun b hb => ⟨hb, rfl⟩
  have hs0 : St z ⟨p.w.drew, p.S, p.lt⟩ n T B a := hs.go hle0 hs.ex.drew hs.su (fun g b hg => by obtain ⟨h1, h2, o, h3, h4⟩ := hs.ow g b hg; exact ⟨h1, h2, o, h3, b.up hle0 h4⟩) hs.on hs.nd
  obtain ⟨q, e, hle, he, hq⟩ := hs0.new ob (bx := bx') (fun q h => hb q (hle0.trans h))
  have hlt := (List.getElem?_eq_some_iff.1 hi)
  refine ⟨q, e, hle0.trans hle, ((Ext.refl p.w).drew).trans he, ⟨hq.sz, hq.df, hq.tm, fun g b hg => ?_, fun b hg => ?_, ?_, hq.ex, hq.su, hq.le⟩⟩
  · obtain ⟨j, hj⟩ := List.mem_iff_getElem?.1 hg
    by_cases hij : i = j
    · subst hij
      rw [List.getElem?_set_self hlt.1] at hj
      injection hj with hj
      rw [← hj] at hg
      exact hq.ow g b (by rw [← hj]; exact List.mem_cons_self)
    · rw [List.getElem?_set_ne hij] at hj
      exact hq.ow g b (List.mem_cons_of_mem _ (List.mem_of_getElem? hj))
  · obtain ⟨j, hj⟩ := List.mem_iff_getElem?.1 hg
    by_cases hij : i = j
    · subst hij
      rw [List.getElem?_set_self hlt.1] at hj
      injection hj with hj
      injection hj with e1 e2
      cases e1
    · rw [List.getElem?_set_ne hij] at hj
      exact hq.on b (List.mem_cons_of_mem _ (List.mem_of_getElem? hj))
  · have hn := hq.nd
    simp only [List.filterMap_cons, List.nodup_cons] at hn
    have key : ∀ {i : Nat} {B : Boxes} {o : Option Nat} {bx : BX}, B[i]? = some (o, bx) → (p.w.heap.size ∉ B.filterMap (·.1)) → (B.filterMap (·.1)).Nodup → ((B.set i (some p.w.heap.size, bx')).filterMap (·.1)).Nodup ∧ ∀ g, g ∈ (B.set i (some p.w.heap.size, bx')).filterMap (·.1) → g = p.w.heap.size ∨ g ∈ B.filterMap (·.1) := by
      intro i
      induction i with
      | zero =>
        intro B o bx h h1 h2
        cases B with
        | nil => simp at h
        | cons x B =>
          have h3 : p.w.heap.size ∉ B.filterMap (·.1) := fun hm => h1 (by simp only [List.filterMap_cons]; split <;> simp [hm])
          have h4 : (B.filterMap (·.1)).Nodup := by simp only [List.filterMap_cons] at h2; split at h2; exact h2; exact (List.nodup_cons.1 h2).2
          refine ⟨by simp only [List.set_cons_zero, List.filterMap_cons, List.nodup_cons]; exact ⟨h3, h4⟩, fun g hg => ?_⟩
          simp only [List.set_cons_zero, List.filterMap_cons, List.mem_cons] at hg
          rcases hg with rfl | hg
          · exact .inl rfl
          · exact .inr (by simp only [List.filterMap_cons]; split <;> simp [hg])
      | succ i ih =>
        intro B o bx h h1 h2
        cases B with
        | nil => simp at h
        | cons x B =>
          have h3 : p.w.heap.size ∉ B.filterMap (·.1) := fun hm => h1 (by simp only [List.filterMap_cons]; split <;> simp [hm])
          have h4 : (B.filterMap (·.1)).Nodup := by simp only [List.filterMap_cons] at h2; split at h2; exact h2; exact (List.nodup_cons.1 h2).2
          obtain ⟨h5, h6⟩ := ih (by simpa using h) h3 h4
          simp only [List.set_cons_succ, List.filterMap_cons]
          cases hx : x.1 with
          | none => exact ⟨h5, fun g hg => by simpa using h6 g hg⟩
          | some y =>
            simp only [List.filterMap_cons, hx, List.nodup_cons] at h2
            have hy : y ≠ p.w.heap.size := by rintro rfl; exact h1 (by simp [hx])
            refine ⟨List.nodup_cons.2 ⟨fun hm => ?_, h5⟩, fun g hg => ?_⟩
            · rcases h6 y hm with e | hm
              · exact hy e
              · exact h2.1 hm
            · rcases List.mem_cons.1 hg with rfl | hg
              · exact .inr (by simp)
              · rcases h6 g hg with e | hm
                · exact .inl e
                · exact .inr (by simp [hm])
    exact (key hi hn.1 hs.nd).1
theorem s_app {α : Type} {k : Kd α} {e : TypeId} {xs ys r : List α} {o : Option Nat} {c : Nat} {x y : Operand} (i : Nat) (h : Ev T x (row k xs o c)) (hi : B[i]? = some (o, rows k e xs c)) (hy : Ev T y (rd (kSl k) ys)) (hr : app xs ys = some r) (ht : apB P t e k.sz = true) (hd : Nat.ble (d + 1) n = true) :
    SO P z n T B ⟨some d, .call ⟨.builtin .append, #[x, y], #[t, t]⟩, ty, pos, af, gd⟩ (fun q a => ∃ o' c', St z q n ((d, row k r o' c') :: T) (B.set i (o', rows k e r c')) a) := fun p a hs K hK => by
  obtain ⟨hu, hsz, ti, zv, hti, hts, htb, htz, hzs⟩ := apB_spec ht
  have hv : a.eval x = .slice (o.map fun g => ⟨g, 0, none⟩) xs.length c := hs.ev h
  obtain ⟨A, c2, hv2, hl1, hl2, hl3, hC⟩ := ev_sl (hs.ev hy)
  unfold app at hr
  split at hr
  · rename_i hsm
    injection hr with hr
    subst hr
    have hd' := Nat.le_of_ble_eq_true hd
    have hbytes : (xs.length + ys.length) * ti.bytes ≤ 140737488355328 := Nat.le_trans (Nat.mul_le_mul hsm htb) (by decide)
    have hlen : (xs ++ ys).length = xs.length + ys.length := List.length_append
    have hex : ∀ v w', (Builtin.append_ #[t, t] ty #[a.eval x, a.eval y]).run P p.w = .ok v w' → K (a.put (some d) v) w' → Oper.wp P ⟨some d, .call ⟨.builtin .append, #[x, y], #[t, t]⟩, ty, pos, af, gd⟩ a p.w K NoQ := fun v w' h1 h2 => by
      have e1 : (execOp a.eval ⟨some d, .call ⟨.builtin .append, #[x, y], #[t, t]⟩, ty, pos, af, gd⟩).run P p.w = .ok (.value v) w' := by simp [execOp, resolve, invoke, builtin, h1]
      unfold Oper.wp
      rw [e1]
      exact h2
    rw [hv, hv2] at hex
    rcases sl_cells hC with rfl | ⟨ad, news, rfl, hR, hcells⟩
    · -- nothing is appended
      have key : (Builtin.append_ #[t, t] ty #[.slice (o.map fun g => ⟨g, 0, none⟩) xs.length c, .slice A ([] : List α).length c2]).run P p.w = .ok (.slice (o.map fun g => ⟨g, 0, none⟩) xs.length c) p.w := by
        have hle : xs.length ≤ c := by
          cases o with
          | none => have := hs.on _ (List.mem_of_getElem? hi); have h1 : xs = [] ∧ c = 0 := this; simp [h1.1]
          | some g => obtain ⟨_, _, ob, _, cs, more, _, _, h5, _⟩ := hs.ow g _ (List.mem_of_getElem? hi); exact h5
        cases A <;> cases o <;> simp [Builtin.append_, run_underlying hu, sizeOf, typeInfo, hti, Builtin.lenOf, Builtin.firstCells, loadCells, loadCellsFrom, storeCells, hle]
      refine hex _ _ key ?_
      have := hK p (a.put (some d) (.slice (o.map fun g => ⟨g, 0, none⟩) xs.length c)) ⟨o, c, ?_⟩
      · exact this
      · have e : B.set i (o, rows k e (xs ++ []) c) = B := by
          rw [List.append_nil]
          apply List.ext_getElem?
          intro j
          by_cases hij : i = j
          · subst hij; rw [List.getElem?_set_self (List.getElem?_eq_some_iff.1 hi).1, hi]
          · rw [List.getElem?_set_ne hij]
        rw [e]
        exact hs.put hd' (by show _ = _; rw [List.append_nil])
    · have hnl : news.length = ys.length * ti.size := by rw [Kd.R_len hR, hts]
      have hmax : xs.length + ys.length ≤ maxLen := by unfold maxLen; omega
      cases o with
      | none =>
        have h0 : xs = [] ∧ c = 0 := hs.on _ (List.mem_of_getElem? hi)
        obtain ⟨rfl, rfl⟩ := h0
        by_cases hy0 : ys.length = 0
        · have hy0 := List.length_eq_zero_iff.1 hy0
          subst hy0
          have hn0 : news = [] := List.length_eq_zero_iff.1 (by simpa using hnl)
          subst hn0
          have key : (Builtin.append_ #[t, t] ty #[.slice (Option.map (fun g => (⟨g, 0, none⟩ : Addr)) none) ([] : List α).length 0, .slice (some ad) ([] : List α).length c2]).run P p.w = .ok (.slice none 0 0) p.w := by
            simp [Builtin.append_, run_underlying hu, sizeOf, typeInfo, hti, Builtin.lenOf, Builtin.firstCells, loadCells, loadCellsFrom]
          refine hex _ _ key (hK p _ ⟨none, 0, ?_⟩)
          have e : B.set i (none, rows k e ([] ++ []) 0) = B := by
            apply List.ext_getElem?
            intro j
            by_cases hij : i = j
            · subst hij; rw [List.getElem?_set_self (List.getElem?_eq_some_iff.1 hi).1, hi]; rfl
            · rw [List.getElem?_set_ne hij]
          rw [e]
          exact hs.put hd' rfl
        · have hrun := run_append_nil (P := P) p.w t ty e ti zv hu hti htz ad ys.length c2 news hnl hcells (by omega) (by omega) (by simp only [List.length_nil, Nat.zero_add] at hbytes; omega)
          have hge := grownCap_ge p.w ys.length 0 e
          have hcm := grownCap_le_maxLen p.w ys.length 0 e (by simpa using hmax)
          obtain ⟨q, eq, hle, _, hq⟩ := hs.newAt hi (.cells (news.toArray ++ Builtin.zeroCells zv.cells (grownCap p.w ys.length 0 e - ys.length)) e) (bx' := rows k e ([] ++ ys) (grownCap p.w ys.length 0 e)) (fun q hle => ⟨news, (Builtin.zeroCells zv.cells (grownCap p.w ys.length 0 e - ys.length)).toList, by simp, Kd.R_frame hle hR, by simpa using hge, hcm, by
            rw [List.length_append, hnl, hts, zc_len, hzs, ← Nat.add_mul]; congr 1; omega⟩)
          refine hex _ _ hrun ?_
          rw [← eq]
          exact hK q _ ⟨_, _, hq.put hd' rfl⟩
      | some g =>
        obtain ⟨hS, hzg, ob, hg, cs, more, rfl, hRx, hxc, hcm, hcl⟩ := hs.ow g _ (List.mem_of_getElem? hi)
        have hcsl := Kd.R_len hRx
        by_cases hroom : xs.length + ys.length ≤ c
        · have hfit : xs.length * ti.size + news.length ≤ (cs ++ more).toArray.size := by
            rw [hnl, hts, ← Nat.add_mul, List.size_toArray, hcl]; exact Nat.mul_le_mul_right _ hroom
          have hrun := run_append_room (P := P) p.w t ty e ti hu hti g xs.length c (cs ++ more).toArray hg ad ys.length c2 news hnl hcells (Kd.R_one hR) hroom hfit
          have ecs : ((cs ++ more).toArray.toList.take (xs.length * ti.size) ++ news ++ (cs ++ more).toArray.toList.drop (xs.length * ti.size + news.length)) = (cs ++ news) ++ (cs ++ more).drop (xs.length * ti.size + news.length) := by
            show List.take _ (cs ++ more) ++ news ++ _ = _
            rw [hts, List.take_left' hcsl]
          rw [ecs] at hrun
          obtain ⟨q, eq, hle, hq⟩ := hs.setBox hi hg (cs' := ((cs ++ news) ++ (cs ++ more).drop (xs.length * ti.size + news.length)).toArray) (bx' := rows k e (xs ++ ys) c) (fun q hle => ⟨cs ++ news, (cs ++ more).drop (xs.length * ti.size + news.length), rfl, Kd.R_append (Kd.R_frame hle hRx) (Kd.R_frame hle hR), by rw [hlen]; exact hroom, hcm, by
            rw [List.length_append, List.length_append, List.length_drop, hcl, hcsl, hts, hnl, hts]
            have : xs.length * k.sz + ys.length * k.sz ≤ c * k.sz := by rw [← Nat.add_mul]; exact Nat.mul_le_mul_right _ hroom
            omega⟩)
          refine hex _ _ hrun ?_
          rw [← eq]
          exact hK q _ ⟨some g, c, hq.put hd' (by show _ = _; rw [hlen]; rfl)⟩
        · have hcx : ∀ j v, cs[j]? = some v → p.w.cell? ((⟨g, 0, none⟩ : Addr).add j) = some v := fun j v hj => by
            rw [add_plain, Nat.zero_add, cell_of_row _ _ _ _ _ _ hg, List.getElem?_toArray, List.getElem?_append_left (List.getElem?_eq_some_iff.1 hj).1]; exact hj
          have hrun := run_append_grow (P := P) p.w t ty e ti zv hu hti htz ⟨g, 0, none⟩ xs.length c cs (by rw [hcsl, hts]) hcx ad ys.length c2 news hnl hcells (by omega) (by omega) (growslice_fits (by omega) hbytes)
          have hge := grownCap_ge p.w (xs.length + ys.length) c e
          have hcm2 := grownCap_le_maxLen p.w (xs.length + ys.length) c e hmax
          obtain ⟨q, eq, hle, _, hq⟩ := hs.newAt hi (.cells (cs.toArray ++ news.toArray ++ Builtin.zeroCells zv.cells (grownCap p.w (xs.length + ys.length) c e - (xs.length + ys.length))) e) (bx' := rows k e (xs ++ ys) (grownCap p.w (xs.length + ys.length) c e)) (fun q hle => ⟨cs ++ news, (Builtin.zeroCells zv.cells (grownCap p.w (xs.length + ys.length) c e - (xs.length + ys.length))).toList, by simp, Kd.R_append (Kd.R_frame hle hRx) (Kd.R_frame hle hR), by rw [hlen]; exact hge, hcm2, by
            rw [List.length_append, List.length_append, hcsl, hnl, hts, zc_len, hzs, ← Nat.add_mul, ← Nat.add_mul]; congr 1; omega⟩)
          refine hex _ _ hrun ?_
          rw [← eq]
          exact hK q _ ⟨_, _, hq.put hd' (by show _ = _; rw [hlen]; rfl)⟩
  · cases hr
theorem l_app {α : Type} {k : Kd α} {e : TypeId} {xs ys : List α} {o : Option Nat} {c : Nat} {x y : Operand} {K : List α → Option ρ} (i : Nat) (h : Ev T x (row k xs o c)) (hi : B[i]? = some (o, rows k e xs c)) (hy : Ev T y (rd (kSl k) ys)) (ht : apB P t e k.sz = true) (hd : Nat.ble (d + 1) n = true)
    (hk : ∀ r o' c', JL P z n ops ((d, row k r o' c') :: T) (B.set i (o', rows k e r c')) l (K r) Q) : JL P z n ops T B (⟨some d, .call ⟨.builtin .append, #[x, y], #[t, t]⟩, ty, pos, af, none⟩ :: l) ((app xs ys).bind K) Q :=
  l_bind fun r hr => l_so trivial (s_app i h hi hy hr ht hd) fun r' hr' q a ⟨o', c', hs⟩ => hk r o' c' r' hr' q a hs
theorem w_app {α : Type} {k : Kd α} {e : TypeId} {xs ys : List α} {o : Option Nat} {c : Nat} {x y : Operand} {K : List α → Option ρ} {fo sk ord : List Nat} {j : Nat} (i : Nat) (ho : ops[j]? = some ⟨some d, .call ⟨.builtin .append, #[x, y], #[t, t]⟩, ty, pos, af, none⟩) (hf : inL fo j = true) (hsk : inL sk j = true) (h : Ev T x (row k xs o c)) (hi : B[i]? = some (o, rows k e xs c)) (hy : Ev T y (rd (kSl k) ys)) (ht : apB P t e k.sz = true) (hd : Nat.ble (d + 1) n = true)
    (hk : ∀ r o' c', JW P z n ops fo sk ((d, row k r o' c') :: T) (B.set i (o', rows k e r c')) ord (K r) Q) : JW P z n ops fo sk T B (j :: ord) ((app xs ys).bind K) Q :=
  w_bind fun r hr => w_so ho hf hsk trivial (s_app i h hi hy hr ht hd) fun r' hr' q a ⟨o', c', hs⟩ => hk r o' c' r' hr' q a hs
theorem St.frz {α : Type} {k : Kd α} {e : TypeId} {xs : List α} {o : Option Nat} {c : Nat} {p : Pt} {a : Act} {s i : Nat} (hs : St z p n T B a) (h : look T s = some (row k xs o c)) (hi : B[i]? = some (o, rows k e xs c)) : ∃ q : Pt, q.w = p.w ∧ St z q n ((s, rd (kSl k) xs) :: T) (B.eraseIdx i) a := by
  obtain ⟨v, h1, h2⟩ := hs.tm _ _ h
  have h2 : v = .slice (o.map fun g => ⟨g, 0, none⟩) xs.length c := h2
  subst h2
  have hsub : (B.eraseIdx i).Sublist B := List.eraseIdx_sublist _ _
  cases o with
  | none =>
    have h0 : xs = [] ∧ c = 0 := hs.on _ (List.mem_of_getElem? hi)
    obtain ⟨rfl, rfl⟩ := h0
    refine ⟨p, rfl, hs.sz, hs.df, fun j t hj => ?_, fun g b hg => hs.ow g b (hsub.subset hg), fun b hb => hs.on b (hsub.subset hb), (hsub.filterMap _).nodup hs.nd, hs.ex, hs.su, hs.le⟩
    rcases look_put hj with ⟨rfl, rfl⟩ | ⟨_, hj⟩
    · exact ⟨_, h1, none, 0, rfl, Nat.le_refl _, by decide, fun _ => rfl, fun i x hx => by simp at hx⟩
    · exact hs.tm _ _ hj
  | some g =>
    obtain ⟨hS, hzg, ob, hg, cs, more, rfl, hRx, hxc, hcm, hcl⟩ := hs.ow g _ (List.mem_of_getElem? hi)
    have hle : p.le ⟨p.w, fun b => p.S b ∨ b = g, fun b hb => by rcases hb with hb | rfl; exact p.lt b hb; exact blk_lt hg⟩ := fun b hb => ⟨.inl hb, rfl⟩
    have hne : ∀ g' b, (some g', b) ∈ B.eraseIdx i → g' ≠ g := by
      rintro g' b hm rfl
      obtain ⟨j, hj⟩ := List.mem_iff_getElem?.1 hm
      rw [List.getElem?_eraseIdx] at hj
      split at hj
      · rename_i hlt; have := nodup_at hs.nd hi hj; omega
      · rename_i hlt; have := nodup_at hs.nd hi hj; omega
    have hs2 := hs.go (B' := B.eraseIdx i) hle hs.ex (fun b hb => by rcases hb with hb | rfl; exact hs.su b hb; exact .inr hzg) (fun g' b hm => by
      obtain ⟨h3, h4, o, h5, h6⟩ := hs.ow g' b (hsub.subset hm)
      exact ⟨fun hb => by rcases hb with hb | rfl; exact h3 hb; exact hne _ _ hm rfl, h4, o, h5, b.up hle h6⟩) (fun b hb => hs.on b (hsub.subset hb)) ((hsub.filterMap _).nodup hs.nd)
    refine ⟨⟨p.w, fun b => p.S b ∨ b = g, fun b hb => by rcases hb with hb | rfl; exact p.lt b hb; exact blk_lt hg⟩, rfl, hs2.sz, hs2.df, fun j t hj => ?_, hs2.ow, hs2.on, hs2.nd, hs2.ex, hs2.su, hs2.le⟩
    rcases look_put hj with ⟨rfl, rfl⟩ | ⟨_, hj⟩
    · refine ⟨_, h1, some ⟨g, 0, none⟩, c, rfl, hxc, by unfold maxLen at hcm; omega, fun h => (by cases h), Kd.C_row (cs := cs) (more := more) (t := e) (fr := (0, 0)) hg (.inr rfl) (Kd.R_frame hle hRx)⟩
    · exact hs2.tm _ _ hj
theorem l_frz {α : Type} {k : Kd α} {e : TypeId} {xs : List α} {o : Option Nat} {c : Nat} (s i : Nat) (h : look T s = some (row k xs o c)) (hi : B[i]? = some (o, rows k e xs c)) (hk : JL P z n ops ((s, rd (kSl k) xs) :: T) (B.eraseIdx i) l Φ Q) : JL P z n ops T B l Φ Q := fun r hr p a hs => by
  obtain ⟨q, e, hq⟩ := hs.frz h hi; rw [← e]; exact hk r hr q a hq
theorem x_frz {α : Type} {k : Kd α} {e : TypeId} {xs : List α} {o : Option Nat} {c : Nat} {x : Exit} (s i : Nat) (h : look T s = some (row k xs o c)) (hi : B[i]? = some (o, rows k e xs c)) (hk : JX z n ((s, rd (kSl k) xs) :: T) (B.eraseIdx i) x Φ Q) : JX z n T B x Φ Q := fun r hr p a hs => by
  obtain ⟨q, e, hq⟩ := hs.frz h hi; rw [← e]; exact hk r hr q a hq
end
end Go.Proofs.YtmnmcobpfpkibaaGreatDoor
namespace Go.Proofs.YtmnmcobpfpkibaaGreatDoor
open Go.RowKit
set_option linter.unusedVariables false
inductive EvO (T : Slots) : Option Operand → Int → Int → Prop
  | no {d : Int} : EvO T none d d
  | so {x : Operand} {k : IntKind} {b : Nat} {lo hi v d : Int} : Ev T x (rd (kNum k b lo hi) v) → EvO T (some x) d v
def sSub (s : ByteArray) (lo hi : Int) : Option ByteArray := if 0 ≤ lo ∧ lo ≤ hi ∧ hi ≤ s.size then some (s.extract lo.toNat hi.toNat) else none
def lSub {α : Type} (l : List α) (lo hi : Int) : Option (List α) := if 0 ≤ lo ∧ lo ≤ hi ∧ hi ≤ l.length then some ((l.drop lo.toNat).take (hi - lo).toNat) else none
section
variable {P : Program} {ρ : Type} {z : Zt} {n : Nat} {T : Slots} {B : Boxes} {t : TypeId}
theorem EvO.run {p : Pt} {a : Act} (hs : St z p n T B a) {o : Option Operand} {d v : Int} (h : EvO T o d v) : (o = none ∧ v = d) ∨ ∃ x k, o = some x ∧ a.eval x = .int k v := by
  cases h with
  | no => exact .inl ⟨rfl, rfl⟩
  | so h => exact .inr ⟨_, _, rfl, ev_num (hs.ev h)⟩
theorem run_bounds {p : Pt} {a : Act} (hs : St z p n T B a) {lo hi : Option Operand} {vl vh : Int} {is : Bool} {len cap : Nat} (hl : EvO T lo 0 vl) (hh : EvO T hi len vh) (h0 : 0 ≤ vl) (h1 : vl ≤ vh) (h2 : vh ≤ len) (hlc : len ≤ cap) (w : World) :
    (Instr.sliceBounds is len cap (lo.map a.eval) (hi.map a.eval) none).run P w = .ok (vl.toNat, vh.toNat, cap) w := by
  have hb : ∀ (k : IntKind) (v : Int) (y : Nat) (c : BoundsCode), 0 ≤ v → v ≤ y → (Instr.sliceBound (.int k v) y c).run P w = .ok v.toNat w := fun k v y c h3 h4 => by
    simp [Instr.sliceBound, asIntOf, h3, h4]
  rcases hl.run hs with ⟨rfl, rfl⟩ | ⟨x, k, rfl, ex⟩ <;> rcases hh.run hs with ⟨rfl, rfl⟩ | ⟨y, k2, rfl, ey⟩
  · simp [Instr.sliceBounds]
  · simp [Instr.sliceBounds, ey, hb k2 vh cap _ (by omega) (by omega)]
  · simp [Instr.sliceBounds, ex, hb k vl len _ (by omega) (by omega)]
  · simp [Instr.sliceBounds, ex, ey, hb k2 vh cap _ (by omega) (by omega), hb k vl vh.toNat _ (by omega) (by omega)]
theorem po_ssub {x : Operand} {s r : ByteArray} {lo hi : Option Operand} {vl vh : Int} (hx : Ev T x (rd kStr s)) (hl : EvO T lo 0 vl) (hh : EvO T hi s.size vh) (h : sSub s vl vh = some r) (hu : P.underlying t = some .string) : PO P z n T B (.slice t x lo hi none) (rd kStr r) := fun p a hs => by
  have h1 := ev_str (hs.ev hx)
  unfold sSub at h
  split at h
  · rename_i hc
    injection h with h
    subst h
    refine ⟨.string _, rfl, fun o w' ho _ => ?_⟩
    have := run_bounds (P := P) hs (is := false) hl hh hc.1 hc.2.1 hc.2.2 (Nat.le_refl _) w'
    simp [execOp, ho, h1, Instr.sliceAt, Instr.slice, run_underlying hu, this]
  · cases h
end
end Go.Proofs.YtmnmcobpfpkibaaGreatDoor
namespace Go.Proofs.YtmnmcobpfpkibaaGreatDoor
open Go.RowKit
set_option linter.unusedVariables false
def fnv {σ β : Type} (P : Program) (ts : σ → List TV) (F : σ → Option β) (res : β → TV) : TV :=
  ⟨fun p v => ∃ f cap, v = .func (.func f) #[] (List.toArray cap) ∧ Fok P f ∧ ∀ q : Pt, p.le q → Gl q → ∀ x vs, both q (ts x) vs → ∀ y, F x = some y →
     Calls P f (vs ++ cap).toArray q.w fun e w' => ∃ v, e = .returned v ∧ ∃ q' : Pt, q'.w = w' ∧ q.le q' ∧ Ext q.w w' ∧ (∀ b, q'.S b → q.S b ∨ q.w.heap.size ≤ b) ∧ (res y).h q' v,
   fun hl h => by obtain ⟨f, cap, e, hf, hc⟩ := h; exact ⟨f, cap, e, hf, fun q hq => hc q (hl.trans hq)⟩⟩
theorem both_append {p : Pt} : ∀ {ts us : List TV} {vs ws : List Value}, both p ts vs → both p us ws → both p (ts ++ us) (vs ++ ws)
  | [], us, [], ws, _, h => h
  | _ :: ts, us, _ :: vs, ws, h1, h2 => ⟨h1.1, both_append h1.2 h2⟩
  | [], _, _ :: _, _, h, _ => h.elim
  | _ :: _, _, [], _, h, _ => h.elim
section
variable {P : Program} {ρ : Type} {z : Zt} {n : Nat} {T : Slots} {B : Boxes} {ops l : List Oper} {Φ : Option ρ} {Q : Kont ρ} {ty t : TypeId} {pos : String} {af : Array Edge} {gd : Option (Nat × Bool)} {d : Nat}
theorem ev_fn {σ β : Type} {f : FuncId} {ts : σ → List TV} {F : σ → Option β} {res : β → TV} (hc : ∀ x, Ct P f (ts x) (F x) res) (x0 : σ) : Ev T (.func f) (fnv P ts F res) := fun p a _ =>
  ⟨f, [], rfl, (hc x0).1, fun q hq hg x vs hv y hy => by rw [List.append_nil]; exact (hc x).2 y hy q vs hg hv⟩
theorem po_mkf {σ β : Type} {f : FuncId} {ts : σ → List TV} {F : σ → Option β} {res : β → TV} {xs : List Operand} {caps : List TV} (x0 : σ) (hc : ∀ x, Ct P f (ts x ++ caps) (F x) res) (hx : Evs T xs caps) : PO P z n T B (.makeFunc (.func f) #[] xs.toArray) (fnv P ts F res) := fun p a hs => by
  refine ⟨.func (.func f) #[] (xs.map a.eval).toArray, ⟨f, _, rfl, (hc x0).1, fun q hq hg x vs hv y hy => (hc x).2 y hy q _ hg (both_append hv (both_up hq (hs.evs hx)))⟩, fun o w' ho _ => by simp [execOp, ho, Instr.makeFunc]⟩
theorem e_callv {σ β : Type} {ts : σ → List TV} {F : σ → Option β} {res : β → TV} {x : σ} {y : β} {at_ : Array TypeId} {fv : Operand} {xs : List Operand} (hy : F x = some y) (hf : Ev T fv (fnv P ts F res)) (hd : Nat.ble (d + 1) n = true) (hx : Evs T xs (ts x)) :
    EO P z n T B ⟨some d, .call ⟨.value fv, xs.toArray, at_⟩, ty, pos, af, gd⟩ (fun q a => St z q n ((d, res y) :: T) B a) := fun p a hs K hK => by
  obtain ⟨f, cap, e, ⟨fn, hf, hb, hnm⟩, hc⟩ := hs.ev hf
  have hb' : fn.body ≠ none := by intro h; simp [h] at hb
  have hnm' : fn.name ≠ "runtime.NumGoroutine" := by simpa using hnm
  unfold Oper.wp
  have e : (execOp a.eval ⟨some d, .call ⟨.value fv, xs.toArray, at_⟩, ty, pos, af, gd⟩).run P p.w = .ok (.enter f (xs.map a.eval ++ cap).toArray) p.w := by
    simp [execOp, resolve, Deferred.ofValue, e, invoke, callFunc, hf, hnm', hb']
  rw [e]
  refine (hc p p.le_refl hs.gl x _ (hs.evs hx) y hy).mono ?_
  rintro e w' ⟨v, rfl, q, rfl, h1, h2, h3, h4⟩
  exact hK q _ ((hs.callOp h1 h2 h3).put (Nat.le_of_ble_eq_true hd) h4) h2
theorem l_callv {σ β : Type} {ts : σ → List TV} {F : σ → Option β} {res : β → TV} (x : σ) {at_ : Array TypeId} {fv : Operand} {xs : List Operand} {K : β → Option ρ} (hf : Ev T fv (fnv P ts F res)) (hx : Evs T xs (ts x)) (hd : Nat.ble (d + 1) n = true) (hk : ∀ y, F x = some y → JL P z n ops ((d, res y) :: T) B l (K y) Q) :
    JL P z n ops T B (⟨some d, .call ⟨.value fv, xs.toArray, at_⟩, ty, pos, af, none⟩ :: l) ((F x).bind K) Q :=
  l_bind fun y hy => l_so trivial (e_callv hy hf hd hx).so fun r hr q a hs => hk y hy r hr q a hs
theorem l_callvg {σ β : Type} {ts : σ → List TV} {F : σ → Option β} {res : β → TV} (x : σ) {at_ : Array TypeId} {fv : Operand} {xs : List Operand} {K : β → Option ρ} (g : Gd ops T gd) (hf : Ev T fv (fnv P ts F res)) (hx : Evs T xs (ts x)) (hd : Nat.ble (d + 1) n = true) (hk : ∀ y, F x = some y → JL P z n ops ((d, res y) :: T) B l (K y) Q) :
    JL P z n ops T B (⟨some d, .call ⟨.value fv, xs.toArray, at_⟩, ty, pos, af, gd⟩ :: l) ((F x).bind K) Q :=
  l_bind fun y hy => l_so g (e_callv hy hf hd hx).so fun r hr q a hs => hk y hy r hr q a hs
theorem St.bfz {α : Type} {k : Kd α} {y : α} {g : Nat} {p : Pt} {a : Act} {s i : Nat} (hs : St z p n T B a) (h : look T s = some (own g 0)) (hi : B[i]? = some (some g, Go.Proofs.YtmnmcobpfpkibaaGreatDoor.box k y)) : ∃ q : Pt, q.w = p.w ∧ St z q n ((s, at_ k y) :: T) (B.eraseIdx i) a := by
  obtain ⟨v, h1, h2⟩ := hs.tm _ _ h
  have h2 : v = .pointer (some ⟨g, 0, none⟩) := h2
  subst h2
  have hsub : (B.eraseIdx i).Sublist B := List.eraseIdx_sublist _ _
  obtain ⟨hS, hzg, ob, hg, cs, tt, rfl, hk⟩ := hs.ow g _ (List.mem_of_getElem? hi)
  have hle : p.le ⟨p.w, fun b => p.S b ∨ b = g, fun b hb => by rcases hb with hb | rfl; exact p.lt b hb; exact blk_lt hg⟩ := fun b hb => ⟨.inl hb, rfl⟩
  have hne : ∀ g' b, (some g', b) ∈ B.eraseIdx i → g' ≠ g := by
    rintro g' b hm rfl
    obtain ⟨j, hj⟩ := List.mem_iff_getElem?.1 hm
    rw [List.getElem?_eraseIdx] at hj
    split at hj
    · rename_i hlt; have := nodup_at hs.nd hi hj; omega
    · rename_i hlt; have := nodup_at hs.nd hi hj; omega
  have hs2 := hs.go (B' := B.eraseIdx i) hle hs.ex (fun b hb => by rcases hb with hb | rfl; exact hs.su b hb; exact .inr hzg) (fun g' b hm => by
    obtain ⟨h3, h4, o, h5, h6⟩ := hs.ow g' b (hsub.subset hm)
    exact ⟨fun hb => by rcases hb with hb | rfl; exact h3 hb; exact hne _ _ hm rfl, h4, o, h5, b.up hle h6⟩) (fun b hb => hs.on b (hsub.subset hb)) ((hsub.filterMap _).nodup hs.nd)
  refine ⟨⟨p.w, fun b => p.S b ∨ b = g, fun b hb => by rcases hb with hb | rfl; exact p.lt b hb; exact blk_lt hg⟩, rfl, hs2.sz, hs2.df, fun j t hj => ?_, hs2.ow, hs2.on, hs2.nd, hs2.ex, hs2.su, hs2.le⟩
  rcases look_put hj with ⟨rfl, rfl⟩ | ⟨_, hj⟩
  · refine ⟨_, h1, ⟨g, 0, none⟩, cs.toList, rfl, .inr rfl, k.frame hle hk, fun j u hu => ?_⟩
    show p.w.cell? _ = _
    rw [add_plain, Nat.zero_add, cell_of_row _ _ _ _ _ _ hg]; simpa using hu
  · exact hs2.tm _ _ hj
theorem l_bfz {α : Type} {k : Kd α} {y : α} {g : Nat} (s i : Nat) (h : look T s = some (own g 0)) (hi : B[i]? = some (some g, box k y)) (hk : JL P z n ops ((s, at_ k y) :: T) (B.eraseIdx i) l Φ Q) : JL P z n ops T B l Φ Q := fun r hr p a hs => by
  obtain ⟨q, e, hq⟩ := hs.bfz h hi; rw [← e]; exact hk r hr q a hq
end
end Go.Proofs.YtmnmcobpfpkibaaGreatDoor
namespace Go.Proofs.YtmnmcobpfpkibaaGreatDoor
open Go.RowKit
set_option linter.unusedVariables false
def rptr (o : Option Nat) (off : Nat) : TV := ⟨fun _ v => ∃ g, o = some g ∧ v = .pointer (some ⟨g, off, none⟩), fun _ h => h⟩
section
variable {P : Program} {ρ : Type} {z : Zt} {n : Nat} {T : Slots} {B : Boxes} {ops l : List Oper} {Φ : Option ρ} {Q : Kont ρ} {ty t : TypeId} {pos : String} {af : Array Edge} {gd : Option (Nat × Bool)} {d : Nat}
theorem at?_spec {α : Type} {xs : List α} {i : Int} {y : α} (h : at? xs i = some y) : 0 ≤ i ∧ xs[i.toNat]? = some y := by
  unfold at? at h; split at h
  · exact ⟨by assumption, h⟩
  · cases h
theorem St.rows {α : Type} {k : Kd α} {e : TypeId} {xs : List α} {o : Option Nat} {c j : Nat} {p : Pt} {a : Act} (hs : St z p n T B a) (hj : B[j]? = some (o, Go.Proofs.YtmnmcobpfpkibaaGreatDoor.rows k e xs c)) (hne : xs ≠ []) :
    ∃ g cs more, o = some g ∧ ¬ p.S g ∧ p.w.heap[g]? = some (.cells (cs ++ more).toArray e (0, 0)) ∧ k.R p.w p.S xs cs ∧ xs.length ≤ c ∧ c ≤ maxLen ∧ (cs ++ more).length = c * k.sz := by
  cases o with
  | none => exact absurd (hs.on _ (List.mem_of_getElem? hj)).1 hne
  | some g =>
    obtain ⟨hS, _, ob, hg, cs, more, rfl, h1, h2, h3, h4⟩ := hs.ow g _ (List.mem_of_getElem? hj)
    exact ⟨g, cs, more, rfl, hS, hg, h1, h2, h3, h4⟩
def mk? {α : Type} (z : α) (len cap : Int) : Option (List α) := if 0 ≤ len ∧ len ≤ cap ∧ cap ≤ 4294967296 then some (List.replicate len.toNat z) else none
theorem zeros_R {α : Type} {k : Kd α} {w : World} {S : Nat → Prop} : ∀ m, k.R w S (List.replicate m k.z) (List.replicate m k.zc).flatten
  | 0 => rfl
  | m + 1 => ⟨k.zc, (List.replicate m k.zc).flatten, by simp [List.replicate_succ], k.zk _ _, zeros_R m⟩
end
end Go.Proofs.YtmnmcobpfpkibaaGreatDoor
namespace Go.Proofs.YtmnmcobpfpkibaaGreatDoor
open Go.RowKit
set_option linter.unusedVariables false
section
variable {P : Program}
def EqK (P : Program) (t : TypeId) {α : Type} (k : Kd α) (e : α → α → Bool) (m : Nat) : Prop :=
  ∀ d, m ≤ d → ∀ {w0 w1 : World} {S S1 : Nat → Prop} {x y : α} {v u : Value} (w : World), k.V w0 S x v → k.V w1 S1 y u → (Op.equalIn d t v u).run P w = .ok (e x y) w
theorem EqK.up {t : TypeId} {α : Type} {k : Kd α} {e : α → α → Bool} {m m' : Nat} (h : EqK P t k e m) (hm : Nat.ble m m' = true) : EqK P t k e m' := fun d hd => h d (Nat.le_trans (Nat.le_of_ble_eq_true hm) hd)
theorem eqk_num {t : TypeId} {k : IntKind} {b : Nat} {lo hi : Int} (h : P.underlying t = some (.int k)) : EqK P t (kNum k b lo hi) (fun x y => x == y) 1 := fun d hd w0 w1 S S1 x y v u w hx hy => by
  obtain ⟨d, rfl⟩ : ∃ d', d = d' + 1 := ⟨d - 1, by omega⟩
  have h1 : v = .int k x := by have : [v] = [Value.int k x] := hx; simpa using this
  have h2 : u = .int k y := by have : [u] = [Value.int k y] := hy; simpa using this
  rw [h1, h2]; exact run_equalIn_int w d t k k x y h
theorem eqk_str {t : TypeId} (h : P.underlying t = some .string) : EqK P t kStr sEq 1 := fun d hd w0 w1 S S1 x y v u w hx hy => by
  obtain ⟨d, rfl⟩ : ∃ d', d = d' + 1 := ⟨d - 1, by omega⟩
  have h1 : v = .string x := by have : [v] = [Value.string x] := hx; simpa using this
  have h2 : u = .string y := by have : [u] = [Value.string y] := hy; simpa using this
  rw [h1, h2]; exact run_equalIn_string w d t x y h
def flB (P : Program) (t : TypeId) (i off tf : Nat) : Bool :=
  match (P.fieldsOf t)[i]? with
  | some f => f.name != "_" && Nat.beq f.offset off && Nat.beq f.type tf
  | none => false
inductive EqFs (P : Program) (t : TypeId) {α : Type} (k : Kd α) (n : Nat) : Nat → (α → α → Bool) → Nat → Prop
  | done (m : Nat) : EqFs P t k n n (fun _ _ => true) m
  | step {β : Type} {i off tf m : Nat} {l : Kd β} {get : α → β} {set : α → β → α} {e : β → β → Bool} {e' : α → α → Bool} : flB P t i off tf = true → Fld k off l get set → tyB P tf l = true → EqK P tf l e m → EqFs P t k n (i + 1) e' m → EqFs P t k n i (fun x y => e (get x) (get y) && e' x y) m
theorem run_part {α : Type} {k : Kd α} {t : TypeId} (h : tyB P t k = true) {cs : Array Value} {off : Nat} (hb : off + k.sz ≤ cs.size) {w0 : World} {S : Nat → Prop} {x : α} (hk : k.K w0 S x ((cs.toList.drop off).take k.sz)) (w : World) :
    (part t cs off).run P w = .ok (k.mk' ((cs.toList.drop off).take k.sz)) w := by
  have ha := run_isAgg h w
  have hs := run_size (ty_size h) w
  unfold part
  rw [Sem.run_bind, ha]
  cases hst : k.st with
  | true =>
    simp only [Result.andThen_ok, if_true, Sem.run_bind, hs, Sem.run_pure, Kd.mk', hst]
    congr 2
    apply Array.ext'
    simp [Array.toList_extract, List.extract_eq_take_drop]
  | false =>
    have h1 := k.s1 hst
    rw [h1] at hb hk ⊢
    have hlt : off < cs.size := by omega
    simp [Kd.mk', hst, hlt, List.drop_eq_getElem_cons (show off < cs.toList.length by simpa using hlt)]
theorem eqfs_run {t : TypeId} {α : Type} {k : Kd α} {n : Nat} (hn : (P.fieldsOf t).size = n) {d : Nat} : ∀ {i m : Nat} {e : α → α → Bool}, EqFs P t k n i e m → m ≤ d → ∀ {w0 w1 : World} {S S1 : Nat → Prop} {x y : α} {xs ys : Array Value} (w : World), k.K w0 S x xs.toList → k.K w1 S1 y ys.toList →
    (Op.eqFields d xs ys ((P.fieldsOf t).toList.drop i)).run P w = .ok (e x y) w := by
  intro i m e h hm
  induction h with
  | done m =>
    intro w0 w1 S S1 x y xs ys w hx hy
    rw [List.drop_of_length_le (by simp [hn])]
    simp [Op.eqFields]
  | @step β i off tf m l get set e e' hf fl ht he hr ih =>
    intro w0 w1 S S1 x y xs ys w hx hy
    unfold flB at hf
    split at hf
    · rename_i f hfi
      simp only [Bool.and_eq_true] at hf
      obtain ⟨⟨hnm, ho⟩, htf⟩ := hf
      have ho := Nat.eq_of_beq_eq_true ho
      have htf := Nat.eq_of_beq_eq_true htf
      subst ho; subst htf
      have hlt := (Array.getElem?_eq_some_iff.1 hfi).1
      have hd : (P.fieldsOf t).toList.drop i = f :: (P.fieldsOf t).toList.drop (i + 1) := by
        rw [List.drop_eq_getElem_cons (by simpa using hlt)]
        congr 1
        have := (Array.getElem?_eq_some_iff.1 hfi).2
        simpa using this
      have hx2 := fl.g hx
      have hy2 := fl.g hy
      have hb := fl.bd
      have lx := k.len hx
      have ly := k.len hy
      have p1 := run_part (P := P) ht (cs := xs) (off := f.offset) (by simp at lx; omega) hx2 w
      have p2 := run_part (P := P) ht (cs := ys) (off := f.offset) (by simp at ly; omega) hy2 w
      have q := he d hm w (Kd.V_mk hx2) (Kd.V_mk hy2)
      have hnm' : f.name ≠ "_" := by simpa using hnm
      rw [hd]
      simp only [Op.eqFields]
      rw [if_pos hnm', Sem.run_bind, p1]
      simp only [Result.andThen_ok, Sem.run_bind, p2, q]
      cases hb2 : e (get x) (get y) with
      | true => simp only [Bool.not_true, Bool.false_eq_true, if_false, Bool.true_and]; exact ih hm w hx hy
      | false => simp
    · cases hf
theorem eqk_struct {t : TypeId} {α : Type} {k : Kd α} {n m : Nat} {e : α → α → Bool} (hst : k.st = true) (hu : (match P.underlying t with | some (.struct _) => true | _ => false) = true) (hp : P.stoodInHeld t = false) (hn : (P.fieldsOf t).size = n) (h : EqFs P t k n 0 e m) : EqK P t k e (m + 1) := fun d hd w0 w1 S S1 x y v u w hx hy => by
  obtain ⟨d, rfl⟩ : ∃ d', d = d' + 1 := ⟨d - 1, by omega⟩
  unfold Kd.V at hx hy
  rw [hst] at hx hy
  obtain ⟨cs, rfl, hx⟩ := hx
  obtain ⟨ds, rfl, hy⟩ := hy
  have hu' : P.underlying t = some (.struct (P.fieldsOf t)) := by
    unfold Program.fieldsOf
    split at hu
    · rename_i fs h; rw [h]
    · cases hu
  rw [run_equalIn_struct w d t cs ds hu' hp]
  exact eqfs_run hn h (by omega) w hx hy
variable {z : Zt} {n : Nat} {T : Slots} {B : Boxes}
theorem po_qn {t t2 : TypeId} {α : Type} {k : Kd α} {e : α → α → Bool} {m : Nat} {x y : α} {u v : Operand} (he : EqK P t k e m) (hm : Nat.ble m 10000 = true) (hst : k.st = true) (hg : P.eqGuardType P.depth t = false) (h : Ev T u (rd k x)) (h' : Ev T v (rd k y)) : PO P z n T B (.binOp .neq t u v t2) (rd kBool (!e x y)) := fun p a hs => by
  have h1 := hs.ev h
  have h2 := hs.ev h'
  have hq := fun w => he 10000 (Nat.le_of_ble_eq_true hm) w h1 h2
  have s1 : ∃ cs, a.eval u = .agg cs := by have h1 : k.V _ _ _ _ := h1; unfold Kd.V at h1; rw [hst] at h1; obtain ⟨cs, e, _⟩ := h1; exact ⟨cs, e⟩
  have s2 : ∃ cs, a.eval v = .agg cs := by have h2 : k.V _ _ _ _ := h2; unfold Kd.V at h2; rw [hst] at h2; obtain ⟨cs, e, _⟩ := h2; exact ⟨cs, e⟩
  obtain ⟨cs, e1⟩ := s1
  obtain ⟨ds, e2⟩ := s2
  rw [e1, e2] at hq
  exact ⟨.bool (!e x y), rfl, fun o w' ho _ => by simp only [execOp, ho, e1, e2, Sem.run_bind, run_eqGuard_agg w' .neq t u v cs ds hg, Result.andThen_ok, run_neq_struct, hq]; rfl⟩
end
end Go.Proofs.YtmnmcobpfpkibaaGreatDoor
namespace Go.Proofs.YtmnmcobpfpkibaaGreatDoor
open Go.RowKit
set_option linter.unusedVariables false
section
variable {P : Program} {ops : Array Oper}
def chkT (ops : Array Oper) (fl sk : Nat → Bool) (ct : Array Bool → Bool) : List Nat → Array Bool → Bool
  | [], listed => ct listed
  | i :: rest, listed =>
    (if fl i then (Region.ready .any ops listed).contains i && Region.free .any ops listed i && !sk i && (List.range ops.size).all (fun j => !sk j || listed.getD j true || meAt ops i || anc ops 14 j i)
     else decide (Region.ready .any ops listed = [i])) && chkT ops fl sk ct rest (listed.setIfInBounds i true)
theorem anyE_of_walkT {fl sk : Nat → Bool} {Q Tl : Act → World → Prop} {ct : Array Bool → Bool} {m : Nat} (hsel : Region.noSelect ops = true) (hskb : ∀ j, sk j = true → j < ops.size) (hT : ∀ listed a w, Closed ops listed → ct listed = true → Tl a w → anyE P ops sk Q m listed a w) :
    ∀ (ord : List Nat) (listed : Array Bool) (a : Act) (w : World), Closed ops listed → chkT ops fl sk ct ord listed = true → walkE P ops fl sk Tl ord a w → anyE P ops sk Q (ord.length + m) listed a w
  | [], listed, a, w, hcl, hB, h => by rw [List.length_nil, Nat.zero_add]; exact hT listed a w hcl hB h
  | i :: rest, listed, a, w, hcl, hB, h => by
    simp only [chkT, Bool.and_eq_true] at hB
    obtain ⟨hB1, hB2⟩ := hB
    rw [List.length_cons, show rest.length + 1 + m = (rest.length + m) + 1 by omega]
    unfold walkE at h
    cases ho : ops[i]? with
    | none => rw [ho] at h; exact h.elim
    | some o =>
      rw [ho] at h
      simp only at h
      by_cases hf : fl i = true
      · simp only [hf, if_true, Bool.and_eq_true] at hB1 h
        obtain ⟨⟨⟨hr, hfr⟩, hs⟩, hall⟩ := hB1
        have hr' : i ∈ Region.ready .any ops listed := by simpa using hr
        have hfl : ∃ v, FloatAt P ops o v a w ∧ walkE P ops fl sk Tl rest (a.put o.dst v) w := by
          by_cases hw : Region.wanted o (yielded ops a.tmps) = true
          · simp only [hw, if_true] at h
            obtain ⟨v, h1, h2⟩ := h
            exact ⟨v, .inl ⟨hw, h1⟩, h2⟩
          · simp only [hw] at h
            exact ⟨undef, .inr ⟨by simpa using hw, rfl⟩, h⟩
        obtain ⟨v, hy, hK⟩ := hfl
        refine anyE_first ho (Region.noSelect_spec hsel) (by simpa using hs) _ listed a w hcl (Region.free_spec ho hfr) (fun j hj hu hm => ⟨14, ?_⟩) hr' hy (anyE_of_walkT hsel hskb hT rest _ _ _ (hcl.set hr') hB2 hK)
        have h1 := List.all_eq_true.1 hall j (List.mem_range.2 (hskb j hj))
        simpa [hj, hu, meAt, ho, hm] using h1
      · simp only [hf] at hB1 h
        have hB1' : Region.ready .any ops listed = [i] := by simpa using hB1
        refine ⟨fun h0 => (by rw [hB1'] at h0; cases h0), fun j hj => ?_⟩
        rw [hB1'] at hj
        have : j = i := by simpa using hj
        subst this
        have hr' : j ∈ Region.ready .any ops listed := by rw [hB1']; simp
        unfold wpOp
        simp only [ho]
        by_cases hw : Region.wanted o (yielded ops a.tmps) = true
        · simp only [hw, if_true] at h ⊢
          exact .inl (Oper.wp_mono (fun a' w' h' => ⟨h'.1, anyE_of_walkT hsel hskb hT rest _ _ _ (hcl.set hr') hB2 h'.2⟩) h)
        · simp only [hw] at h ⊢
          exact ⟨fun _ => Ext.refl w, anyE_of_walkT hsel hskb hT rest _ _ _ (hcl.set hr') hB2 h⟩
theorem walkE_forced {fl sk : Nat → Bool} {Q : Act → World → Prop} {i : Nat} {rest : List Nat} {a : Act} {w : World} (hf : fl i = false) (h : walkE P ops fl sk Q (i :: rest) a w) {X : Act → World → Prop} (hX : ∀ a' w', walkE P ops fl sk Q rest a' w' → X a' w') :
    wpOp P ops NoQ i (fun a' w' => (sk i = false → Ext w w') ∧ X a' w') a w := by
  unfold walkE at h
  cases ho : ops[i]? with
  | none => rw [ho] at h; exact h.elim
  | some o =>
    rw [ho] at h
    simp only [hf, Bool.false_eq_true, if_false] at h
    unfold wpOp
    simp only [ho]
    by_cases hw : Region.wanted o (yielded ops a.tmps) = true
    · simp only [hw, if_true] at h ⊢
      exact .inl (Oper.wp_mono (fun a' w' h' => ⟨h'.1, hX _ _ h'.2⟩) h)
    · simp only [hw] at h ⊢
      exact ⟨fun _ => Ext.refl w, hX _ _ h⟩
def chkFork (ops : Array Oper) (fl sk : Nat → Bool) (i j : Nat) (l1 l2 : List Nat) (listed : Array Bool) : Bool :=
  decide (Region.ready .any ops listed = [i, j]) && !fl i && !fl j && chkE ops fl sk l1 (listed.setIfInBounds i true) && chkE ops fl sk l2 (listed.setIfInBounds j true)
theorem region_fork {id : Nat} {Q : Exit → Act → World → Prop} {a : Act} {w : World} {l : List Oper} (ord fo sk : List Nat) (i j : Nat) (l1 l2 : List Nat) (hm : P.follows .mixedOrders = true)
    (hB : (Region.noSelect l.toArray && sk.all (fun j => decide (j < l.length)) && decide (ord.length + (l1.length + 1) = l.length) && decide (l2.length = l1.length) && chkT l.toArray (fun i => !inL fo i) (inL sk) (chkFork l.toArray (fun i => !inL fo i) (inL sk) i j l1 l2) ord (Array.replicate l.length false)) = true)
    (h : walkE P l.toArray (fun i => !inL fo i) (inL sk) (fun a w => walkE P l.toArray (fun i => !inL fo i) (inL sk) (Q .normal) (i :: l1) a w ∧ walkE P l.toArray (fun i => !inL fo i) (inL sk) (Q .normal) (j :: l2) a w) ord a w.drew) : (Code.region id l.toArray true).wp P Q a w := by
  simp only [Bool.and_eq_true, decide_eq_true_eq] at hB
  obtain ⟨⟨⟨⟨h1, h2⟩, h3⟩, h4⟩, h5⟩ := hB
  refine wp_region_any hm ?_
  have hskb : ∀ j, inL sk j = true → j < l.toArray.size := fun j hj => by
    have := List.all_eq_true.1 h2 j (by simpa [inL] using hj)
    simpa using this
  have := anyE_of_walkT (P := P) (Q := Q .normal) (m := l1.length + 1) h1 hskb (fun listed a w hcl hct ht => by
    unfold chkFork at hct
    simp only [Bool.and_eq_true, decide_eq_true_eq, Bool.not_eq_true'] at hct
    obtain ⟨⟨⟨⟨hr, hi⟩, hj⟩, c1⟩, c2⟩ := hct
    refine ⟨fun h0 => (by rw [hr] at h0; cases h0), fun x hx => ?_⟩
    have hx' := hx
    rw [hr] at hx
    simp only [List.mem_cons, List.not_mem_nil, or_false] at hx
    rcases hx with rfl | rfl
    · exact walkE_forced hi ht.1 fun a' w' hw => anyE_of_walk h1 hskb l1 _ _ _ (hcl.set hx') c1 hw
    · refine walkE_forced hj ht.2 fun a' w' hw => ?_
      rw [← h4]
      exact anyE_of_walk h1 hskb l2 _ _ _ (hcl.set hx') c2 hw) ord (Array.replicate l.length false) a w.drew (fun j o _ hl => by rw [getD_replicate_false] at hl; cases hl) h5 h
  rw [h3] at this
  exact wpAny_of_anyE (fun _ _ h => h) _ _ _ _ (by simpa using this)
variable {ρ : Type} {z : Zt} {n : Nat}
def qFk (P : Program) (ops : List Oper) (fo sk : List Nat) (l1 l2 : List Nat) (Q : Kont ρ) : Kont ρ := fun r e a w =>
  match e with
  | .normal => walkE P ops.toArray (fun i => !inL fo i) (inL sk) (Q r .normal) l1 a w ∧ walkE P ops.toArray (fun i => !inL fo i) (inL sk) (Q r .normal) l2 a w
  | e => Q r e a w
theorem x_fk {T B} {Φ : Option ρ} {ops : List Oper} {fo sk l1 l2 : List Nat} {Q : Kont ρ} (h1 : JW P z n ops fo sk T B l1 Φ Q) (h2 : JW P z n ops fo sk T B l2 Φ Q) : JX z n T B .normal Φ (qFk P ops fo sk l1 l2 Q) := fun r hr p a hs => ⟨h1 r hr p a hs, h2 r hr p a hs⟩
theorem c_fork {T B i Φ} {Q : Kont ρ} {l : List Oper} (ord fo sk : List Nat) (x y : Nat) (l1 l2 : List Nat) (hm : P.follows .mixedOrders = true)
    (hB : (Region.noSelect l.toArray && sk.all (fun j => decide (j < l.length)) && decide (ord.length + (l1.length + 1) = l.length) && decide (l2.length = l1.length) && chkT l.toArray (fun i => !inL fo i) (inL sk) (chkFork l.toArray (fun i => !inL fo i) (inL sk) x y l1 l2) ord (Array.replicate l.length false)) = true)
    (h : JW P z n l fo sk T B ord Φ (qFk P l fo sk (x :: l1) (y :: l2) Q)) : JC P z n T B (.region i l.toArray true) Φ Q := fun r hr p a hs => by
  refine region_fork ord fo sk x y l1 l2 hm hB ?_
  have hle : p.le ⟨p.w.drew, p.S, p.lt⟩ := fun b hb => ⟨hb, rfl⟩
  exact h r hr ⟨p.w.drew, p.S, p.lt⟩ a (hs.go hle hs.ex.drew hs.su (fun g b hg => by obtain ⟨h1, h2, o, h3, h4⟩ := hs.ow g b hg; exact ⟨h1, h2, o, h3, b.up hle h4⟩) hs.on hs.nd)
end
end Go.Proofs.YtmnmcobpfpkibaaGreatDoor
namespace Go.Proofs.YtmnmcobpfpkibaaGreatDoor
open Go.RowKit
set_option linter.unusedVariables false
def keys (B : Boxes) : List Nat := B.filterMap (·.1)
theorem mem_keys {B : Boxes} {g : Nat} : g ∈ keys B ↔ ∃ b, (some g, b) ∈ B := by
  unfold keys
  rw [List.mem_filterMap]
  constructor
  · rintro ⟨⟨o, b⟩, h, e⟩; simp only at e; subst e; exact ⟨b, h⟩
  · rintro ⟨b, h⟩; exact ⟨_, h, rfl⟩
def Owns (p : Pt) (B : Boxes) : Prop :=
  (∀ g b, (some g, b) ∈ B → ¬ p.S g ∧ ∃ o, p.w.heap[g]? = some o ∧ b.h p o) ∧ (∀ b, (none, b) ∈ B → b.nil) ∧ (keys B).Nodup
def lenEq {α : Type} (xs ys : List α) : Option Unit := if ys.length = xs.length then some () else none
inductive Spl : Boxes → Boxes → Boxes → Prop
  | nil : Spl [] [] []
  | l {b B I R} : Spl B I R → Spl (b :: B) (b :: I) R
  | r {b B I R} : Spl B I R → Spl (b :: B) I (b :: R)
theorem Spl.i {B I R : Boxes} (h : Spl B I R) : I.Sublist B := by
  induction h with
  | nil => exact List.nil_sublist _
  | l _ ih => exact ih.cons_cons _
  | r _ ih => exact ih.cons _
theorem Spl.j {B I R : Boxes} (h : Spl B I R) : R.Sublist B := by
  induction h with
  | nil => exact List.nil_sublist _
  | l _ ih => exact ih.cons _
  | r _ ih => exact ih.cons_cons _
theorem Spl.apart {B I R : Boxes} (h : Spl B I R) (hn : (keys B).Nodup) : ∀ g, g ∈ keys I → g ∈ keys R → False := by
  induction h with
  | nil => intro g h; simp [keys] at h
  | @l b B I R h ih =>
    have hn' : (keys B).Nodup := by unfold keys at hn ⊢; simp only [List.filterMap_cons] at hn; split at hn; exact hn; exact (List.nodup_cons.1 hn).2
    intro g h1 h2
    obtain ⟨c, hc⟩ := mem_keys.1 h1
    rcases List.mem_cons.1 hc with rfl | hc
    · have := (h.j.filterMap (·.1)).subset h2
      unfold keys at hn
      simp only [List.filterMap_cons, List.nodup_cons] at hn
      exact hn.1 this
    · exact ih hn' g (mem_keys.2 ⟨c, hc⟩) h2
  | @r b B I R h ih =>
    have hn' : (keys B).Nodup := by unfold keys at hn ⊢; simp only [List.filterMap_cons] at hn; split at hn; exact hn; exact (List.nodup_cons.1 hn).2
    intro g h1 h2
    obtain ⟨c, hc⟩ := mem_keys.1 h2
    rcases List.mem_cons.1 hc with rfl | hc
    · have := (h.i.filterMap (·.1)).subset h1
      unfold keys at hn
      simp only [List.filterMap_cons, List.nodup_cons] at hn
      exact hn.1 this
    · exact ih hn' g h1 (mem_keys.2 ⟨c, hc⟩)
section
variable {P : Program} {ρ η : Type} {z : Zt} {n : Nat} {T : Slots} {B : Boxes} {ops l : List Oper} {Φ : Option ρ} {Q : Kont ρ} {ty t : TypeId} {pos : String} {af : Array Edge} {gd : Option (Nat × Bool)} {d : Nat}
def Cb (P : Program) (f : FuncId) (ts : List TV) (Bi : Boxes) (Φ : Option ρ) (res : ρ → η → TV) (Bo : ρ → η → Boxes) : Prop :=
  Fok P f ∧ ∀ r, Φ = some r → ∀ (p : Pt) (vs : List Value), Gl p → both p ts vs → Owns p Bi → Calls P f vs.toArray p.w fun e w' => ∃ v, e = .returned v ∧ ∃ (q : Pt) (h : η), q.w = w' ∧ p.le q ∧ ExtM (keys Bi) p.w w' ∧ (∀ b, q.S b → p.S b ∨ p.w.heap.size ≤ b ∨ b ∈ keys Bi) ∧ (res r h).h q v ∧ Owns q (Bo r h) ∧ ∀ g ∈ keys (Bo r h), p.w.heap.size ≤ g ∨ g ∈ keys Bi
def qRb (P : Program) (fn : Func) (z : Zt) (res : ρ → η → TV) (Bo : ρ → η → Boxes) : Kont ρ := fun r e a w =>
  match e with
  | .ret | .normal => a.defers = [] ∧ ∃ v, (results fn a.tmps).run P w = .ok v w ∧ ∃ (q : Pt) (h : η), q.w = w ∧ z.toPt.le q ∧ ExtM z.M z.w w ∧ (∀ b, q.S b → z.S b ∨ z.w.heap.size ≤ b ∨ b ∈ z.M) ∧ (res r h).h q v ∧ Owns q (Bo r h) ∧ ∀ g ∈ keys (Bo r h), z.w.heap.size ≤ g ∨ g ∈ z.M
  | _ => False
theorem enterB {f : FuncId} {fn : Func} {c : Code} {ts : List TV} {Bi : Boxes} {res : ρ → η → TV} {Bo : ρ → η → Boxes} (hf : P.funcs[f]? = some fn) (hb : fn.body = some c) (hn : fn.ntmps = n) (hl : Nat.ble ts.length n = true) (hnm : (fn.name == "runtime.NumGoroutine") = false)
    (h : ∀ z : Zt, JC P z n (slotsOf 0 ts) Bi c Φ (qRb P fn z res Bo)) : Cb P f ts Bi Φ res Bo := ⟨⟨fn, hf, by rw [hb]; rfl, hnm⟩, fun r hr p vs hgl hv ho => by
  refine calls_of_wp hf hb ?_
  have hlen := both_len hv
  have hl' := Nat.le_of_ble_eq_true hl
  refine wp_mono (h ⟨p, hgl, keys Bi⟩ r hr p _ ⟨?_, rfl, ?_, ?_, ho.2.1, ho.2.2, (Ext.refl _).m _, fun b hb => .inl hb, p.le_refl⟩) ?_
  · simp [hn]; omega
  · intro i t ht
    obtain ⟨v, _, h2, h3⟩ := look_slots hv ht
    refine ⟨v, ?_, h3⟩
    have hi := (List.getElem?_eq_some_iff.1 h2).1
    rw [Array.getElem?_append_left (by simpa using hi)]
    simpa using h2
  · intro g b hg
    obtain ⟨h1, h2⟩ := ho.1 g b hg
    exact ⟨h1, .inr (mem_keys.2 ⟨b, hg⟩), h2⟩
  · intro e a w hq
    cases e <;> first | exact hq.elim | (obtain ⟨hd, v, h1, q, h2⟩ := hq; exact ⟨hd, v, h1, v, rfl, q, h2⟩)⟩
theorem St.owns {p : Pt} {a : Act} (hs : St z p n T B a) {B' : Boxes} (hb : SubB B' B) : Owns p B' ∧ ∀ g ∈ keys B', z.w.heap.size ≤ g ∨ g ∈ z.M := by
  have hsub := hb.sub
  refine ⟨⟨fun g b hg => ?_, fun b hg => hs.on b (hsub.subset hg), (hsub.filterMap _).nodup hs.nd⟩, fun g hg => ?_⟩
  · obtain ⟨h1, _, h2⟩ := hs.ow g b (hsub.subset hg); exact ⟨h1, h2⟩
  · obtain ⟨b, hb⟩ := mem_keys.1 hg; exact (hs.ow g b (hsub.subset hb)).2.1
theorem x_rb1 {fn : Func} {y : ρ} {res : ρ → η → TV} {Bo : ρ → η → Boxes} {x : ResultVar} (h : η) (hf : fn.results = #[x]) (hr : Rv P T B x (res y h)) (hb : SubB (Bo y h) B) : JX z n T B .ret (some y) (qRb P fn z res Bo) := fun r hy p a hs => by
  injection hy with hy
  subst hy
  obtain ⟨vs, h1, h2⟩ := rvs_run (P := P) hs (xs := [x]) (ts := [res y h]) ⟨hr, trivial⟩
  match vs, h2 with
  | [v], h2 =>
    refine ⟨hs.df, v, ?_, p, h, rfl, hs.le, hs.ex, hs.su, h2.1, (hs.owns hb).1, (hs.owns hb).2⟩
    rw [results_eq, hf, Sem.run_bind, List.mapM_toArray, Sem.run_map, h1]
    simp
theorem x_rbn {fn : Func} {y : ρ} {res : ρ → η → TV} {Bo : ρ → η → Boxes} {xs : List ResultVar} {ts : List TV} (h : η) (hf : fn.results = xs.toArray) (h1 : Nat.beq ts.length 1 = false) (hr : res y h = tup ts) (hv : Rvs P T B xs ts) (hb : SubB (Bo y h) B) : JX z n T B .ret (some y) (qRb P fn z res Bo) := fun r hy p a hs => by
  injection hy with hy
  subst hy
  obtain ⟨vs, h2, h3⟩ := rvs_run (P := P) hs hv
  refine ⟨hs.df, .tuple vs.toArray, ?_, p, h, rfl, hs.le, hs.ex, hs.su, by rw [hr]; exact ⟨vs, rfl, h3⟩, (hs.owns hb).1, (hs.owns hb).2⟩
  have := both_len h3
  rw [results_eq, hf, Sem.run_bind, List.mapM_toArray, Sem.run_map, h2]
  have h4 : ¬ vs.length = 1 := by rw [this]; exact Nat.ne_of_beq_eq_false h1
  simp [h4]
theorem x_endb {fn : Func} {res : ρ → η → TV} {Bo : ρ → η → Boxes} (h : JX z n T B .ret Φ (qRb P fn z res Bo)) : JX z n T B .normal Φ (qRb P fn z res Bo) := h
theorem St.lent {p : Pt} {a : Act} (hs : St z p n T B a) {Bi R Bo : Boxes} (hsp : Spl B Bi R) {q : Pt} (hl : p.le q) (he : ExtM (keys Bi) p.w q.w) (hS : ∀ b, q.S b → p.S b ∨ p.w.heap.size ≤ b ∨ b ∈ keys Bi) (ho : Owns q Bo) (hk : ∀ g ∈ keys Bo, p.w.heap.size ≤ g ∨ g ∈ keys Bi) : St z q n T (Bo ++ R) a := by
  have hnd : (keys B).Nodup := hs.nd
  have kb : ∀ g ∈ keys Bi, z.w.heap.size ≤ g ∨ g ∈ z.M := fun g hg => by
    obtain ⟨b, hb⟩ := mem_keys.1 hg; exact (hs.ow g b (hsp.i.subset hb)).2.1
  have kr : ∀ g ∈ keys R, ¬ p.S g ∧ g < p.w.heap.size ∧ g ∉ keys Bi := fun g hg => by
    obtain ⟨b, hb⟩ := mem_keys.1 hg
    obtain ⟨h1, _, o, h2, _⟩ := hs.ow g b (hsp.j.subset hb)
    exact ⟨h1, blk_lt h2, fun h => hsp.apart hnd g h hg⟩
  refine hs.go hl ⟨he.os.trans hs.ex.os, he.tape.trans hs.ex.tape, he.output.trans hs.ex.output, Nat.le_trans hs.ex.size he.size, fun b hb hM => ?_⟩ (fun b hb => ?_) (fun g b hg => ?_) (fun b hb => ?_) ?_
  · refine (he.block b (Nat.lt_of_lt_of_le hb hs.ex.size) (fun hk => ?_)).trans (hs.ex.block b hb hM)
    rcases kb b hk with h | h
    · omega
    · exact hM h
  · rcases hS b hb with h | h | h
    · exact hs.su b h
    · exact .inr (.inl (Nat.le_trans hs.ex.size h))
    · exact .inr (kb b h)
  · rcases List.mem_append.1 hg with hg | hg
    · obtain ⟨h1, h2⟩ := ho.1 g b hg
      refine ⟨h1, ?_, h2⟩
      rcases hk g (mem_keys.2 ⟨b, hg⟩) with h | h
      · exact .inl (Nat.le_trans hs.ex.size h)
      · exact kb g h
    · obtain ⟨h1, h2, h3⟩ := kr g (mem_keys.2 ⟨b, hg⟩)
      obtain ⟨_, h4, o, h5, h6⟩ := hs.ow g b (hsp.j.subset hg)
      refine ⟨fun hq => ?_, h4, o, (he.block g h2 h3).trans h5, b.up hl h6⟩
      rcases hS g hq with h | h | h
      · exact h1 h
      · omega
      · exact h3 h
  · rcases List.mem_append.1 hb with hb | hb
    · exact ho.2.1 b hb
    · exact hs.on b (hsp.j.subset hb)
  · rw [List.filterMap_append]
    refine List.nodup_append.2 ⟨ho.2.2, (hsp.j.filterMap _).nodup hs.nd, fun g hg g' hg' e => ?_⟩
    subst e
    obtain ⟨h1, h2, h3⟩ := kr g hg'
    rcases hk g hg with h | h
    · omega
    · exact h3 h
theorem s_callb {σ : Type} {f at_ ts} {xs : List Operand} {Bi R : Boxes} {y : σ} {m : Option σ} {res : σ → η → TV} {Bo : σ → η → Boxes} (hy : m = some y) (hc : Cb P f ts Bi m res Bo) (hsp : Spl B Bi R) (hd : Nat.ble (d + 1) n = true) (hx : Evs T xs ts) :
    SO P z n T B ⟨some d, .call ⟨.value (.func f), xs.toArray, at_⟩, ty, pos, af, gd⟩ (fun q a => ∃ h, St z q n ((d, res y h) :: T) (Bo y h ++ R) a) := fun p a hs K hK => by
  obtain ⟨⟨fn, hf, hb, hnm⟩, hc⟩ := hc
  unfold Oper.wp
  have hb' : fn.body ≠ none := by intro h; simp [h] at hb
  have hnm' : fn.name ≠ "runtime.NumGoroutine" := by simpa using hnm
  have e : (execOp a.eval ⟨some d, .call ⟨.value (.func f), xs.toArray, at_⟩, ty, pos, af, gd⟩).run P p.w = .ok (.enter f (xs.map a.eval).toArray) p.w := by
    simp [execOp, resolve, Deferred.ofValue, Act.eval, invoke, callFunc, hf, hnm', hb']
  rw [e]
  have hown : Owns p Bi := ⟨fun g b hg => by obtain ⟨h1, _, h2⟩ := hs.ow g b (hsp.i.subset hg); exact ⟨h1, h2⟩, fun b hg => hs.on b (hsp.i.subset hg), (hsp.i.filterMap _).nodup hs.nd⟩
  refine (hc y hy p _ hs.gl (hs.evs hx) hown).mono ?_
  rintro e w' ⟨v, rfl, q, h, rfl, h1, h2, h3, h4, h5, h6⟩
  exact hK q _ ⟨h, (hs.lent hsp h1 h2 h3 h5 h6).put (Nat.le_of_ble_eq_true hd) h4⟩
theorem l_callb {σ : Type} {f at_ ts} {xs : List Operand} {Bi R : Boxes} {m : Option σ} {res : σ → η → TV} {Bo : σ → η → Boxes} {K : σ → Option ρ} (hc : Cb P f ts Bi m res Bo) (hsp : Spl B Bi R) (hx : Evs T xs ts) (hd : Nat.ble (d + 1) n = true) (hk : ∀ y h, m = some y → JL P z n ops ((d, res y h) :: T) (Bo y h ++ R) l (K y) Q) :
    JL P z n ops T B (⟨some d, .call ⟨.value (.func f), xs.toArray, at_⟩, ty, pos, af, none⟩ :: l) (m.bind K) Q :=
  l_bind fun y hy => l_so trivial (s_callb hy hc hsp hd hx) fun r hr q a ⟨h, hs⟩ => hk y h hy r hr q a hs
theorem w_callb {σ : Type} {f at_ ts} {xs : List Operand} {Bi R : Boxes} {m : Option σ} {res : σ → η → TV} {Bo : σ → η → Boxes} {K : σ → Option ρ} {fo sk ord : List Nat} {i : Nat} (ho : ops[i]? = some ⟨some d, .call ⟨.value (.func f), xs.toArray, at_⟩, ty, pos, af, none⟩) (hf : inL fo i = true) (hsk : inL sk i = true) (hc : Cb P f ts Bi m res Bo) (hsp : Spl B Bi R) (hx : Evs T xs ts) (hd : Nat.ble (d + 1) n = true) (hk : ∀ y h, m = some y → JW P z n ops fo sk ((d, res y h) :: T) (Bo y h ++ R) ord (K y) Q) :
    JW P z n ops fo sk T B (i :: ord) (m.bind K) Q :=
  w_bind fun y hy => w_so ho hf hsk trivial (s_callb hy hc hsp hd hx) fun r hr q a ⟨h, hs⟩ => hk y h hy r hr q a hs
theorem po_nck {x : Operand} {g o : Nat} (h : Ev T x (own g o)) : PO P z n T B (.nilCheck x) (own g o) := fun p a hs => by
  have h1 : a.eval x = .pointer (some ⟨g, o, none⟩) := hs.ev h
  exact ⟨_, rfl, fun o w' ho _ => by simp [execOp, ho, h1]⟩
end
end Go.Proofs.YtmnmcobpfpkibaaGreatDoor
namespace Go.Proofs.YtmnmcobpfpkibaaGreatDoor
open Go.RowKit
set_option linter.unusedVariables false
def mget {α : Type} : List (Int × α) → Int → Option α
  | [], _ => none
  | x :: m, k => if k = x.1 then some x.2 else mget m k
def mset {α : Type} : List (Int × α) → Int → α → List (Int × α)
  | [], k, v => [(k, v)]
  | x :: m, k, v => if k = x.1 then (x.1, v) :: m else x :: mset m k v
def MEs {α : Type} (k : Kd α) (w : World) (S : Nat → Prop) : List MapEntry → List (Int × α) → Prop
  | [], [] => True
  | e :: es, x :: m => e.key = .int .i64 x.1 ∧ k.V w S x.2 e.val ∧ MEs k w S es m
  | _, _ => False
theorem MEs.frame {α : Type} {k : Kd α} {w w' : World} {S S' : Nat → Prop} (h : ∀ b, S b → S' b ∧ w'.heap[b]? = w.heap[b]?) : ∀ {es m}, MEs k w S es m → MEs k w' S' es m
  | [], [], _ => trivial
  | _ :: _, _ :: _, hm => ⟨hm.1, Kd.V_frame h hm.2.1, MEs.frame h hm.2.2⟩
  | [], _ :: _, hm => hm.elim
  | _ :: _, [], hm => hm.elim
theorem MEs.len {α : Type} {k : Kd α} {w : World} {S : Nat → Prop} : ∀ {es m}, MEs k w S es m → es.length = m.length
  | [], [], _ => rfl
  | _ :: _, _ :: _, hm => by simp [MEs.len hm.2.2]
  | [], _ :: _, hm => hm.elim
  | _ :: _, [], hm => hm.elim
structure Mp {α : Type} (k : Kd α) (w : World) (S : Nat → Prop) (m : List (Int × α)) (es : List MapEntry) (c : Nat) : Prop where
  e : MEs k w S es m
  n : (m.map (·.1)).Nodup
  b : (es.map (·.born)).Nodup
  c : ∀ x ∈ es, x.born < c
theorem Mp.frame {α : Type} {k : Kd α} {w w' : World} {S S' : Nat → Prop} {m es c} (h : ∀ b, S b → S' b ∧ w'.heap[b]? = w.heap[b]?) (hm : Mp k w S m es c) : Mp k w' S' m es c := ⟨hm.e.frame h, hm.n, hm.b, hm.c⟩
def kMap {α : Type} (k : Kd α) : Kd (List (Int × α)) where
  sz := 1
  by_ := 8
  st := false
  ok := fun _ => False
  K := fun w S m cs => (m = [] ∧ cs = [.map none]) ∨ ∃ g es c, cs = [.map (some g)] ∧ S g ∧ w.heap[g]? = some (.map es c) ∧ Mp k w S m es.toList c
  z := []
  zc := [.map none]
  zk := fun _ _ => .inl ⟨rfl, rfl⟩
  s1 := fun _ => rfl
  len := fun h => by rcases h with ⟨_, e⟩ | ⟨g, es, c, e, _⟩ <;> rw [e] <;> rfl
  one := fun h => by rcases h with ⟨_, e⟩ | ⟨g, es, c, e, _⟩ <;> rw [e] <;> simp [Value.oneCell']
  frame := fun h hk => by
    rcases hk with hk | ⟨g, es, c, e, hs, hg, hm⟩
    · exact .inl hk
    · exact .inr ⟨g, es, c, e, (h g hs).1, (h g hs).2.trans hg, hm.frame h⟩
def mown (g : Nat) : TV := ⟨fun _ v => v = .map (some g), fun _ h => h⟩
def mapx {α : Type} (k : Kd α) (m : List (Int × α)) : BX := ⟨fun p o => ∃ es c, o = .map es c ∧ Mp k p.w p.S m es.toList c, False, fun hl h => by obtain ⟨es, c, e, h⟩ := h; exact ⟨es, c, e, h.frame hl⟩⟩
def mapy {α : Type} (k : Kd α) (m : List (Int × α)) (i : Int) (s : Nat) : BX := ⟨fun p o => ∃ es c, o = .map es c ∧ Mp k p.w p.S (mset m i ((mget m i).getD k.z)) es.toList c ∧ ∃ (j : Nat) (e : MapEntry), es.toList[j]? = some e ∧ e.key = .int .i64 i ∧ e.born = s, False,
  fun hl h => by obtain ⟨es, c, e, h, hh⟩ := h; exact ⟨es, c, e, h.frame hl, hh⟩⟩
def maB (P : Program) (t e : TypeId) : Bool := match P.underlying t with | some (.map kt e') => Nat.beq e' e && (match P.underlying kt with | some (.int .i64) => true | _ => false) | _ => false
theorem maB_spec {P : Program} {t e : TypeId} (h : maB P t e = true) : ∃ kt, P.underlying t = some (.map kt e) ∧ P.underlying kt = some (.int .i64) := by
  unfold maB at h
  split at h
  · rename_i kt e' hu
    simp only [Bool.and_eq_true] at h
    obtain ⟨h1, h2⟩ := h
    have := Nat.eq_of_beq_eq_true h1
    subst this
    split at h2
    · rename_i hk; exact ⟨kt, hu, hk⟩
    · cases h2
  · cases h
theorem mset_none {α : Type} : ∀ (m : List (Int × α)) (k : Int) (v : α), mget m k = none → mset m k v = m ++ [(k, v)]
  | [], k, v, h => rfl
  | x :: m, k, v, h => by
    by_cases hk : k = x.1
    · simp [mget, hk] at h
    · simp [mget, hk] at h; simp [mset, hk, mset_none m k v h]
theorem mget_none {α : Type} : ∀ {m : List (Int × α)} {k : Int}, mget m k = none → k ∉ m.map (·.1)
  | [], k, h => by simp
  | x :: m, k, h => by
    by_cases hk : k = x.1
    · simp [mget, hk] at h
    · simp [mget, hk] at h
      simp only [List.map_cons, List.mem_cons, not_or]
      exact ⟨hk, mget_none h⟩
theorem find_now {α : Type} {k : Kd α} {w : World} {S : Nat → Prop} (key : Int) : ∀ {es : List MapEntry} {m : List (Int × α)} (i : Nat), MEs k w S es m →
    (mget m key = none ∧ Instr.findNow (.int .i64) (.int .i64 key) es i = some none) ∨
    ∃ j e x, Instr.findNow (.int .i64) (.int .i64 key) es i = some (some (i + j, e.val)) ∧ es[j]? = some e ∧ e.key = .int .i64 key ∧ mget m key = some x ∧ k.V w S x e.val ∧
      ∀ v u, k.V w S v u → MEs k w S (es.modify j fun e => { e with key := .int .i64 key, val := u }) (mset m key v)
  | [], [], i, _ => .inl ⟨rfl, rfl⟩
  | e :: es, x :: m, i, h => by
    obtain ⟨h1, h2, h3⟩ := h
    by_cases hk : key = x.1
    · refine .inr ⟨0, e, x.2, ?_, rfl, by rw [h1, hk], by simp [mget, hk], h2, fun v u hv => ?_⟩
      · simp [Instr.findNow, Instr.sameNow, h1, hk]
      · subst hk
        simp only [List.modify_zero_cons, mset, if_true]
        exact ⟨rfl, hv, h3⟩
    · have hs : Instr.sameNow (.int .i64) (.int .i64 key) e.key = some false := by simp [Instr.sameNow, h1, hk]
      rcases find_now key (i + 1) h3 with ⟨g1, g2⟩ | ⟨j, e', y, g1, g2, g3, g4, g5, g6⟩
      · exact .inl ⟨by simp [mget, hk, g1], by simp [Instr.findNow, hs, g2]⟩
      · refine .inr ⟨j + 1, e', y, by simp [Instr.findNow, hs, g1]; omega, by simpa using g2, g3, by simp [mget, hk, g4], g5, fun v u hv => ?_⟩
        simp only [List.modify_succ_cons, mset, hk, if_false]
        exact ⟨h1, h2, g6 v u hv⟩
  | [], _ :: _, _, h => h.elim
  | _ :: _, [], _, h => h.elim
theorem mes_snoc {α : Type} {k : Kd α} {w : World} {S : Nat → Prop} {e : MapEntry} {x : Int × α} (h1 : e.key = .int .i64 x.1) (h2 : k.V w S x.2 e.val) : ∀ {es m}, MEs k w S es m → MEs k w S (es ++ [e]) (m ++ [x])
  | [], [], _ => ⟨h1, h2, trivial⟩
  | _ :: _, _ :: _, h => ⟨h.1, h.2.1, mes_snoc h1 h2 h.2.2⟩
  | [], _ :: _, h => h.elim
  | _ :: _, [], h => h.elim
theorem mset_keys {α : Type} : ∀ (m : List (Int × α)) (k : Int) (v : α), (mget m k).isSome = true → (mset m k v).map (·.1) = m.map (·.1)
  | [], k, v, h => by simp [mget] at h
  | x :: m, k, v, h => by
    by_cases hk : k = x.1
    · simp [mset, hk]
    · simp [mget, hk] at h; simp [mset, hk, mset_keys m k v h]
theorem born_modify (f : MapEntry → MapEntry) (hf : ∀ e, (f e).born = e.born) : ∀ (es : List MapEntry) (j : Nat), (es.modify j f).map (·.born) = es.map (·.born)
  | [], j => by simp
  | e :: es, 0 => by simp [hf]
  | e :: es, j + 1 => by simp [born_modify f hf es j]
theorem Mp.set {α : Type} {k : Kd α} {w : World} {S : Nat → Prop} {m : List (Int × α)} {es : List MapEntry} {c : Nat} (h : Mp k w S m es c) {key : Int} {v : α} {u : Value} {j : Nat} (hm : (mget m key).isSome = true) (f : MapEntry → MapEntry) (hf : ∀ e, (f e).born = e.born)
    (hh : MEs k w S (es.modify j f) (mset m key v)) : Mp k w S (mset m key v) (es.modify j f) c :=
  ⟨hh, by rw [mset_keys m key v hm]; exact h.n, by rw [born_modify f hf]; exact h.b, fun x hx => by
    have : x.born ∈ (es.modify j f).map (·.born) := List.mem_map_of_mem hx
    rw [born_modify f hf] at this
    obtain ⟨e, he, hb⟩ := List.mem_map.1 this
    rw [← hb]; exact h.c e he⟩
theorem Mp.add {α : Type} {k : Kd α} {w : World} {S : Nat → Prop} {m : List (Int × α)} {es : List MapEntry} {c : Nat} (h : Mp k w S m es c) {key : Int} {v : α} {u : Value} (hm : mget m key = none) (hu : k.V w S v u) : Mp k w S (mset m key v) (es ++ [⟨.int .i64 key, u, c⟩]) (c + 1) := by
  rw [mset_none m key v hm]
  refine ⟨mes_snoc rfl hu h.e, ?_, ?_, fun x hx => ?_⟩
  · rw [List.map_append]
    refine List.nodup_append.2 ⟨h.n, by simp, fun a ha b hb e => ?_⟩
    simp at hb
    subst hb; subst e
    exact mget_none hm ha
  · rw [List.map_append]
    refine List.nodup_append.2 ⟨h.b, by simp, fun a ha b hb e => ?_⟩
    simp at hb
    subst hb; subst e
    obtain ⟨x, hx, hb⟩ := List.mem_map.1 ha
    have := h.c x hx
    omega
  · rcases List.mem_append.1 hx with hx | hx
    · exact Nat.lt_succ_of_lt (h.c x hx)
    · simp at hx; subst hx; exact Nat.lt_succ_self _
theorem run_find {P : Program} {kt : TypeId} {key : Int} {es : List MapEntry} {r : Option (Nat × Value)} (hk : P.underlying kt = some (.int .i64)) (h : Instr.findNow (.int .i64) (.int .i64 key) es 0 = some r) (w : World) : (Instr.findKey kt (.int .i64 key) es).run P w = .ok r w := Go.MapKept.run_findKey hk h
theorem run_chk {P : Program} {kt : TypeId} {key : Int} (hk : P.underlying kt = some (.int .i64)) (b : Bool) (w : World) : (Instr.checkKey b 10000 kt (.int .i64 key)).run P w = .ok () w := by
  show (Instr.checkKey b (9999 + 1) kt (.int .i64 key)).run P w = _
  unfold Instr.checkKey
  simp [run_underlying hk]
theorem run_zero {P : Program} {α : Type} {k : Kd α} {e : TypeId} (hz : Tz P e k) (w : World) : (zeroValue e).run P w = .ok (k.mk' k.zc) w := by
  unfold Tz at hz
  cases hi : P.info? e with
  | none => simp [hi] at hz
  | some ti => simp [hi] at hz; simp [zeroValue, typeInfo, hi, hz]
theorem run_lookup {P : Program} {α : Type} {k : Kd α} {t e : TypeId} (ht : maB P t e = true) (hz : Tz P e k) {p : World} {S : Nat → Prop} {m : List (Int × α)} {es : Array MapEntry} {c g : Nat} (hm : Mp k p S m es.toList c) (i : Int) (ok : Bool) :
    ∃ v, k.V p S ((mget m i).getD k.z) v ∧ ∀ w, w.heap[g]? = some (.map es c) → (Instr.lookup t (.map (some g)) (.int .i64 i) ok).run P w = .ok (if ok then .tuple #[v, .bool (mget m i).isSome] else v) w := by
  obtain ⟨kt, hu, hk⟩ := maB_spec ht
  rcases find_now i 0 hm.e with ⟨g1, g2⟩ | ⟨j, en, x, g1, g2, g3, g4, g5, g6⟩
  · refine ⟨k.mk' k.zc, by rw [g1]; exact Kd.V_mk (k.zk _ _), fun w hw => ?_⟩
    simp [Instr.lookup, run_underlying hu, Go.MapKept.run_getObj_map hw, run_chk hk, run_find hk g2, run_zero hz, g1]
  · refine ⟨en.val, by rw [g4]; exact g5, fun w hw => ?_⟩
    simp [Instr.lookup, run_underlying hu, Go.MapKept.run_getObj_map hw, run_chk hk, run_find hk g1, g4]
section
variable {P : Program} {ρ : Type} {z : Zt} {n : Nat} {T : Slots} {B : Boxes} {ops l : List Oper} {Φ : Option ρ} {Q : Kont ρ} {ty t : TypeId} {pos : String} {af : Array Edge} {gd : Option (Nat × Bool)} {d : Nat}
theorem St.setObj {p : Pt} {a : Act} (hs : St z p n T B a) {i g : Nat} {bx bx' : BX} (hi : B[i]? = some (some g, bx)) {o : Obj} (hb : ∀ q : Pt, p.le q → bx'.h q o) :
    ∃ q : Pt, q.w = { p.w with heap := p.w.heap.setIfInBounds g o } ∧ p.le q ∧ St z q n T (B.set i (some g, bx')) a := by
  obtain ⟨n1, n2, o0, hg, _⟩ := hs.ow g bx (List.mem_of_getElem? hi)
  have hgl := blk_lt hg
  have far : ∀ b, b ≠ g → (p.w.heap.setIfInBounds g o)[b]? = p.w.heap[b]? := fun b hb => Array.getElem?_setIfInBounds_ne (Ne.symm hb)
  have hle : p.le ⟨{ p.w with heap := p.w.heap.setIfInBounds g o }, p.S, fun b hb => by simpa using p.lt b hb⟩ := fun b hb => ⟨hb, far b (fun e => n1 (e ▸ hb))⟩
  have hlt := (List.getElem?_eq_some_iff.1 hi)
  refine ⟨⟨{ p.w with heap := p.w.heap.setIfInBounds g o }, p.S, fun b hb => by simpa using p.lt b hb⟩, rfl, hle, hs.go hle ?_ hs.su ?_ ?_ ?_⟩
  · exact ⟨hs.ex.os, hs.ex.tape, hs.ex.output, by simpa using hs.ex.size, fun b hb hM => by
      refine (far b ?_).trans (hs.ex.block b hb hM)
      rintro rfl; rcases n2 with h | h; omega; exact hM h⟩
  · intro g' b' hm
    obtain ⟨j, hj⟩ := List.mem_iff_getElem?.1 hm
    by_cases hij : i = j
    · subst hij
      rw [List.getElem?_set_self hlt.1] at hj
      injection hj with hj
      injection hj with e1 e2
      injection e1 with e1
      subst e1; subst e2
      exact ⟨n1, n2, o, by simp [hgl], hb _ hle⟩
    · rw [List.getElem?_set_ne hij] at hj
      obtain ⟨h1, h2, o', h3, h4⟩ := hs.ow g' b' (List.mem_of_getElem? hj)
      have hne : g' ≠ g := fun e => by subst e; exact hij (nodup_at hs.nd hi hj)
      exact ⟨h1, h2, o', (far g' hne).trans h3, b'.up hle h4⟩
  · intro b hm
    obtain ⟨j, hj⟩ := List.mem_iff_getElem?.1 hm
    by_cases hij : i = j
    · subst hij
      rw [List.getElem?_set_self hlt.1] at hj
      injection hj with hj
      injection hj with e1 e2
      cases e1
    · rw [List.getElem?_set_ne hij] at hj
      exact hs.on b (List.mem_of_getElem? hj)
  · have e : (B.set i (some g, bx')).filterMap (·.1) = B.filterMap (·.1) := nodup_set hi
    rw [e]; exact hs.nd
theorem ev_mnil {α : Type} (k : Kd α) : Ev T (.const (.map none)) (rd (kMap k) []) := fun _ _ _ => .inl ⟨rfl, rfl⟩
theorem e_mkmap {α : Type} (k : Kd α) {rs : Option Operand} (hr : rs = none) (hd : Nat.ble (d + 1) n = true) : EO P z n T B ⟨some d, .makeMap t rs, ty, pos, af, gd⟩ (fun q a => ∃ g, St z q n ((d, mown g) :: T) ((some g, mapx k []) :: B) a) := fun p a hs K hK => by
  subst hr
  obtain ⟨q, e, hle, he, hq⟩ := hs.new (.map #[] 0) (bx := mapx k []) (fun q hle => ⟨_, _, rfl, trivial, by simp, by simp, fun x hx => by simp at hx⟩)
  have := hK q (a.put (some d) (.map (some p.w.heap.size))) ⟨_, hq.put (Nat.le_of_ble_eq_true hd) rfl⟩ he
  rw [e] at this
  simpa [Oper.wp, execOp, Instr.makeMap, Oper.upon] using this
theorem l_mkmap {α : Type} (k : Kd α) {rs : Option Operand} (hr : rs = none) (hd : Nat.ble (d + 1) n = true) (hk : ∀ g, JL P z n ops ((d, mown g) :: T) ((some g, mapx k []) :: B) l Φ Q) : JL P z n ops T B (⟨some d, .makeMap t rs, ty, pos, af, none⟩ :: l) Φ Q :=
  l_so trivial (e_mkmap k hr hd).so fun r hr q a ⟨g, hs⟩ => hk g r hr q a hs
theorem po_mlk {α : Type} {k : Kd α} {m : List (Int × α)} {e : TypeId} {x y : Operand} {g : Nat} {i : Int} (j : Nat) (h : Ev T x (mown g)) (hj : B[j]? = some (some g, mapx k m)) (hy : Ev T y (rd kInt i)) (ht : maB P t e = true) (hz : Tz P e k) : PO P z n T B (.lookup t x y false) (rd k ((mget m i).getD k.z)) := fun p a hs => by
  have h1 : a.eval x = .map (some g) := hs.ev h
  have h2 := ev_num (hs.ev hy)
  obtain ⟨_, _, o, h3, es, c, rfl, hm⟩ := hs.ow g _ (List.mem_of_getElem? hj)
  obtain ⟨v, hv, hr⟩ := run_lookup (g := g) ht hz hm i false
  exact ⟨v, hv, fun o w' ho he => by simp [execOp, ho, h1, h2, hr w' (he.blk h3)]⟩
theorem run_lookup_nil {α : Type} {k : Kd α} {e : TypeId} (ht : maB P t e = true) (hz : Tz P e k) (i : Int) (ok : Bool) (w : World) : (Instr.lookup t (.map none) (.int .i64 i) ok).run P w = .ok (if ok then .tuple #[k.mk' k.zc, .bool false] else k.mk' k.zc) w := by
  obtain ⟨kt, hu, hk⟩ := maB_spec ht
  simp [Instr.lookup, run_underlying hu, run_chk hk, run_find hk (show Instr.findNow (.int .i64) (.int .i64 i) [] 0 = some none from rfl), run_zero hz]
theorem po_mrk {α : Type} {k : Kd α} {m : List (Int × α)} {e : TypeId} {x y : Operand} {i : Int} (h : Ev T x (rd (kMap k) m)) (hy : Ev T y (rd kInt i)) (ht : maB P t e = true) (hz : Tz P e k) : PO P z n T B (.lookup t x y false) (rd k ((mget m i).getD k.z)) := fun p a hs => by
  have h1 := hs.ev h
  have h2 := ev_num (hs.ev hy)
  rcases h1 with ⟨rfl, h1⟩ | ⟨g, es, c, h1, hS, h3, hm⟩
  · have h1 : a.eval x = .map none := by simpa using h1
    exact ⟨k.mk' k.zc, Kd.V_mk (k.zk _ _), fun o w' ho he => by simp [execOp, ho, h1, h2, run_lookup_nil ht hz]⟩
  · have h1 : a.eval x = .map (some g) := by simpa using h1
    obtain ⟨v, hv, hr⟩ := run_lookup (g := g) ht hz hm i false
    exact ⟨v, hv, fun o w' ho he => by simp [execOp, ho, h1, h2, hr w' (he.blk h3)]⟩
theorem po_mlen {α : Type} {k : Kd α} {m : List (Int × α)} {x : Operand} {e g : Nat} (j : Nat) (h : Ev T x (mown g)) (hj : B[j]? = some (some g, mapx k m)) (ht : maB P t e = true) : PO P z n T B (.call ⟨.builtin .len, #[x], #[t]⟩) (rd kInt m.length) := fun p a hs => by
  have h1 : a.eval x = .map (some g) := hs.ev h
  obtain ⟨_, _, o, h3, es, c, rfl, hm⟩ := hs.ow g _ (List.mem_of_getElem? hj)
  obtain ⟨kt, hu, hk⟩ := maB_spec ht
  refine ⟨.int .i64 m.length, rfl, fun o w' ho he => ?_⟩
  have hl : es.size = m.length := by rw [← hm.e.len]; simp
  simp [execOp, ho, h1, resolve, invoke, builtin, Builtin.len_, run_underlying hu, Go.MapKept.run_getObj_map (he.blk h3), goInt, hl]
theorem s_mset {α : Type} {k : Kd α} {m : List (Int × α)} {e : TypeId} {x y u : Operand} {g : Nat} {i : Int} {v : α} (j : Nat) (h : Ev T x (mown g)) (hj : B[j]? = some (some g, mapx k m)) (hy : Ev T y (rd kInt i)) (hv : Ev T u (rd k v)) (ht : maB P t e = true) :
    SO P z n T B ⟨none, .mapUpdate t x y u, ty, pos, af, gd⟩ (fun q a => St z q n T (B.set j (some g, mapx k (mset m i v))) a) := fun p a hs K hK => by
  have h1 : a.eval x = .map (some g) := hs.ev h
  have h2 := ev_num (hs.ev hy)
  have h4 : k.V p.w p.S v (a.eval u) := hs.ev hv
  obtain ⟨_, _, o, h3, es, c, rfl, hm⟩ := hs.ow g _ (List.mem_of_getElem? hj)
  obtain ⟨kt, hu, hk⟩ := maB_spec ht
  rcases find_now i 0 hm.e with ⟨g1, g2⟩ | ⟨jj, en, x', g1, g2, g3, g4, g5, g6⟩
  · obtain ⟨q, e', hle, hq⟩ := hs.setObj hj (o := .map (es.push ⟨.int .i64 i, a.eval u, c⟩) (c + 1)) (bx' := mapx k (mset m i v)) (fun q hle => ⟨_, _, rfl, by
      have := (hm.frame hle).add g1 (Kd.V_frame hle h4)
      simpa using this⟩)
    have := hK q (a.put none undef) hq
    rw [e'] at this
    simpa [Oper.wp, execOp, Instr.mapUpdate, run_underlying hu, h1, h2, Go.MapKept.run_getObj_map h3, run_chk hk, run_find hk g2, Go.MapKept.run_setObj_map _ h3, Oper.upon] using this
  · have hkey : ((es[jj]?).map (·.key)).getD (.int .i64 i) = .int .i64 i := by
      have : es[jj]? = some en := by simpa using g2
      simp [this, g3]
    have hst : ∀ w : World, (Instr.keyThatStays (.int .i64 i) (.int .i64 i)).run P w = .ok (.int .i64 i) w := fun w => by simp [Instr.keyThatStays, Instr.sameBits]
    obtain ⟨q, e', hle, hq⟩ := hs.setObj hj (o := .map (es.modify jj fun e => { e with key := .int .i64 i, val := a.eval u }) c) (bx' := mapx k (mset m i v)) (fun q hle => ⟨_, _, rfl, by
      have := (hm.frame hle).set (v := v) (u := a.eval u) (j := jj) (by simp [g4]) (fun e => { e with key := .int .i64 i, val := a.eval u }) (fun _ => rfl) ((g6 v (a.eval u) h4).frame hle)
      simpa using this⟩)
    have := hK q (a.put none undef) hq
    rw [e'] at this
    rw [Nat.zero_add] at g1
    simpa [Oper.wp, execOp, Instr.mapUpdate, run_underlying hu, h1, h2, Go.MapKept.run_getObj_map h3, run_chk hk, run_find hk g1, hkey, hst, Go.MapKept.run_setObj_map _ h3, Oper.upon] using this
theorem l_mset {α : Type} {k : Kd α} {m : List (Int × α)} {e : TypeId} {x y u : Operand} {g : Nat} {i : Int} {v : α} (j : Nat) (h : Ev T x (mown g)) (hy : Ev T y (rd kInt i)) (hv : Ev T u (rd k v)) (hj : B[j]? = some (some g, mapx k m)) (ht : maB P t e = true)
    (hk : JL P z n ops T (B.set j (some g, mapx k (mset m i v))) l Φ Q) : JL P z n ops T B (⟨none, .mapUpdate t x y u, ty, pos, af, none⟩ :: l) Φ Q :=
  l_so trivial (s_mset j h hj hy hv ht) fun r hr q a hs => hk r hr q a hs
theorem w_mset {α : Type} {k : Kd α} {m : List (Int × α)} {e : TypeId} {x y u : Operand} {g : Nat} {i : Int} {v : α} {fo sk ord : List Nat} {q : Nat} (j : Nat) (ho : ops[q]? = some ⟨none, .mapUpdate t x y u, ty, pos, af, none⟩) (hf : inL fo q = true) (hsk : inL sk q = true) (h : Ev T x (mown g)) (hy : Ev T y (rd kInt i)) (hv : Ev T u (rd k v)) (hj : B[j]? = some (some g, mapx k m)) (ht : maB P t e = true)
    (hk : JW P z n ops fo sk T (B.set j (some g, mapx k (mset m i v))) ord Φ Q) : JW P z n ops fo sk T B (q :: ord) Φ Q :=
  w_so ho hf hsk trivial (s_mset j h hj hy hv ht) fun r hr q a hs => hk r hr q a hs
end
end Go.Proofs.YtmnmcobpfpkibaaGreatDoor
namespace Go.Proofs.YtmnmcobpfpkibaaGreatDoor
open Go.RowKit
set_option linter.unusedVariables false
def inA (n : Nat) (i : Int) : Option Unit := if 0 ≤ i ∧ i < n then some () else none
def agt {α : Type} (z : α) (xs : List α) (i : Int) : α := xs.getD i.toNat z
def aset {α : Type} (xs : List α) (i : Int) (v : α) : List α := xs.set i.toNat v
def kArr {α : Type} (k : Kd α) (len b : Nat) : Kd (List α) where
  sz := len * k.sz
  by_ := b
  st := true
  ok := fun l => l.length = len ∧ ∀ x ∈ l, k.ok x
  K := fun w S xs cs => xs.length = len ∧ k.R w S xs cs
  z := List.replicate len k.z
  zc := (List.replicate len k.zc).flatten
  zk := fun w S => ⟨by simp, zeros_R len⟩
  s1 := fun h => by cases h
  len := fun h => by rw [Kd.R_len h.2, h.1]
  one := fun h => Kd.R_one h.2
  frame := fun h hk => ⟨hk.1, Kd.R_frame h hk.2⟩
def arB (P : Program) (t : TypeId) (len : Nat) {α : Type} (k : Kd α) : Bool :=
  match P.underlying t with
  | some (.array n e) => Nat.beq n len && tyB P e k
  | _ => false
section
variable {P : Program} {ρ : Type} {z : Zt} {n : Nat} {T : Slots} {B : Boxes} {ops l : List Oper} {Φ : Option ρ} {Q : Kont ρ} {ty t : TypeId} {pos : String} {af : Array Edge} {gd : Option (Nat × Bool)} {d : Nat}
end
end Go.Proofs.YtmnmcobpfpkibaaGreatDoor
namespace Go.Proofs.YtmnmcobpfpkibaaGreatDoor
open Go.RowKit
set_option linter.unusedVariables false
abbrev Hd := Nat × Option Nat × Nat
def Hd.v (h : Hd) : Value := .slice (h.2.1.map fun g => ⟨g, 0, none⟩) h.1 h.2.2
def kRaw {α : Type} (k : Kd α) (off : Nat) (hz : k.zc[off]? = some (.slice none 0 0)) : Kd (α × Hd) where
  sz := k.sz
  by_ := k.by_
  st := true
  ok := fun _ => False
  K := fun w S x cs => ∃ l r, cs = l ++ x.2.v :: r ∧ l.length = off ∧ k.K w S x.1 (l ++ .slice none 0 0 :: r)
  z := (k.z, 0, none, 0)
  zc := k.zc
  zk := fun w S => by
    have h := List.getElem?_eq_some_iff.1 hz
    have h1 := h.1
    refine ⟨k.zc.take off, k.zc.drop (off + 1), ?_, by simp; omega, ?_⟩
    · show k.zc = k.zc.take off ++ .slice none 0 0 :: k.zc.drop (off + 1)
      rw [← h.2, ← List.drop_eq_getElem_cons h.1, List.take_append_drop]
    · rw [← h.2, ← List.drop_eq_getElem_cons h.1, List.take_append_drop]; exact k.zk w S
  s1 := fun h => by cases h
  len := fun h => by obtain ⟨l, r, e, h1, h2⟩ := h; have := k.len h2; rw [e]; simpa using this
  one := fun h => by
    obtain ⟨l, r, e, h1, h2⟩ := h
    intro v hv
    rw [e] at hv
    have := k.one h2
    rcases List.mem_append.1 hv with hv | hv
    · exact this v (by simp [hv])
    · rcases List.mem_cons.1 hv with rfl | hv
      · rfl
      · exact this v (by simp [hv])
  frame := fun h hk => by obtain ⟨l, r, e, h1, h2⟩ := hk; exact ⟨l, r, e, h1, k.frame h h2⟩
theorem Fld.raw {α β : Type} {k : Kd α} {o off : Nat} {l : Kd β} {get : α → β} {set : α → β → α} (hz : k.zc[off]? = some (.slice none 0 0)) (f : Fld k o l get set) (hd : (Nat.ble (o + l.sz) off || Nat.ble (off + 1) o) = true) :
    Fld (kRaw k off hz) o l (fun x => get x.1) (fun x y => (set x.1 y, x.2)) where
  bd := f.bd
  g := fun {w S x cs} h => by
    obtain ⟨a, r, rfl, h1, h2⟩ := h
    have h3 := f.g h2
    have hb := f.bd
    have e : ((a ++ x.2.v :: r).drop o).take l.sz = ((a ++ .slice none 0 0 :: r).drop o).take l.sz := by
      simp only [Bool.or_eq_true] at hd
      rcases hd with hd | hd
      · have hd := Nat.le_of_ble_eq_true hd
        rw [List.drop_append_of_le_length (by omega), List.drop_append_of_le_length (by omega), List.take_append_of_le_length (by simp; omega), List.take_append_of_le_length (by simp; omega)]
      · have hd := Nat.le_of_ble_eq_true hd
        obtain ⟨m, rfl⟩ : ∃ m, o = a.length + (m + 1) := ⟨o - a.length - 1, by omega⟩
        simp [← List.drop_drop]
    rw [e]; exact h3
  s := fun {w S x y cs c} h h' => by
    obtain ⟨a, r, rfl, h1, h2⟩ := h
    have h3 := f.s h2 h'
    have hb := f.bd
    have hc := l.len h'
    have hl := k.len h2
    simp only [List.length_append, List.length_cons] at hl
    simp only [Bool.or_eq_true] at hd
    rcases hd with hd | hd
    · have hd := Nat.le_of_ble_eq_true hd
      refine ⟨a.take o ++ c ++ a.drop (o + l.sz), r, ?_, by simp; omega, ?_⟩
      · rw [List.take_append_of_le_length (by omega), List.drop_append_of_le_length (by omega)]
        simp
      · rw [List.take_append_of_le_length (by omega), List.drop_append_of_le_length (by omega)] at h3
        simpa using h3
    · have hd := Nat.le_of_ble_eq_true hd
      obtain ⟨m, rfl⟩ : ∃ m, o = a.length + (m + 1) := ⟨o - a.length - 1, by omega⟩
      refine ⟨a, r.take m ++ c ++ r.drop (m + l.sz), ?_, h1, ?_⟩
      · rw [List.take_append, List.take_of_length_le (by omega), show a.length + (m + 1) - a.length = m + 1 by omega, Nat.add_assoc, ← List.drop_drop, List.drop_left, show m + 1 + l.sz = (m + l.sz) + 1 by omega, List.drop_succ_cons, List.take_succ_cons]
        simp
      · rw [List.take_append, List.take_of_length_le (by omega), show a.length + (m + 1) - a.length = m + 1 by omega, Nat.add_assoc, ← List.drop_drop, List.drop_left, show m + 1 + l.sz = (m + l.sz) + 1 by omega, List.drop_succ_cons, List.take_succ_cons] at h3
        simpa using h3
structure Fst {α α' β : Type} (k : Kd α) (k' : Kd α') (o : Nat) (l : Kd β) (set : α → β → α') : Prop where
  bd : o + l.sz ≤ k.sz
  s : ∀ {w S x y cs c}, k.K w S x cs → l.K w S y c → k'.K w S (set x y) (cs.take o ++ c ++ cs.drop (o + l.sz))
theorem Fld.fst' {α β : Type} {k : Kd α} {o : Nat} {l : Kd β} {get : α → β} {set : α → β → α} (f : Fld k o l get set) : Fst k k o l set := ⟨f.bd, f.s⟩
def kHd : Kd Hd where
  sz := 1
  by_ := 24
  st := false
  ok := fun _ => False
  K := fun w S h cs => cs = [h.v]
  z := (0, none, 0)
  zc := [.slice none 0 0]
  zk := fun _ _ => rfl
  s1 := fun _ => rfl
  len := fun h => by rw [h]; rfl
  one := fun h => by rw [h]; intro v hv; simp at hv; subst hv; rfl
  frame := fun _ h => h
theorem Fst.hd {α β : Type} {k : Kd α} {off : Nat} {kx : Kd β} {get : α → List β} {sd : α → List β → α} (hz : k.zc[off]? = some (.slice none 0 0)) (f : Fld k off (kSl kx) get sd) : Fst k (kRaw k off hz) off kHd (fun x h => (sd x [], h)) where
  bd := f.bd
  s := fun {w S x y cs c} h h' => by
    have h3 := f.s h (Kd.zk (kSl kx) w S)
    have hl := k.len h
    have hb : off + 1 ≤ k.sz := f.bd
    subst h'
    exact ⟨cs.take off, cs.drop (off + 1), by simp [kHd], by simp; omega, by simpa [kSl] using h3⟩
theorem Fst.hr {α : Type} {k : Kd α} {off : Nat} (hz : k.zc[off]? = some (.slice none 0 0)) : Fst (kRaw k off hz) (kRaw k off hz) off kHd (fun x h => (x.1, h)) where
  bd := by obtain ⟨h1, _⟩ := List.getElem?_eq_some_iff.1 hz; have h2 := k.len (k.zk default (fun _ => True)); show off + 1 ≤ k.sz; omega
  s := fun {w S x y cs c} h h' => by
    obtain ⟨a, r, rfl, h1, h2⟩ := h
    subst h1; subst h'
    refine ⟨a, r, ?_, rfl, h2⟩
    simp [kHd]
theorem Fst.raw {α α' β : Type} {k : Kd α} {k' : Kd α'} {o off : Nat} {l : Kd β} {set : α → β → α'} (hz : k.zc[off]? = some (.slice none 0 0)) (hz' : k'.zc[off]? = some (.slice none 0 0)) (f : Fst k k' o l set) (hd : (Nat.ble (o + l.sz) off || Nat.ble (off + 1) o) = true) :
    Fst (kRaw k off hz) (kRaw k' off hz') o l (fun x y => (set x.1 y, x.2)) where
  bd := f.bd
  s := fun {w S x y cs c} h h' => by
    obtain ⟨a, r, rfl, h1, h2⟩ := h
    have h3 := f.s h2 h'
    have hb := f.bd
    have hc := l.len h'
    have hl := k.len h2
    simp only [List.length_append, List.length_cons] at hl
    simp only [Bool.or_eq_true] at hd
    rcases hd with hd | hd
    · have hd := Nat.le_of_ble_eq_true hd
      refine ⟨a.take o ++ c ++ a.drop (o + l.sz), r, ?_, by simp; omega, ?_⟩
      · rw [List.take_append_of_le_length (by omega), List.drop_append_of_le_length (by omega)]
        simp
      · rw [List.take_append_of_le_length (by omega), List.drop_append_of_le_length (by omega)] at h3
        simpa using h3
    · have hd := Nat.le_of_ble_eq_true hd
      obtain ⟨m, rfl⟩ : ∃ m, o = a.length + (m + 1) := ⟨o - a.length - 1, by omega⟩
      refine ⟨a, r.take m ++ c ++ r.drop (m + l.sz), ?_, h1, ?_⟩
      · rw [List.take_append, List.take_of_length_le (by omega), show a.length + (m + 1) - a.length = m + 1 by omega, Nat.add_assoc, ← List.drop_drop, List.drop_left, show m + 1 + l.sz = (m + l.sz) + 1 by omega, List.drop_succ_cons, List.take_succ_cons]
        simp
      · rw [List.take_append, List.take_of_length_le (by omega), show a.length + (m + 1) - a.length = m + 1 by omega, Nat.add_assoc, ← List.drop_drop, List.drop_left, show m + 1 + l.sz = (m + l.sz) + 1 by omega, List.drop_succ_cons, List.take_succ_cons] at h3
        simpa using h3
theorem Fst.sub {α β : Type} {k : Kd α} {o off : Nat} {l : Kd β} {get : α → β} {set : α → β → α} (hz : l.zc[off]? = some (.slice none 0 0)) (hz' : k.zc[o + off]? = some (.slice none 0 0)) (f : Fld k o l get set) : Fst k (kRaw k (o + off) hz') o (kRaw l off hz) (fun x y => (set x y.1, y.2)) where
  bd := f.bd
  s := fun {w S x y cs c} h h' => by
    obtain ⟨a, r, rfl, h1, h2⟩ := h'
    have h3 := f.s h h2
    have hl := k.len h
    have hb := f.bd
    exact ⟨cs.take o ++ a, r ++ cs.drop (o + l.sz), by simp [kRaw], by simp; omega, by simpa using h3⟩
theorem Fst.subr {α β : Type} {k : Kd α} {o off : Nat} {l : Kd β} {get : α → β} {set : α → β → α} (hz : l.zc[off]? = some (.slice none 0 0)) (hz' : k.zc[o + off]? = some (.slice none 0 0)) (f : Fld k o l get set) : Fst (kRaw k (o + off) hz') (kRaw k (o + off) hz') o (kRaw l off hz) (fun x y => (set x.1 y.1, y.2)) where
  bd := f.bd
  s := fun {w S x y cs c} h h' => by
    obtain ⟨a, r, rfl, h1, h2⟩ := h'
    obtain ⟨b, q, rfl, h4, h5⟩ := h
    have h3 := f.s h5 h2
    have hl := k.len h5
    have hll := l.len h2
    have hb := f.bd
    simp only [List.length_append, List.length_cons] at hl hll
    have e1 : (b ++ x.2.v :: q).take o = (b ++ .slice none 0 0 :: q).take o := by rw [List.take_append_of_le_length (by omega), List.take_append_of_le_length (by omega)]
    have e2 : (b ++ x.2.v :: q).drop (o + l.sz) = (b ++ .slice none 0 0 :: q).drop (o + l.sz) := by
      obtain ⟨m, hm⟩ : ∃ m, o + l.sz = b.length + (m + 1) := ⟨o + l.sz - b.length - 1, by omega⟩
      rw [hm]; simp [← List.drop_drop]
    refine ⟨(b ++ .slice none 0 0 :: q).take o ++ a, r ++ (b ++ .slice none 0 0 :: q).drop (o + l.sz), ?_, by simp; omega, by simpa using h3⟩
    show _ ++ (a ++ y.2.v :: r) ++ (b ++ x.2.v :: q).drop (o + l.sz) = _
    rw [e1, e2]
    simp
section
variable {P : Program} {ρ : Type} {z : Zt} {n : Nat} {T : Slots} {B : Boxes} {ops l : List Oper} {Φ : Option ρ} {Q : Kont ρ} {ty t : TypeId} {pos : String} {af : Array Edge} {gd : Option (Nat × Bool)} {d : Nat}
def nodB : List Nat → Bool
  | [] => true
  | i :: l => l.all (fun j => !Nat.beq i j) && nodB l
theorem St.pick {p : Pt} {a : Act} {B' : Boxes} (hs : St z p n T B a) {idx : List Nat} (hn : nodB idx = true) (hB : idx.filterMap (fun i => B[i]?) = B') : St z p n T B' a := by
  subst hB
  have mem : ∀ {x} {l : List Nat}, x ∈ l.filterMap (fun i => B[i]?) → ∃ i ∈ l, B[i]? = some x := fun h => by
    obtain ⟨i, h1, h2⟩ := List.mem_filterMap.1 h; exact ⟨i, h1, h2⟩
  refine ⟨hs.sz, hs.df, hs.tm, fun g b hg => ?_, fun b hb => ?_, ?_, hs.ex, hs.su, hs.le⟩
  · obtain ⟨i, _, hi⟩ := mem hg; exact hs.ow g b (List.mem_of_getElem? hi)
  · obtain ⟨i, _, hi⟩ := mem hb; exact hs.on b (List.mem_of_getElem? hi)
  · clear mem
    induction idx with
    | nil => simp
    | cons i l ih =>
      simp only [nodB, Bool.and_eq_true] at hn
      have ih := ih hn.2
      rw [List.filterMap_cons]
      cases hi : B[i]? with
      | none => simpa using ih
      | some b =>
        simp only []
        rw [List.filterMap_cons]
        cases hb : b.1 with
        | none => simpa using ih
        | some g =>
          simp only []
          refine List.nodup_cons.2 ⟨fun hm => ?_, ih⟩
          obtain ⟨b', hb', e⟩ := List.mem_filterMap.1 hm
          obtain ⟨j, hj, hjb⟩ := List.mem_filterMap.1 hb'
          obtain ⟨o, x⟩ := b
          obtain ⟨o', x'⟩ := b'
          simp only at hb e
          subst hb; subst e
          have := nodup_at hs.nd hi hjb
          subst this
          have := List.all_eq_true.1 hn.1 i hj
          simp at this
theorem ev_row {α : Type} {k : Kd α} {xs : List α} {o : Option Nat} {c : Nat} {x : Operand} (h : Ev T x (row k xs o c)) : Ev T x (rd kHd (xs.length, o, c)) := fun p a hs => by
  have h1 : a.eval x = .slice (o.map fun g => ⟨g, 0, none⟩) xs.length c := h p a hs
  show [a.eval x] = [Hd.v (xs.length, o, c)]
  rw [h1]; rfl
theorem s_stf {α α' β : Type} {k : Kd α} {k' : Kd α'} {l : Kd β} {y : α} {v : β} {set : α → β → α'} {x u : Operand} {g off : Nat} (i : Nat) (h : Ev T x (own g off)) (hv : Ev T u (rd l v)) (hi : B[i]? = some (some g, box k y)) (fl : Fst k k' off l set) (ht : tyB P t l = true) :
    SO P z n T B ⟨none, .store t x u, ty, pos, af, gd⟩ (fun q a => St z q n T (B.set i (some g, box k' (set y v))) a) := fun p a hs K hK => by
  have h1 : a.eval x = .pointer (some ⟨g, off, none⟩) := hs.ev h
  have hk := Kd.V_cells (hs.ev hv)
  obtain ⟨_, _, cs, tt, h3, h4⟩ := hs.box hi
  have hlen := l.len hk
  have hbd := fl.bd
  have hcs := k.len h4
  obtain ⟨q, e, hle, hq⟩ := hs.setBox hi h3 (cs' := (cs.toList.take (off + 0) ++ (a.eval u).cells.toList ++ cs.toList.drop (off + 0 + (a.eval u).cells.toList.length)).toArray) (bx' := box k' (set y v))
    (fun q hle => ⟨_, _, rfl, by rw [hlen]; exact Kd.frame _ hle (fl.s h4 hk)⟩)
  have hst := run_storeCells_at P g off tt (a.eval u).cells.toList 0 cs p.w h3 (by rw [hlen]; simp at hcs; omega) (l.one hk)
  have := hK q (a.put none undef) hq
  rw [e] at this
  have hsz := run_size (ty_size ht) p.w
  have hl2 : (a.eval u).cells.size = l.sz := by simpa using hlen
  simp only [Oper.wp, execOp, h1, Instr.storeAt, Instr.sureAddr, storeVar, Sem.run_bind, Sem.run_pure, Result.andThen_ok, hsz, hl2, ne_eq, not_true_eq_false, if_false, hst, Oper.upon]
  exact this
theorem l_stf {α α' β : Type} {k : Kd α} {k' : Kd α'} {m : Kd β} {y : α} {v : β} {set : α → β → α'} {x u : Operand} {g off : Nat} (i : Nat) (h : Ev T x (own g off)) (hv : Ev T u (rd m v)) (hi : B[i]? = some (some g, box k y)) (fl : Fst k k' off m set) (ht : tyB P t m = true)
    (hk : JL P z n ops T (B.set i (some g, box k' (set y v))) l Φ Q) : JL P z n ops T B (⟨none, .store t x u, ty, pos, af, none⟩ :: l) Φ Q :=
  l_so trivial (s_stf i h hv hi fl ht) fun r hr q a hs => hk r hr q a hs
theorem w_stf {α α' β : Type} {k : Kd α} {k' : Kd α'} {m : Kd β} {y : α} {v : β} {set : α → β → α'} {x u : Operand} {g off : Nat} {fo sk ord : List Nat} {q : Nat} (i : Nat) (ho : ops[q]? = some ⟨none, .store t x u, ty, pos, af, none⟩) (hf : inL fo q = true) (hsk : inL sk q = true) (h : Ev T x (own g off)) (hv : Ev T u (rd m v)) (hi : B[i]? = some (some g, box k y)) (fl : Fst k k' off m set) (ht : tyB P t m = true)
    (hk : JW P z n ops fo sk T (B.set i (some g, box k' (set y v))) ord Φ Q) : JW P z n ops fo sk T B (q :: ord) Φ Q :=
  w_so ho hf hsk trivial (s_stf i h hv hi fl ht) fun r hr q a hs => hk r hr q a hs
structure Hat {α : Type} (k : Kd α) (off : Nat) (get : α → Hd) : Prop where
  g : ∀ {w S x cs}, k.K w S x cs → cs[off]? = some (get x).v
theorem Hat.me {α : Type} {k : Kd α} {off : Nat} (hz : k.zc[off]? = some (.slice none 0 0)) : Hat (kRaw k off hz) off (fun x => x.2) := ⟨fun h => by obtain ⟨a, r, rfl, h1, h2⟩ := h; subst h1; simp⟩
theorem Hat.raw {α : Type} {k : Kd α} {off off' : Nat} {get : α → Hd} (hz : k.zc[off']? = some (.slice none 0 0)) (h : Hat k off get) (hne : Nat.beq off off' = false) : Hat (kRaw k off' hz) off (fun x => get x.1) := ⟨fun hk => by
  obtain ⟨a, r, rfl, h1, h2⟩ := hk
  have h3 := h.g h2
  have hne := Nat.ne_of_beq_eq_false hne
  subst h1
  rw [List.getElem?_append] at h3 ⊢
  split
  · rename_i hlt; rw [if_pos hlt] at h3; exact h3
  · rename_i hlt
    rw [if_neg hlt] at h3
    obtain ⟨m, hm⟩ : ∃ m, off - a.length = m + 1 := ⟨off - a.length - 1, by omega⟩
    rw [hm] at h3 ⊢
    simpa using h3⟩
theorem po_loh {α β : Type} {k : Kd α} {kx : Kd β} {y : α} {get : α → Hd} {xs : List β} {o : Option Nat} {c : Nat} {t : TypeId} {x : Operand} {g off : Nat} (i : Nat) (h : Ev T x (own g off)) (hi : B[i]? = some (some g, box k y)) (ha : Hat k off get) (hg : get y = (xs.length, o, c)) (ht : tyB P t kHd = true) :
    PO P z n T B (.load t x) (row kx xs o c) := fun p a hs => by
  have h1 : a.eval x = .pointer (some ⟨g, off, none⟩) := hs.ev h
  obtain ⟨_, _, cs, tt, h3, h4⟩ := hs.box hi
  have h5 := ha.g h4
  rw [hg] at h5
  have hk : kHd.K p.w p.S (xs.length, o, c) [Hd.v (xs.length, o, c)] := rfl
  refine ⟨_, rfl, fun oo w' ho he => ?_⟩
  have := run_loadK ht (w := w') hk (ad := ⟨g, off, none⟩) (fun j u hj => by
    match j, hj with
    | 0, hj =>
      simp at hj
      subst hj
      rw [add_plain, cell_of_row _ _ _ _ _ _ (he.blk h3)]
      simpa using h5)
  simp [execOp, ho, h1, Instr.loadAt, Instr.sureAddr, this, Kd.mk', kHd, Hd.v]
theorem St.unr {α β : Type} {k : Kd α} {off : Nat} {hz : k.zc[off]? = some (.slice none 0 0)} {kx : Kd β} {get : α → List β} {sd : α → List β → α} {e : TypeId} {x : α} {xs : List β} {o : Option Nat} {c : Nat} {p : Pt} {a : Act} {i j g : Nat} (hs : St z p n T B a) (hi : B[i]? = some (some g, Go.Proofs.YtmnmcobpfpkibaaGreatDoor.box (kRaw k off hz) (x, xs.length, o, c))) (f : Fld k off (kSl kx) get sd) (hj : B[j]? = some (o, Go.Proofs.YtmnmcobpfpkibaaGreatDoor.rows kx e xs c)) :
    ∃ q : Pt, q.w = p.w ∧ (kSl kx).K q.w q.S xs [Hd.v (xs.length, o, c)] ∧ St z q n T ((B.set i (some g, Go.Proofs.YtmnmcobpfpkibaaGreatDoor.box k (sd x xs))).eraseIdx j) a := by
  have hij : i ≠ j := by
    rintro rfl
    rw [hi] at hj
    injection hj with hj
    injection hj with e1 e2
    have : (Go.Proofs.YtmnmcobpfpkibaaGreatDoor.box (kRaw k off hz) (x, xs.length, o, c)).h p (.cells #[] 0 (1, 0)) = (Go.Proofs.YtmnmcobpfpkibaaGreatDoor.rows kx e xs c).h p (.cells #[] 0 (1, 0)) := by rw [e2]
    have h0 : ∀ q : Pt, ∀ ob, (Go.Proofs.YtmnmcobpfpkibaaGreatDoor.box (kRaw k off hz) (x, xs.length, o, c)).h q ob = (Go.Proofs.YtmnmcobpfpkibaaGreatDoor.rows kx e xs c).h q ob := fun q ob => by rw [e2]
    have h2 : (Go.Proofs.YtmnmcobpfpkibaaGreatDoor.box (kRaw k off hz) (x, xs.length, o, c)).nil = (Go.Proofs.YtmnmcobpfpkibaaGreatDoor.rows kx e xs c).nil := by rw [e2]
    obtain ⟨_, _, ob, hg, hb⟩ := hs.ow g _ (List.mem_of_getElem? hi)
    obtain ⟨cs, tt, rfl, hK⟩ := hb
    have hb2 : (Go.Proofs.YtmnmcobpfpkibaaGreatDoor.rows kx e xs c).h p (.cells cs tt (0, 0)) := by rw [← h0]; exact ⟨cs, tt, rfl, hK⟩
    have hb3 : (Go.Proofs.YtmnmcobpfpkibaaGreatDoor.box (kRaw k off hz) (x, xs.length, o, c)).h p (.cells cs (tt + 1) (0, 0)) := ⟨cs, tt + 1, rfl, hK⟩
    rw [h0] at hb3
    obtain ⟨_, _, q1, _⟩ := hb2
    obtain ⟨_, _, q2, _⟩ := hb3
    simp only [Obj.cells.injEq] at q1 q2
    exact Nat.succ_ne_self tt (q2.2.1.trans q1.2.1.symm)
  obtain ⟨_, _, cs0, tt, hg0, hK0⟩ := hs.box hi
  have sub1 : ∀ b, b ∈ (B.set i (some g, Go.Proofs.YtmnmcobpfpkibaaGreatDoor.box k (sd x xs))).eraseIdx j → b = (some g, Go.Proofs.YtmnmcobpfpkibaaGreatDoor.box k (sd x xs)) ∨ (∃ m, m ≠ i ∧ m ≠ j ∧ B[m]? = some b) := by
    intro b hb
    obtain ⟨m, hm⟩ := List.mem_iff_getElem?.1 hb
    rw [List.getElem?_eraseIdx] at hm
    have key : ∀ m, m ≠ j → (B.set i (some g, Go.Proofs.YtmnmcobpfpkibaaGreatDoor.box k (sd x xs)))[m]? = some b → b = (some g, Go.Proofs.YtmnmcobpfpkibaaGreatDoor.box k (sd x xs)) ∨ (∃ m, m ≠ i ∧ m ≠ j ∧ B[m]? = some b) := by
      intro m hmj hm
      by_cases h : i = m
      · subst h
        rw [List.getElem?_set_self (List.getElem?_eq_some_iff.1 hi).1] at hm
        injection hm with hm
        exact .inl hm.symm
      · rw [List.getElem?_set_ne h] at hm; exact .inr ⟨m, fun e => h e.symm, hmj, hm⟩
    split at hm
    · exact key m (by omega) hm
    · exact key (m + 1) (by omega) hm
  have hsubl : (((B.set i (some g, Go.Proofs.YtmnmcobpfpkibaaGreatDoor.box k (sd x xs))).eraseIdx j).filterMap (·.1)).Nodup := by
    refine ((List.eraseIdx_sublist _ _).filterMap _).nodup ?_
    rw [nodup_set hi]; exact hs.nd
  -- the header's cell, as a list
  have mk : ∀ (q : Pt), p.le q → (kSl kx).K q.w q.S xs [Hd.v (xs.length, o, c)] → ∃ cs t, Obj.cells cs0 tt = .cells cs t (0, 0) ∧ k.K q.w q.S (sd x xs) cs.toList := by
    intro q hle hl
    obtain ⟨a', r, e1, h1, h2⟩ := hK0
    refine ⟨cs0, tt, rfl, ?_⟩
    have h3 := f.s (k.frame hle h2) hl
    have e3 : (a' ++ Value.slice none 0 0 :: r).take off ++ [Hd.v (xs.length, o, c)] ++ (a' ++ Value.slice none 0 0 :: r).drop (off + (kSl kx).sz) = cs0.toList := by
      rw [e1]; subst h1
      simp [kSl]
    rw [e3] at h3
    exact h3
  cases o with
  | none =>
    have h0 : xs = [] ∧ c = 0 := hs.on _ (List.mem_of_getElem? hj)
    obtain ⟨rfl, rfl⟩ := h0
    refine ⟨p, rfl, Kd.zk (kSl kx) _ _, hs.sz, hs.df, hs.tm, fun g' b hb => ?_, fun b hb => ?_, hsubl, hs.ex, hs.su, hs.le⟩
    · rcases sub1 _ hb with e | ⟨m, hmi, _, hm⟩
      · injection e with e1 e2
        injection e1 with e1
        subst e1; subst e2
        obtain ⟨n1, n2, _⟩ := hs.ow g' _ (List.mem_of_getElem? hi)
        exact ⟨n1, n2, _, hg0, mk p p.le_refl (Kd.zk (kSl kx) _ _)⟩
      · exact hs.ow g' b (List.mem_of_getElem? hm)
    · rcases sub1 _ hb with e | ⟨m, hmi, _, hm⟩
      · injection e with e1 e2; cases e1
      · exact hs.on b (List.mem_of_getElem? hm)
  | some gx =>
    obtain ⟨hS, hzg, ob, hg, cs, more, rfl, hRx, hxc, hcm, hcl⟩ := hs.ow gx _ (List.mem_of_getElem? hj)
    have hle : p.le ⟨p.w, fun b => p.S b ∨ b = gx, fun b hb => by rcases hb with hb | rfl; exact p.lt b hb; exact blk_lt hg⟩ := fun b hb => ⟨.inl hb, rfl⟩
    have hkx : (kSl kx).K p.w (fun b => p.S b ∨ b = gx) xs [Hd.v (xs.length, some gx, c)] := ⟨some ⟨gx, 0, none⟩, c, rfl, hxc, by unfold maxLen at hcm; omega, fun h => (by cases h), Kd.C_row (cs := cs) (more := more) (t := e) (fr := (0, 0)) hg (.inr rfl) (Kd.R_frame hle hRx)⟩
    refine ⟨⟨p.w, fun b => p.S b ∨ b = gx, fun b hb => by rcases hb with hb | rfl; exact p.lt b hb; exact blk_lt hg⟩, rfl, hkx, hs.go hle hs.ex (fun b hb => by rcases hb with hb | rfl; exact hs.su b hb; exact .inr hzg) (fun g' b hb => ?_) (fun b hb => ?_) hsubl⟩
    · rcases sub1 _ hb with e | ⟨m, hmi, hmj, hm⟩
      · injection e with e1 e2
        injection e1 with e1
        subst e1; subst e2
        obtain ⟨n1, n2, _⟩ := hs.ow g' _ (List.mem_of_getElem? hi)
        refine ⟨fun hb => ?_, n2, _, hg0, mk _ hle hkx⟩
        rcases hb with hb | rfl
        · exact n1 hb
        · exact hij (nodup_at hs.nd hi hj)
      · obtain ⟨h3, h4, o', h5, h6⟩ := hs.ow g' b (List.mem_of_getElem? hm)
        refine ⟨fun hb => ?_, h4, o', h5, b.up hle h6⟩
        rcases hb with hb | rfl
        · exact h3 hb
        · exact hmj (nodup_at hs.nd hm hj)
    · rcases sub1 _ hb with e | ⟨m, hmi, _, hm⟩
      · injection e with e1 e2; cases e1
      · exact hs.on b (List.mem_of_getElem? hm)
theorem l_unr {α β : Type} {k : Kd α} {off : Nat} {hz : k.zc[off]? = some (.slice none 0 0)} {kx : Kd β} {get : α → List β} {sd : α → List β → α} {e : TypeId} {x : α} {xs : List β} {o : Option Nat} {c : Nat} {g : Nat} (i j : Nat) (hi : B[i]? = some (some g, box (kRaw k off hz) (x, xs.length, o, c))) (f : Fld k off (kSl kx) get sd) (hj : B[j]? = some (o, rows kx e xs c))
    (hk : JL P z n ops T ((B.set i (some g, box k (sd x xs))).eraseIdx j) l Φ Q) : JL P z n ops T B l Φ Q := fun r hr p a hs => by
  obtain ⟨q, e, _, hq⟩ := hs.unr hi f hj; rw [← e]; exact hk r hr q a hq
theorem St.unrs {α β : Type} {k : Kd α} {off : Nat} {hz : k.zc[off]? = some (.slice none 0 0)} {kx : Kd β} {get : α → List β} {sd : α → List β → α} {e : TypeId} {x : α} {xs : List β} {o : Option Nat} {c : Nat} {p : Pt} {a : Act} {s i j g : Nat} (hs : St z p n T B a) (h : look T s = some (row kx xs o c)) (hi : B[i]? = some (some g, Go.Proofs.YtmnmcobpfpkibaaGreatDoor.box (kRaw k off hz) (x, xs.length, o, c))) (f : Fld k off (kSl kx) get sd) (hj : B[j]? = some (o, Go.Proofs.YtmnmcobpfpkibaaGreatDoor.rows kx e xs c)) :
    ∃ q : Pt, q.w = p.w ∧ St z q n ((s, rd (kSl kx) xs) :: T) ((B.set i (some g, Go.Proofs.YtmnmcobpfpkibaaGreatDoor.box k (sd x xs))).eraseIdx j) a := by
  obtain ⟨v, h1, h2⟩ := hs.tm _ _ h
  have h2 : v = .slice (o.map fun g => ⟨g, 0, none⟩) xs.length c := h2
  subst h2
  obtain ⟨q, e, hk, hq⟩ := hs.unr hi f hj
  refine ⟨q, e, hq.sz, hq.df, fun m t hm => ?_, hq.ow, hq.on, hq.nd, hq.ex, hq.su, hq.le⟩
  rcases look_put hm with ⟨rfl, rfl⟩ | ⟨_, hm⟩
  · exact ⟨_, h1, hk⟩
  · exact hq.tm _ _ hm
theorem l_unrs {α β : Type} {k : Kd α} {off : Nat} {hz : k.zc[off]? = some (.slice none 0 0)} {kx : Kd β} {get : α → List β} {sd : α → List β → α} {e : TypeId} {x : α} {xs : List β} {o : Option Nat} {c : Nat} {g : Nat} (s i j : Nat) (h : look T s = some (row kx xs o c)) (hi : B[i]? = some (some g, box (kRaw k off hz) (x, xs.length, o, c))) (f : Fld k off (kSl kx) get sd) (hj : B[j]? = some (o, rows kx e xs c))
    (hk : JL P z n ops ((s, rd (kSl kx) xs) :: T) ((B.set i (some g, box k (sd x xs))).eraseIdx j) l Φ Q) : JL P z n ops T B l Φ Q := fun r hr p a hs => by
  obtain ⟨q, e, hq⟩ := hs.unrs h hi f hj; rw [← e]; exact hk r hr q a hq
theorem St.nilr {α : Type} (k : Kd α) (e : TypeId) {p : Pt} {a : Act} (hs : St z p n T B a) : St z p n T ((none, Go.Proofs.YtmnmcobpfpkibaaGreatDoor.rows k e [] 0) :: B) a := ⟨hs.sz, hs.df, hs.tm, fun g b hg => hs.ow g b (by simpa using hg), fun b hb => by
    rcases List.mem_cons.1 hb with e | hb
    · injection e with e1 e2; subst e2; exact ⟨rfl, rfl⟩
    · exact hs.on b hb, by simpa using hs.nd, hs.ex, hs.su, hs.le⟩
theorem l_nilr {α : Type} (k : Kd α) (e : TypeId) (hk : JL P z n ops T ((none, rows k e [] 0) :: B) l Φ Q) : JL P z n ops T B l Φ Q := fun r hr p a hs => hk r hr p a (hs.nilr k e)
theorem Fst.whole {α α' : Type} {k : Kd α} {k' : Kd α'} (h : Nat.beq k.sz k'.sz = true) : Fst k k' 0 k' (fun _ y => y) where
  bd := by have := Nat.eq_of_beq_eq_true h; omega
  s := fun {w S x y cs c} hk hk' => by
    have h1 := k.len hk; have h2 := k'.len hk'; have := Nat.eq_of_beq_eq_true h
    rw [List.take_zero, List.nil_append, List.drop_of_length_le (by omega), List.append_nil]; exact hk'
inductive Bldr (P : Program) (t : TypeId) (T : Slots) {α : Type} (k : Kd α) : List (Nat × Operand) → α → α → Prop
  | nil (x : α) : Bldr P t T k [] x x
  | cons {β : Type} {i : Nat} {o : Operand} {l : Kd β} {off : Nat} {set : α → β → α} {y : β} {x x' : α} {rest : List (Nat × Operand)} : plB P t i off l.sz = true → Fst k k off l set → Ev T o (rd l y) → Bldr P t T k rest (set x y) x' → Bldr P t T k ((i, o) :: rest) x x'
theorem bldr_fill {α : Type} {k : Kd α} {t : TypeId} {ps : List (Nat × Nat)} (hps : placesOf P t = some ps) {p : Pt} {a : Act} (hs : St z p n T B a) : ∀ {parts : List (Nat × Operand)} {x x' : α} {cells : Array Value}, Bldr P t T k parts x x' → k.K p.w p.S x cells.toList →
    ∃ cells', Instr.fill (ps.toArray[·]?) cells (parts.map fun (i, o) => (i, a.eval o)) = some cells' ∧ k.K p.w p.S x' cells'.toList
  | [], x, x', cells, h, hk => by cases h; exact ⟨cells, rfl, hk⟩
  | _ :: rest, x, x', cells, h, hk => by
    cases h with
    | @cons β i o l off set y _ _ _ hp fl he hr =>
      have hv := Kd.V_cells (hs.ev he)
      have hlen := l.len hv
      have hbd := fl.bd
      have hcl := k.len hk
      have hp' : ps.toArray[i]? = some (off, l.sz) := by
        unfold plB at hp
        rw [hps] at hp
        simpa using hp
      have hk2 := fl.s hk hv
      obtain ⟨cells', h1, h2⟩ := bldr_fill hps hs (cells := (cells.toList.take off ++ (a.eval o).cells.toList ++ cells.toList.drop (off + l.sz)).toArray) hr hk2
      refine ⟨cells', ?_, h2⟩
      rw [List.map_cons, fill_cons hp' (by simpa using hlen) (by simp at hcl; omega)]
      exact h1
theorem po_buildr {α : Type} (k : Kd α) {t : TypeId} {parts : List (Nat × Operand)} {x : α} (hst : k.st = true) (hz : Tz P t k) (hps : (placesOf P t).isSome = true) (h : Bldr P t T k parts k.z x) : PO P z n T B (.build t parts.toArray) (rd k x) := fun p a hs => by
  obtain ⟨ps, hps⟩ := Option.isSome_iff_exists.1 hps
  obtain ⟨cells', h1, h2⟩ := bldr_fill hps hs (cells := k.zc.toArray) h (k.zk _ _)
  have hb : P.built t (parts.map fun (i, o) => (i, a.eval o)) = some cells' := by
    unfold Tz Kd.mk' at hz
    rw [hst] at hz
    unfold placesOf at hps
    unfold Program.built
    cases hi : P.info? t with
    | none => simp [hi] at hz
    | some it =>
      split at hps
      · rename_i fs hu
        have hz' : it.zero = some (.agg k.zc.toArray) := by simpa [hi] using hz
        simp only [hu, hz', hps, Value.cells]
        exact h1
      · cases hps
  refine ⟨.agg cells', ?_, fun o w' ho _ => ?_⟩
  · show k.V _ _ _ _
    unfold Kd.V
    rw [hst]
    exact ⟨_, rfl, h2⟩
  · have := run_build (P := P) w' t (parts.map fun (i, o) => (i, a.eval o)).toArray cells' (by simpa using hb)
    simp only [execOp, ho, List.map_toArray]
    rw [Sem.run_bind, this]
    rfl
theorem St.mfz {α : Type} {k : Kd α} {m : List (Int × α)} {g : Nat} {p : Pt} {a : Act} {s i : Nat} (hs : St z p n T B a) (h : look T s = some (mown g)) (hi : B[i]? = some (some g, mapx k m)) : ∃ q : Pt, q.w = p.w ∧ St z q n ((s, rd (kMap k) m) :: T) (B.eraseIdx i) a := by
  obtain ⟨v, h1, h2⟩ := hs.tm _ _ h
  have h2 : v = .map (some g) := h2
  subst h2
  have hsub : (B.eraseIdx i).Sublist B := List.eraseIdx_sublist _ _
  obtain ⟨hS, hzg, ob, hg, es, c, rfl, hm⟩ := hs.ow g _ (List.mem_of_getElem? hi)
  have hle : p.le ⟨p.w, fun b => p.S b ∨ b = g, fun b hb => by rcases hb with hb | rfl; exact p.lt b hb; exact blk_lt hg⟩ := fun b hb => ⟨.inl hb, rfl⟩
  have hne : ∀ g' b, (some g', b) ∈ B.eraseIdx i → g' ≠ g := by
    rintro g' b hm rfl
    obtain ⟨j, hj⟩ := List.mem_iff_getElem?.1 hm
    rw [List.getElem?_eraseIdx] at hj
    split at hj
    · rename_i hlt; have := nodup_at hs.nd hi hj; omega
    · rename_i hlt; have := nodup_at hs.nd hi hj; omega
  have hs2 := hs.go (B' := B.eraseIdx i) hle hs.ex (fun b hb => by rcases hb with hb | rfl; exact hs.su b hb; exact .inr hzg) (fun g' b hm => by
    obtain ⟨h3, h4, o, h5, h6⟩ := hs.ow g' b (hsub.subset hm)
    exact ⟨fun hb => by rcases hb with hb | rfl; exact h3 hb; exact hne _ _ hm rfl, h4, o, h5, b.up hle h6⟩) (fun b hb => hs.on b (hsub.subset hb)) ((hsub.filterMap _).nodup hs.nd)
  refine ⟨⟨p.w, fun b => p.S b ∨ b = g, fun b hb => by rcases hb with hb | rfl; exact p.lt b hb; exact blk_lt hg⟩, rfl, hs2.sz, hs2.df, fun j t hj => ?_, hs2.ow, hs2.on, hs2.nd, hs2.ex, hs2.su, hs2.le⟩
  rcases look_put hj with ⟨rfl, rfl⟩ | ⟨_, hj⟩
  · exact ⟨_, h1, .inr ⟨g, es, c, rfl, .inr rfl, hg, hm.frame hle⟩⟩
  · exact hs2.tm _ _ hj
theorem x_mfz {α : Type} {k : Kd α} {m : List (Int × α)} {g : Nat} {ex : Exit} (s i : Nat) (h : look T s = some (mown g)) (hi : B[i]? = some (some g, mapx k m)) (hk : JX z n ((s, rd (kMap k) m) :: T) (B.eraseIdx i) ex Φ Q) : JX z n T B ex Φ Q := fun r hr p a hs => by
  obtain ⟨q, e, hq⟩ := hs.mfz h hi; rw [← e]; exact hk r hr q a hq
theorem l_pick {B' : Boxes} (idx : List Nat) (hn : nodB idx = true) (hB : idx.filterMap (fun i => B[i]?) = B') (h : JL P z n ops T B' l Φ Q) : JL P z n ops T B l Φ Q := fun r hr p a hs => h r hr p a (hs.pick hn hB)
theorem w_pick {B' : Boxes} {fo sk ord : List Nat} (idx : List Nat) (hn : nodB idx = true) (hB : idx.filterMap (fun i => B[i]?) = B') (h : JW P z n ops fo sk T B' ord Φ Q) : JW P z n ops fo sk T B ord Φ Q := fun r hr p a hs => h r hr p a (hs.pick hn hB)
theorem x_pick {B' : Boxes} {ex : Exit} (idx : List Nat) (hn : nodB idx = true) (hB : idx.filterMap (fun i => B[i]?) = B') (h : JX z n T B' ex Φ Q) : JX z n T B ex Φ Q := fun r hr p a hs => h r hr p a (hs.pick hn hB)
theorem l_callbg {σ η : Type} {f at_ ts} {xs : List Operand} {Bi R : Boxes} {m : Option σ} {res : σ → η → TV} {Bo : σ → η → Boxes} {K : σ → Option ρ} (g : Gd ops T gd) (hc : Cb P f ts Bi m res Bo) (hsp : Spl B Bi R) (hx : Evs T xs ts) (hd : Nat.ble (d + 1) n = true) (hk : ∀ y h, m = some y → JL P z n ops ((d, res y h) :: T) (Bo y h ++ R) l (K y) Q) :
    JL P z n ops T B (⟨some d, .call ⟨.value (.func f), xs.toArray, at_⟩, ty, pos, af, gd⟩ :: l) (m.bind K) Q :=
  l_bind fun y hy => l_so g (s_callb hy hc hsp hd hx) fun r hr q a ⟨h, hs⟩ => hk y h hy r hr q a hs
theorem w_callbg {σ η : Type} {f at_ ts} {xs : List Operand} {Bi R : Boxes} {m : Option σ} {res : σ → η → TV} {Bo : σ → η → Boxes} {K : σ → Option ρ} {fo sk ord : List Nat} {i : Nat} (ho : ops[i]? = some ⟨some d, .call ⟨.value (.func f), xs.toArray, at_⟩, ty, pos, af, gd⟩) (hf : inL fo i = true) (hsk : inL sk i = true) (g : Gd ops T gd) (hc : Cb P f ts Bi m res Bo) (hsp : Spl B Bi R) (hx : Evs T xs ts) (hd : Nat.ble (d + 1) n = true) (hk : ∀ y h, m = some y → JW P z n ops fo sk ((d, res y h) :: T) (Bo y h ++ R) ord (K y) Q) :
    JW P z n ops fo sk T B (i :: ord) (m.bind K) Q :=
  w_bind fun y hy => w_so ho hf hsk g (s_callb hy hc hsp hd hx) fun r hr q a ⟨h, hs⟩ => hk y h hy r hr q a hs
def kMref : Kd (Option Nat) where
  sz := 1
  by_ := 8
  st := false
  ok := fun _ => False
  K := fun _ _ g cs => cs = [.map g]
  z := none
  zc := [.map none]
  zk := fun _ _ => rfl
  s1 := fun _ => rfl
  len := fun h => by rw [h]; rfl
  one := fun h => by rw [h]; intro v hv; simp at hv; subst hv; rfl
  frame := fun _ h => h
theorem ev_mown {g : Nat} {x : Operand} (h : Ev T x (mown g)) : Ev T x (rd kMref (some g)) := fun p a hs => by
  have h1 : a.eval x = .map (some g) := h p a hs
  show [a.eval x] = [Value.map (some g)]
  rw [h1]
theorem po_lom {o : Op} {g : Nat} {x : Option Nat} (h : PO P z n T B o (rd kMref x)) (hx : x = some g) : PO P z n T B o (mown g) := fun p a hs => by
  subst hx
  obtain ⟨v, h1, h2⟩ := h p a hs
  have h1 : [v] = [Value.map (some g)] := h1
  have h3 : v = Value.map (some g) := by simpa using h1
  exact ⟨v, h3, h2⟩
theorem ty_raw {α : Type} {k : Kd α} {off : Nat} {hz : k.zc[off]? = some (.slice none 0 0)} (h : tyB P t k = true) (hst : k.st = true := by rfl) : tyB P t (kRaw k off hz) = true := by
  unfold tyB at *
  rw [hst] at h
  exact h
theorem cb_none {η : Type} {f : FuncId} {fn : Func} {c : Code} {ts : List TV} {Bi : Boxes} {res : ρ → η → TV} {Bo : ρ → η → Boxes} (hf : P.funcs[f]? = some fn) (hb : fn.body = some c) (hnm : (fn.name == "runtime.NumGoroutine") = false) : Cb P f ts Bi (none : Option ρ) res Bo := ⟨⟨fn, hf, by rw [hb]; rfl, hnm⟩, fun r hr => by cases hr⟩
theorem l_none {Q : Kont ρ} : JL P z n ops T B l (none : Option ρ) Q := fun r hr => by cases hr
end
end Go.Proofs.YtmnmcobpfpkibaaGreatDoor
namespace Go.Proofs.YtmnmcobpfpkibaaGreatDoor
open Go.RowKit
set_option linter.unusedVariables false
def Mf (t : TV) : Prop := ∀ p q v, t.h p v → t.h q v
def Mfk {α : Type} (k : Kd α) : Prop := ∀ w S w' S' x cs, k.K w S x cs → k.K w' S' x cs
theorem mfk_bool : Mfk kBool := fun _ _ _ _ _ _ h => h
theorem mf_k {α : Type} {k : Kd α} {x : α} (h : Mfk k) : Mf (rd k x) := fun p q v hv => by
  have hv : k.V p.w p.S x v := hv
  show k.V q.w q.S x v
  unfold Kd.V at *
  split at hv
  · obtain ⟨cs, e, hk⟩ := hv; exact ⟨cs, e, h _ _ _ _ _ _ hk⟩
  · exact h _ _ _ _ _ _ hv
def cloT (f : FuncId) (gs : List Nat) : TV := ⟨fun _ v => v = .func (.func f) #[] (gs.map fun g => Value.pointer (some ⟨g, 0, none⟩)).toArray, fun _ h => h⟩
section
variable {P : Program} {ρ : Type} {z : Zt} {n : Nat} {T : Slots} {B : Boxes} {ops l : List Oper} {Φ : Option ρ} {Q : Kont ρ} {ty t : TypeId} {pos : String} {af : Array Edge} {gd : Option (Nat × Bool)} {d : Nat}
def St.bq {p : Pt} {a : Act} (hs : St z p n T B a) : Pt := ⟨p.w, fun b => p.S b ∨ b ∈ keys B, fun b hb => by
  rcases hb with hb | hb
  · exact p.lt b hb
  · obtain ⟨x, hx⟩ := mem_keys.1 hb
    obtain ⟨_, _, o, h, _⟩ := hs.ow b x hx
    exact blk_lt h⟩
theorem St.bq_le {p : Pt} {a : Act} (hs : St z p n T B a) : p.le hs.bq := fun b hb => ⟨.inl hb, rfl⟩
def EvB (z : Zt) (n : Nat) (T : Slots) (B : Boxes) (x : Operand) (t : TV) : Prop := ∀ (p : Pt) (a : Act) (hs : St z p n T B a), t.h hs.bq (a.eval x)
theorem EvB.ev {x : Operand} {t : TV} (h : Ev T x t) : EvB z n T B x t := fun p a hs => t.up hs.bq_le (hs.ev h)
theorem EvB.row {α : Type} {k : Kd α} {e : TypeId} {xs : List α} {o : Option Nat} {c : Nat} {x : Operand} (j : Nat) (h : Ev T x (row k xs o c)) (hj : B[j]? = some (o, rows k e xs c)) : EvB z n T B x (rd (kSl k) xs) := fun p a hs => by
  have h1 : a.eval x = .slice (o.map fun g => ⟨g, 0, none⟩) xs.length c := hs.ev h
  cases o with
  | none =>
    have h0 : xs = [] ∧ c = 0 := hs.on _ (List.mem_of_getElem? hj)
    obtain ⟨rfl, rfl⟩ := h0
    exact ⟨none, 0, by rw [h1]; rfl, Nat.le_refl _, by decide, fun _ => rfl, fun i x hx => by simp at hx⟩
  | some g =>
    obtain ⟨hS, hzg, ob, hg, cs, more, rfl, hRx, hxc, hcm, hcl⟩ := hs.ow g _ (List.mem_of_getElem? hj)
    refine ⟨some ⟨g, 0, none⟩, c, by rw [h1]; rfl, hxc, by unfold maxLen at hcm; omega, fun h => (by cases h), ?_⟩
    exact Kd.C_row (cs := cs) (more := more) (t := e) (fr := (0, 0)) hg (.inr (mem_keys.2 ⟨_, List.mem_of_getElem? hj⟩)) (Kd.R_frame hs.bq_le hRx)
theorem EvB.map {α : Type} {k : Kd α} {m : List (Int × α)} {g : Nat} {x : Operand} (j : Nat) (h : Ev T x (mown g)) (hj : B[j]? = some (some g, mapx k m)) : EvB z n T B x (rd (kMap k) m) := fun p a hs => by
  have h1 : a.eval x = .map (some g) := hs.ev h
  obtain ⟨hS, hzg, ob, hg, es, c, rfl, hm⟩ := hs.ow g _ (List.mem_of_getElem? hj)
  exact .inr ⟨g, es, c, by rw [h1], .inr (mem_keys.2 ⟨_, List.mem_of_getElem? hj⟩), hg, hm.frame hs.bq_le⟩
inductive Cap (B : Boxes) : Nat → TV → Prop
  | box {α : Type} {k : Kd α} {x : α} {g : Nat} (i : Nat) : B[i]? = some (some g, box k x) → Cap B g (at_ k x)
  | map {α : Type} {k : Kd α} {m : List (Int × α)} {g gm : Nat} (i j : Nat) : B[i]? = some (some g, Go.Proofs.YtmnmcobpfpkibaaGreatDoor.box kMref (some gm)) → B[j]? = some (some gm, mapx k m) → Cap B g (at_ (kMap k) m)
theorem Cap.h {p : Pt} {a : Act} (hs : St z p n T B a) {g : Nat} {t : TV} (h : Cap B g t) : t.h hs.bq (.pointer (some ⟨g, 0, none⟩)) := by
  cases h with
  | @box α k x _ i hi =>
    obtain ⟨_, _, cs, tt, hg, hK⟩ := hs.box hi
    refine ⟨⟨g, 0, none⟩, cs.toList, rfl, .inr (mem_keys.2 ⟨_, List.mem_of_getElem? hi⟩), Kd.frame _ hs.bq_le hK, fun j u hj => ?_⟩
    show p.w.cell? _ = _
    rw [add_plain, cell_of_row _ _ _ _ _ _ hg]
    simpa using hj
  | @map α k m _ gm i j hi hj =>
    obtain ⟨_, _, cs, tt, hg, hK⟩ := hs.box hi
    obtain ⟨_, _, ob, hgm, es, c, rfl, hm⟩ := hs.ow gm _ (List.mem_of_getElem? hj)
    have hK : cs.toList = [.map (some gm)] := hK
    refine ⟨⟨g, 0, none⟩, cs.toList, rfl, .inr (mem_keys.2 ⟨_, List.mem_of_getElem? hi⟩), ?_, fun q u hq => ?_⟩
    · exact .inr ⟨gm, es, c, hK, .inr (mem_keys.2 ⟨_, List.mem_of_getElem? hj⟩), hgm, hm.frame hs.bq_le⟩
    · show p.w.cell? _ = _
      rw [add_plain, cell_of_row _ _ _ _ _ _ hg]
      simpa using hq
inductive Caps (B : Boxes) : List Nat → List TV → Prop
  | nil : Caps B [] []
  | cons {g t gs ts} : Cap B g t → Caps B gs ts → Caps B (g :: gs) (t :: ts)
theorem Caps.h {p : Pt} {a : Act} (hs : St z p n T B a) : ∀ {gs ts}, Caps B gs ts → both hs.bq ts (gs.map fun g => Value.pointer (some ⟨g, 0, none⟩))
  | _, _, .nil => trivial
  | _, _, .cons h hh => ⟨h.h hs, Caps.h hs hh⟩
theorem EvB.clo {σ β : Type} {f : FuncId} {gs : List Nat} {ts : σ → List TV} {F : σ → Option β} {res : β → TV} {caps : List TV} {x : Operand} (h : Ev T x (cloT f gs)) (x0 : σ) (hc : ∀ y, Ct P f (ts y ++ caps) (F y) res) (hcap : Caps B gs caps) : EvB z n T B x (fnv P ts F res) := fun p a hs => by
  have h1 : a.eval x = .func (.func f) #[] (gs.map fun g => Value.pointer (some ⟨g, 0, none⟩)).toArray := hs.ev h
  exact ⟨f, _, h1, (hc x0).1, fun q hq hg y vs hv r hr => (hc y).2 r hr q _ hg (both_append hv (both_up hq (hcap.h hs)))⟩
theorem po_mkc {f : FuncId} {xs : List Operand} {gs : List Nat} (hx : Evs T xs (gs.map fun g => own g 0)) : PO P z n T B (.makeFunc (.func f) #[] xs.toArray) (cloT f gs) := fun p a hs => by
  have h := hs.evs hx
  have e : xs.map a.eval = gs.map fun g => Value.pointer (some ⟨g, 0, none⟩) := by
    clear hx
    generalize hvs : xs.map a.eval = vs at h
    clear hvs
    induction gs generalizing vs with
    | nil => cases vs with | nil => rfl | cons v vs => exact h.elim
    | cons g gs ih =>
      cases vs with
      | nil => exact h.elim
      | cons v vs =>
        have h1 : v = .pointer (some ⟨g, 0, none⟩) := h.1
        rw [h1, ih vs h.2]; rfl
  exact ⟨_, rfl, fun o w' ho _ => by simp [execOp, ho, Instr.makeFunc, e]⟩
def EvBs (z : Zt) (n : Nat) (T : Slots) (B : Boxes) : List Operand → List TV → Prop
  | [], [] => True
  | x :: xs, t :: ts => EvB z n T B x t ∧ EvBs z n T B xs ts
  | _, _ => False
theorem EvBs.h {p : Pt} {a : Act} (hs : St z p n T B a) : ∀ {xs ts}, EvBs z n T B xs ts → both hs.bq ts (xs.map a.eval)
  | [], [], _ => trivial
  | _ :: _, _ :: _, hh => ⟨hh.1 p a hs, EvBs.h hs hh.2⟩
  | [], _ :: _, hh => hh.elim
  | _ :: _, [], hh => hh.elim
theorem e_callw {σ : Type} {f at_ ts} {xs : List Operand} {y : σ} {m : Option σ} {res : σ → TV} (hy : m = some y) (hc : Ct P f ts m res) (hm : Mf (res y)) (hd : Nat.ble (d + 1) n = true) (hx : EvBs z n T B xs ts) :
    EO P z n T B ⟨some d, .call ⟨.value (.func f), xs.toArray, at_⟩, ty, pos, af, gd⟩ (fun q a => St z q n ((d, res y) :: T) B a) := fun p a hs K hK => by
  obtain ⟨⟨fn, hf, hb, hnm⟩, hc⟩ := hc
  unfold Oper.wp
  have hb' : fn.body ≠ none := by intro h; simp [h] at hb
  have hnm' : fn.name ≠ "runtime.NumGoroutine" := by simpa using hnm
  have e : (execOp a.eval ⟨some d, .call ⟨.value (.func f), xs.toArray, at_⟩, ty, pos, af, gd⟩).run P p.w = .ok (.enter f (xs.map a.eval).toArray) p.w := by
    simp [execOp, resolve, Deferred.ofValue, Act.eval, invoke, callFunc, hf, hnm', hb']
  rw [e]
  refine (hc y hy hs.bq _ (gl_up hs.bq_le hs.gl) (hx.h hs)).mono ?_
  rintro e w' ⟨v, rfl, q, rfl, h1, h2, h3, h4⟩
  have h2 : Ext p.w q.w := h2
  have lt : ∀ b, (p.S b ∨ (p.w.heap.size ≤ b ∧ q.S b)) → b < q.w.heap.size := fun b hb => by
    rcases hb with hb | ⟨_, hb⟩
    · exact Nat.lt_of_lt_of_le (p.lt b hb) h2.size
    · exact q.lt b hb
  have hle : p.le ⟨q.w, fun b => p.S b ∨ (p.w.heap.size ≤ b ∧ q.S b), lt⟩ := fun b hb => ⟨.inl hb, (h1 b (.inl hb)).2⟩
  have := hK ⟨q.w, fun b => p.S b ∨ (p.w.heap.size ≤ b ∧ q.S b), lt⟩ (a.put (some d) v) ((hs.callOp hle h2 (fun b hb => by rcases hb with hb | ⟨hb, _⟩; exact .inl hb; exact .inr hb)).put (Nat.le_of_ble_eq_true hd) (hm _ _ _ h4)) h2
  exact this
theorem St.cv2 {α β γ δ : Type} {kR : Kd α} {k : Kd β} {k1 : Kd γ} {k2 : Kd δ} {x : α} {y : β} {m1 : List (Int × γ)} {m2 : List (Int × δ)} {g g1 g2 : Nat} {p : Pt} {a : Act} {i j1 j2 : Nat} (hs : St z p n T B a) (hi : B[i]? = some (some g, Go.Proofs.YtmnmcobpfpkibaaGreatDoor.box kR x)) (h1 : B[j1]? = some (some g1, mapx k1 m1)) (h2 : B[j2]? = some (some g2, mapx k2 m2))
    (hR : ∀ {w S cs}, kR.K w S x cs → cs = [.map (some g1), .map (some g2)]) (hK : ∀ {w S}, (kMap k1).K w S m1 [.map (some g1)] → (kMap k2).K w S m2 [.map (some g2)] → k.K w S y [.map (some g1), .map (some g2)]) :
    ∃ q : Pt, q.w = p.w ∧ St z q n T [(some g, Go.Proofs.YtmnmcobpfpkibaaGreatDoor.box k y)] a := by
  obtain ⟨n1, n2, cs, tt, hg, hKR⟩ := hs.box hi
  obtain ⟨m1', m2', ob, hg1, es1, c1, rfl, hm1⟩ := hs.ow g1 _ (List.mem_of_getElem? h1)
  obtain ⟨l1', l2', ob, hg2, es2, c2, rfl, hm2⟩ := hs.ow g2 _ (List.mem_of_getElem? h2)
  have lt : ∀ b, (p.S b ∨ b = g1 ∨ b = g2) → b < p.w.heap.size := fun b hb => by
    rcases hb with hb | rfl | rfl
    · exact p.lt b hb
    · exact blk_lt hg1
    · exact blk_lt hg2
  have hle : p.le ⟨p.w, fun b => p.S b ∨ b = g1 ∨ b = g2, lt⟩ := fun b hb => ⟨.inl hb, rfl⟩
  refine ⟨⟨p.w, fun b => p.S b ∨ b = g1 ∨ b = g2, lt⟩, rfl, hs.go hle hs.ex (fun b hb => by rcases hb with hb | rfl | rfl; exact hs.su b hb; exact .inr m2'; exact .inr l2') (fun g' b hb => ?_) (fun b hb => by simp at hb) (by simp)⟩
  simp only [List.mem_cons, List.not_mem_nil, or_false, Prod.mk.injEq, Option.some.injEq] at hb
  obtain ⟨rfl, rfl⟩ := hb
  have hne1 : g' ≠ g1 := by
    rintro rfl
    rw [hg] at hg1; cases hg1
  have hne2 : g' ≠ g2 := by
    rintro rfl
    rw [hg] at hg2; cases hg2
  refine ⟨fun hb => by rcases hb with hb | hb | hb; exact n1 hb; exact hne1 hb; exact hne2 hb, n2, _, hg, cs, tt, rfl, ?_⟩
  rw [hR hKR]
  exact hK (.inr ⟨g1, es1, c1, rfl, .inr (.inl rfl), hg1, hm1.frame hle⟩) (.inr ⟨g2, es2, c2, rfl, .inr (.inr rfl), hg2, hm2.frame hle⟩)
theorem x_cv2 {α β γ δ : Type} {kR : Kd α} {k : Kd β} {k1 : Kd γ} {k2 : Kd δ} {x : α} {y : β} {m1 : List (Int × γ)} {m2 : List (Int × δ)} {g g1 g2 : Nat} {ex : Exit} (i j1 j2 : Nat) (hi : B[i]? = some (some g, box kR x)) (h1 : B[j1]? = some (some g1, mapx k1 m1)) (h2 : B[j2]? = some (some g2, mapx k2 m2))
    (hR : ∀ {w S cs}, kR.K w S x cs → cs = [.map (some g1), .map (some g2)]) (hK : ∀ {w S}, (kMap k1).K w S m1 [.map (some g1)] → (kMap k2).K w S m2 [.map (some g2)] → k.K w S y [.map (some g1), .map (some g2)])
    (hk : JX z n T [(some g, box k y)] ex Φ Q) : JX z n T B ex Φ Q := fun r hr p a hs => by
  obtain ⟨q, e, hq⟩ := hs.cv2 hi h1 h2 hR hK; rw [← e]; exact hk r hr q a hq
theorem cv2_R {g1 g2 : Nat} {w : World} {S : Nat → Prop} {cs : List Value} (h : (kTwo kMref kMref).K w S (some g1, some g2) cs) : cs = [.map (some g1), .map (some g2)] := by
  obtain ⟨c1, c2, rfl, h1, h2⟩ := h
  have h1 : c1 = [.map (some g1)] := h1
  have h2 : c2 = [.map (some g2)] := h2
  rw [h1, h2]; rfl
theorem cv2_K {γ δ : Type} {k1 : Kd γ} {k2 : Kd δ} {m1 : List (Int × γ)} {m2 : List (Int × δ)} {g1 g2 : Nat} {w : World} {S : Nat → Prop} (h1 : (kMap k1).K w S m1 [.map (some g1)]) (h2 : (kMap k2).K w S m2 [.map (some g2)]) : (kTwo (kMap k1) (kMap k2)).K w S (m1, m2) [.map (some g1), .map (some g2)] := ⟨_, _, rfl, h1, h2⟩
theorem ty_R {α β : Type} {k : Kd α} {k' : Kd β} {t : TypeId} (h : tyB P t k = true) (hs : k'.sz = k.sz := by rfl) (hst : k'.st = k.st := by rfl) : tyB P t k' = true := by
  unfold tyB at *
  rw [hs, hst]; exact h
theorem tzI {α : Type} {k : Kd α} (h : (P.info? t).bind (·.zero) = some (k.mk' k.zc)) : Tz P t k := h
theorem l_callw {σ : Type} {f at_ ts} {xs : List Operand} {m : Option σ} {res : σ → TV} {K : σ → Option ρ} (hc : Ct P f ts m res) (hm : ∀ y, Mf (res y)) (hx : EvBs z n T B xs ts) (hd : Nat.ble (d + 1) n = true) (hk : ∀ y, m = some y → JL P z n ops ((d, res y) :: T) B l (K y) Q) :
    JL P z n ops T B (⟨some d, .call ⟨.value (.func f), xs.toArray, at_⟩, ty, pos, af, none⟩ :: l) (m.bind K) Q :=
  l_bind fun y hy => l_so trivial (e_callw hy hc (hm y) hd hx).so fun r hr q a hs => hk y hy r hr q a hs
theorem w_callwg {σ : Type} {f at_ ts} {xs : List Operand} {m : Option σ} {res : σ → TV} {K : σ → Option ρ} {fo sk ord : List Nat} {i : Nat} (ho : ops[i]? = some ⟨some d, .call ⟨.value (.func f), xs.toArray, at_⟩, ty, pos, af, gd⟩) (hf : inL fo i = true) (g : Gd ops T gd) (hc : Ct P f ts m res) (hm : ∀ y, Mf (res y)) (hx : EvBs z n T B xs ts) (hd : Nat.ble (d + 1) n = true) (hk : ∀ y, m = some y → JW P z n ops fo sk ((d, res y) :: T) B ord (K y) Q) :
    JW P z n ops fo sk T B (i :: ord) (m.bind K) Q :=
  w_bind fun y hy => w_eo ho hf g (e_callw hy hc (hm y) hd hx) fun r hr q a hs => hk y hy r hr q a hs
end
end Go.Proofs.YtmnmcobpfpkibaaGreatDoor
