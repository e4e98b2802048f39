import Derived.Test.YtojgddnefopdjaaGreatDoorM1
import Derived.Test.YtojgddnefopdjaaGreatDoorProg
import Derived.Shelf.SlGeneric
import Derived.Shelf.SlIterI.Sorted
import Derived.Shelf.SlIterI.Nil
import Derived.Shelf.Sort.Plain
import Derived.Shelf.Slices.In.SortNone
import Derived.Shelf.Spec.SlicesGrow
import Derived.Shelf.Spec.TrailingZeros
import Derived.Ground.GgzProg
import Derived.Ground.NamesProg
import Derived.Ground.Names7Prog
import Derived.Ground.Names8Prog
namespace Go.Proofs.YtojgddnefopdjaaGreatDoor
open Go.RowKit
set_option linter.unusedVariables false
abbrev Hd := Nat × Option Nat × Nat
def Hd.v (h : Hd) : Value := .slice (h.2.1.map fun g => ⟨g, 0, none⟩) h.1 h.2.2
def kRaw {α : Type} (k : Kd α) (off : Nat) (hz : k.zc[off]? = some (.slice none 0 0)) : Kd (α × Hd) where
  sz := k.sz
  by_ := k.by_
  st := true
  ok := fun _ => False
  K := fun w S x cs => ∃ l r, cs = l ++ x.2.v :: r ∧ l.length = off ∧ k.K w S x.1 (l ++ .slice none 0 0 :: r)
  z := (k.z, 0, none, 0)
  zc := k.zc
  zk := fun w S => by
    have h := List.getElem?_eq_some_iff.1 hz
    have h1 := h.1
    refine ⟨k.zc.take off, k.zc.drop (off + 1), ?_, by simp; omega, ?_⟩
    · show k.zc = k.zc.take off ++ .slice none 0 0 :: k.zc.drop (off + 1)
      rw [← h.2, ← List.drop_eq_getElem_cons h.1, List.take_append_drop]
    · rw [← h.2, ← List.drop_eq_getElem_cons h.1, List.take_append_drop]; exact k.zk w S
  s1 := fun h => by cases h
  len := fun h => by obtain ⟨l, r, e, h1, h2⟩ := h; have := k.len h2; rw [e]; simpa using this
  one := fun h => by
    obtain ⟨l, r, e, h1, h2⟩ := h
    intro v hv
    rw [e] at hv
    have := k.one h2
    rcases List.mem_append.1 hv with hv | hv
    · exact this v (by simp [hv])
    · rcases List.mem_cons.1 hv with rfl | hv
      · rfl
      · exact this v (by simp [hv])
  frame := fun h hk => by obtain ⟨l, r, e, h1, h2⟩ := hk; exact ⟨l, r, e, h1, k.frame h h2⟩
theorem Fld.raw {α β : Type} {k : Kd α} {o off : Nat} {l : Kd β} {get : α → β} {set : α → β → α} (hz : k.zc[off]? = some (.slice none 0 0)) (f : Fld k o l get set) (hd : (Nat.ble (o + l.sz) off || Nat.ble (off + 1) o) = true) :
    Fld (kRaw k off hz) o l (fun x => get x.1) (fun x y => (set x.1 y, x.2)) where
  bd := f.bd
  g := fun {w S x cs} h => by
    obtain ⟨a, r, rfl, h1, h2⟩ := h
    have h3 := f.g h2
    have hb := f.bd
    have e : ((a ++ x.2.v :: r).drop o).take l.sz = ((a ++ .slice none 0 0 :: r).drop o).take l.sz := by
      simp only [Bool.or_eq_true] at hd
      rcases hd with hd | hd
      · have hd := Nat.le_of_ble_eq_true hd
        rw [List.drop_append_of_le_length (by omega), List.drop_append_of_le_length (by omega), List.take_append_of_le_length (by simp; omega), List.take_append_of_le_length (by simp; omega)]
      · have hd := Nat.le_of_ble_eq_true hd
        obtain ⟨m, rfl⟩ : ∃ m, o = a.length + (m + 1) := ⟨o - a.length - 1, by omega⟩
        simp [← List.drop_drop]
    rw [e]; exact h3
  s := fun {w S x y cs c} h h' => by
    obtain ⟨a, r, rfl, h1, h2⟩ := h
    have h3 := f.s h2 h'
    have hb := f.bd
    have hc := l.len h'
    have hl := k.len h2
    simp only [List.length_append, List.length_cons] at hl
    simp only [Bool.or_eq_true] at hd
    rcases hd with hd | hd
    · have hd := Nat.le_of_ble_eq_true hd
      refine ⟨a.take o ++ c ++ a.drop (o + l.sz), r, ?_, by simp; omega, ?_⟩
      · rw [List.take_append_of_le_length (by omega), List.drop_append_of_le_length (by omega)]
        simp
      · rw [List.take_append_of_le_length (by omega), List.drop_append_of_le_length (by omega)] at h3
        simpa using h3
    · have hd := Nat.le_of_ble_eq_true hd
      obtain ⟨m, rfl⟩ : ∃ m, o = a.length + (m + 1) := ⟨o - a.length - 1, by omega⟩
      refine ⟨a, r.take m ++ c ++ r.drop (m + l.sz), ?_, h1, ?_⟩
      · rw [List.take_append, List.take_of_length_le (by omega), show a.length + (m + 1) - a.length = m + 1 by omega, Nat.add_assoc, ← List.drop_drop, List.drop_left, show m + 1 + l.sz = (m + l.sz) + 1 by omega, List.drop_succ_cons, List.take_succ_cons]
        simp
      · rw [List.take_append, List.take_of_length_le (by omega), show a.length + (m + 1) - a.length = m + 1 by omega, Nat.add_assoc, ← List.drop_drop, List.drop_left, show m + 1 + l.sz = (m + l.sz) + 1 by omega, List.drop_succ_cons, List.take_succ_cons] at h3
        simpa using h3
structure Fst {α α' β : Type} (k : Kd α) (k' : Kd α') (o : Nat) (l : Kd β) (set : α → β → α') : Prop where
  bd : o + l.sz ≤ k.sz
  s : ∀ {w S x y cs c}, k.K w S x cs → l.K w S y c → k'.K w S (set x y) (cs.take o ++ c ++ cs.drop (o + l.sz))
theorem Fld.fst' {α β : Type} {k : Kd α} {o : Nat} {l : Kd β} {get : α → β} {set : α → β → α} (f : Fld k o l get set) : Fst k k o l set := ⟨f.bd, f.s⟩
def kHd : Kd Hd where
  sz := 1
  by_ := 24
  st := false
  ok := fun _ => False
  K := fun w S h cs => cs = [h.v]
  z := (0, none, 0)
  zc := [.slice none 0 0]
  zk := fun _ _ => rfl
  s1 := fun _ => rfl
  len := fun h => by rw [h]; rfl
  one := fun h => by rw [h]; intro v hv; simp at hv; subst hv; rfl
  frame := fun _ h => h
theorem Fst.hd {α β : Type} {k : Kd α} {off : Nat} {kx : Kd β} {get : α → List β} {sd : α → List β → α} (hz : k.zc[off]? = some (.slice none 0 0)) (f : Fld k off (kSl kx) get sd) : Fst k (kRaw k off hz) off kHd (fun x h => (sd x [], h)) where
  bd := f.bd
  s := fun {w S x y cs c} h h' => by
    have h3 := f.s h (Kd.zk (kSl kx) w S)
    have hl := k.len h
    have hb : off + 1 ≤ k.sz := f.bd
    subst h'
    exact ⟨cs.take off, cs.drop (off + 1), by simp [kHd], by simp; omega, by simpa [kSl] using h3⟩
theorem Fst.hr {α : Type} {k : Kd α} {off : Nat} (hz : k.zc[off]? = some (.slice none 0 0)) : Fst (kRaw k off hz) (kRaw k off hz) off kHd (fun x h => (x.1, h)) where
  bd := by obtain ⟨h1, _⟩ := List.getElem?_eq_some_iff.1 hz; have h2 := k.len (k.zk default (fun _ => True)); show off + 1 ≤ k.sz; omega
  s := fun {w S x y cs c} h h' => by
    obtain ⟨a, r, rfl, h1, h2⟩ := h
    subst h1; subst h'
    refine ⟨a, r, ?_, rfl, h2⟩
    simp [kHd]
theorem Fst.raw {α α' β : Type} {k : Kd α} {k' : Kd α'} {o off : Nat} {l : Kd β} {set : α → β → α'} (hz : k.zc[off]? = some (.slice none 0 0)) (hz' : k'.zc[off]? = some (.slice none 0 0)) (f : Fst k k' o l set) (hd : (Nat.ble (o + l.sz) off || Nat.ble (off + 1) o) = true) :
    Fst (kRaw k off hz) (kRaw k' off hz') o l (fun x y => (set x.1 y, x.2)) where
  bd := f.bd
  s := fun {w S x y cs c} h h' => by
    obtain ⟨a, r, rfl, h1, h2⟩ := h
    have h3 := f.s h2 h'
    have hb := f.bd
    have hc := l.len h'
    have hl := k.len h2
    simp only [List.length_append, List.length_cons] at hl
    simp only [Bool.or_eq_true] at hd
    rcases hd with hd | hd
    · have hd := Nat.le_of_ble_eq_true hd
      refine ⟨a.take o ++ c ++ a.drop (o + l.sz), r, ?_, by simp; omega, ?_⟩
      · rw [List.take_append_of_le_length (by omega), List.drop_append_of_le_length (by omega)]
        simp
      · rw [List.take_append_of_le_length (by omega), List.drop_append_of_le_length (by omega)] at h3
        simpa using h3
    · have hd := Nat.le_of_ble_eq_true hd
      obtain ⟨m, rfl⟩ : ∃ m, o = a.length + (m + 1) := ⟨o - a.length - 1, by omega⟩
      refine ⟨a, r.take m ++ c ++ r.drop (m + l.sz), ?_, h1, ?_⟩
      · rw [List.take_append, List.take_of_length_le (by omega), show a.length + (m + 1) - a.length = m + 1 by omega, Nat.add_assoc, ← List.drop_drop, List.drop_left, show m + 1 + l.sz = (m + l.sz) + 1 by omega, List.drop_succ_cons, List.take_succ_cons]
        simp
      · rw [List.take_append, List.take_of_length_le (by omega), show a.length + (m + 1) - a.length = m + 1 by omega, Nat.add_assoc, ← List.drop_drop, List.drop_left, show m + 1 + l.sz = (m + l.sz) + 1 by omega, List.drop_succ_cons, List.take_succ_cons] at h3
        simpa using h3
theorem Fst.sub {α β : Type} {k : Kd α} {o off : Nat} {l : Kd β} {get : α → β} {set : α → β → α} (hz : l.zc[off]? = some (.slice none 0 0)) (hz' : k.zc[o + off]? = some (.slice none 0 0)) (f : Fld k o l get set) : Fst k (kRaw k (o + off) hz') o (kRaw l off hz) (fun x y => (set x y.1, y.2)) where
  bd := f.bd
  s := fun {w S x y cs c} h h' => by
    obtain ⟨a, r, rfl, h1, h2⟩ := h'
    have h3 := f.s h h2
    have hl := k.len h
    have hb := f.bd
    exact ⟨cs.take o ++ a, r ++ cs.drop (o + l.sz), by simp [kRaw], by simp; omega, by simpa using h3⟩
section
variable {P : Program} {ρ : Type} {z : Zt} {n : Nat} {T : Slots} {B : Boxes} {ops l : List Oper} {Φ : Option ρ} {Q : Kont ρ} {ty t : TypeId} {pos : String} {af : Array Edge} {gd : Option (Nat × Bool)} {d : Nat}
def nodB : List Nat → Bool
  | [] => true
  | i :: l => l.all (fun j => !Nat.beq i j) && nodB l
theorem St.pick {p : Pt} {a : Act} {B' : Boxes} (hs : St z p n T B a) {idx : List Nat} (hn : nodB idx = true) (hB : idx.filterMap (fun i => B[i]?) = B') : St z p n T B' a := by
  subst hB
  have mem : ∀ {x} {l : List Nat}, x ∈ l.filterMap (fun i => B[i]?) → ∃ i ∈ l, B[i]? = some x := fun h => by
    obtain ⟨i, h1, h2⟩ := List.mem_filterMap.1 h; exact ⟨i, h1, h2⟩
  refine ⟨hs.sz, hs.df, hs.tm, fun g b hg => ?_, fun b hb => ?_, ?_, hs.ex, hs.su, hs.le⟩
  · obtain ⟨i, _, hi⟩ := mem hg; exact hs.ow g b (List.mem_of_getElem? hi)
  · obtain ⟨i, _, hi⟩ := mem hb; exact hs.on b (List.mem_of_getElem? hi)
  · clear mem
    induction idx with
    | nil => simp
    | cons i l ih =>
      simp only [nodB, Bool.and_eq_true] at hn
      have ih := ih hn.2
      rw [List.filterMap_cons]
      cases hi : B[i]? with
      | none => simpa using ih
      | some b =>
        simp only []
        rw [List.filterMap_cons]
        cases hb : b.1 with
        | none => simpa using ih
        | some g =>
          simp only []
          refine List.nodup_cons.2 ⟨fun hm => ?_, ih⟩
          obtain ⟨b', hb', e⟩ := List.mem_filterMap.1 hm
          obtain ⟨j, hj, hjb⟩ := List.mem_filterMap.1 hb'
          obtain ⟨o, x⟩ := b
          obtain ⟨o', x'⟩ := b'
          simp only at hb e
          subst hb; subst e
          have := nodup_at hs.nd hi hjb
          subst this
          have := List.all_eq_true.1 hn.1 i hj
          simp at this
theorem ev_row {α : Type} {k : Kd α} {xs : List α} {o : Option Nat} {c : Nat} {x : Operand} (h : Ev T x (row k xs o c)) : Ev T x (rd kHd (xs.length, o, c)) := fun p a hs => by
  have h1 : a.eval x = .slice (o.map fun g => ⟨g, 0, none⟩) xs.length c := h p a hs
  show [a.eval x] = [Hd.v (xs.length, o, c)]
  rw [h1]; rfl
theorem s_stf {α α' β : Type} {k : Kd α} {k' : Kd α'} {l : Kd β} {y : α} {v : β} {set : α → β → α'} {x u : Operand} {g off : Nat} (i : Nat) (h : Ev T x (own g off)) (hv : Ev T u (rd l v)) (hi : B[i]? = some (some g, box k y)) (fl : Fst k k' off l set) (ht : tyB P t l = true) :
    SO P z n T B ⟨none, .store t x u, ty, pos, af, gd⟩ (fun q a => St z q n T (B.set i (some g, box k' (set y v))) a) := fun p a hs K hK => by
  have h1 : a.eval x = .pointer (some ⟨g, off, none⟩) := hs.ev h
  have hk := Kd.V_cells (hs.ev hv)
  obtain ⟨_, _, cs, tt, h3, h4⟩ := hs.box hi
  have hlen := l.len hk
  have hbd := fl.bd
  have hcs := k.len h4
  obtain ⟨q, e, hle, hq⟩ := hs.setBox hi h3 (cs' := (cs.toList.take (off + 0) ++ (a.eval u).cells.toList ++ cs.toList.drop (off + 0 + (a.eval u).cells.toList.length)).toArray) (bx' := box k' (set y v))
    (fun q hle => ⟨_, _, rfl, by rw [hlen]; exact Kd.frame _ hle (fl.s h4 hk)⟩)
  have hst := run_storeCells_at P g off tt (a.eval u).cells.toList 0 cs p.w h3 (by rw [hlen]; simp at hcs; omega) (l.one hk)
  have := hK q (a.put none undef) hq
  rw [e] at this
  have hsz := run_size (ty_size ht) p.w
  have hl2 : (a.eval u).cells.size = l.sz := by simpa using hlen
  simp only [Oper.wp, execOp, h1, Instr.storeAt, Instr.sureAddr, storeVar, Sem.run_bind, Sem.run_pure, Result.andThen_ok, hsz, hl2, ne_eq, not_true_eq_false, if_false, hst, Oper.upon]
  exact this
theorem l_stf {α α' β : Type} {k : Kd α} {k' : Kd α'} {m : Kd β} {y : α} {v : β} {set : α → β → α'} {x u : Operand} {g off : Nat} (i : Nat) (h : Ev T x (own g off)) (hv : Ev T u (rd m v)) (hi : B[i]? = some (some g, box k y)) (fl : Fst k k' off m set) (ht : tyB P t m = true)
    (hk : JL P z n ops T (B.set i (some g, box k' (set y v))) l Φ Q) : JL P z n ops T B (⟨none, .store t x u, ty, pos, af, none⟩ :: l) Φ Q :=
  l_so trivial (s_stf i h hv hi fl ht) fun r hr q a hs => hk r hr q a hs
theorem w_stf {α α' β : Type} {k : Kd α} {k' : Kd α'} {m : Kd β} {y : α} {v : β} {set : α → β → α'} {x u : Operand} {g off : Nat} {fo sk ord : List Nat} {q : Nat} (i : Nat) (ho : ops[q]? = some ⟨none, .store t x u, ty, pos, af, none⟩) (hf : inL fo q = true) (hsk : inL sk q = true) (h : Ev T x (own g off)) (hv : Ev T u (rd m v)) (hi : B[i]? = some (some g, box k y)) (fl : Fst k k' off m set) (ht : tyB P t m = true)
    (hk : JW P z n ops fo sk T (B.set i (some g, box k' (set y v))) ord Φ Q) : JW P z n ops fo sk T B (q :: ord) Φ Q :=
  w_so ho hf hsk trivial (s_stf i h hv hi fl ht) fun r hr q a hs => hk r hr q a hs
structure Hat {α : Type} (k : Kd α) (off : Nat) (get : α → Hd) : Prop where
  g : ∀ {w S x cs}, k.K w S x cs → cs[off]? = some (get x).v
theorem Hat.me {α : Type} {k : Kd α} {off : Nat} (hz : k.zc[off]? = some (.slice none 0 0)) : Hat (kRaw k off hz) off (fun x => x.2) := ⟨fun h => by obtain ⟨a, r, rfl, h1, h2⟩ := h; subst h1; simp⟩
theorem Hat.raw {α : Type} {k : Kd α} {off off' : Nat} {get : α → Hd} (hz : k.zc[off']? = some (.slice none 0 0)) (h : Hat k off get) (hne : Nat.beq off off' = false) : Hat (kRaw k off' hz) off (fun x => get x.1) := ⟨fun hk => by
  obtain ⟨a, r, rfl, h1, h2⟩ := hk
  have h3 := h.g h2
  have hne := Nat.ne_of_beq_eq_false hne
  subst h1
  rw [List.getElem?_append] at h3 ⊢
  split
  · rename_i hlt; rw [if_pos hlt] at h3; exact h3
  · rename_i hlt
    rw [if_neg hlt] at h3
    obtain ⟨m, hm⟩ : ∃ m, off - a.length = m + 1 := ⟨off - a.length - 1, by omega⟩
    rw [hm] at h3 ⊢
    simpa using h3⟩
theorem po_loh {α β : Type} {k : Kd α} {kx : Kd β} {y : α} {get : α → Hd} {xs : List β} {o : Option Nat} {c : Nat} {t : TypeId} {x : Operand} {g off : Nat} (i : Nat) (h : Ev T x (own g off)) (hi : B[i]? = some (some g, box k y)) (ha : Hat k off get) (hg : get y = (xs.length, o, c)) (ht : tyB P t kHd = true) :
    PO P z n T B (.load t x) (row kx xs o c) := fun p a hs => by
  have h1 : a.eval x = .pointer (some ⟨g, off, none⟩) := hs.ev h
  obtain ⟨_, _, cs, tt, h3, h4⟩ := hs.box hi
  have h5 := ha.g h4
  rw [hg] at h5
  have hk : kHd.K p.w p.S (xs.length, o, c) [Hd.v (xs.length, o, c)] := rfl
  refine ⟨_, rfl, fun oo w' ho he => ?_⟩
  have := run_loadK ht (w := w') hk (ad := ⟨g, off, none⟩) (fun j u hj => by
    match j, hj with
    | 0, hj =>
      simp at hj
      subst hj
      rw [add_plain, cell_of_row _ _ _ _ _ _ (he.blk h3)]
      simpa using h5)
  simp [execOp, ho, h1, Instr.loadAt, Instr.sureAddr, this, Kd.mk', kHd, Hd.v]
theorem St.unr {α β : Type} {k : Kd α} {off : Nat} {hz : k.zc[off]? = some (.slice none 0 0)} {kx : Kd β} {get : α → List β} {sd : α → List β → α} {e : TypeId} {x : α} {xs : List β} {o : Option Nat} {c : Nat} {p : Pt} {a : Act} {i j g : Nat} (hs : St z p n T B a) (hi : B[i]? = some (some g, Go.Proofs.YtojgddnefopdjaaGreatDoor.box (kRaw k off hz) (x, xs.length, o, c))) (f : Fld k off (kSl kx) get sd) (hj : B[j]? = some (o, Go.Proofs.YtojgddnefopdjaaGreatDoor.rows kx e xs c)) :
    ∃ q : Pt, q.w = p.w ∧ (kSl kx).K q.w q.S xs [Hd.v (xs.length, o, c)] ∧ St z q n T ((B.set i (some g, Go.Proofs.YtojgddnefopdjaaGreatDoor.box k (sd x xs))).eraseIdx j) a := by
  have hij : i ≠ j := by
    rintro rfl
    rw [hi] at hj
    injection hj with hj
    injection hj with e1 e2
    have : (Go.Proofs.YtojgddnefopdjaaGreatDoor.box (kRaw k off hz) (x, xs.length, o, c)).h p (.cells #[] 0 (1, 0)) = (Go.Proofs.YtojgddnefopdjaaGreatDoor.rows kx e xs c).h p (.cells #[] 0 (1, 0)) := by rw [e2]
    have h0 : ∀ q : Pt, ∀ ob, (Go.Proofs.YtojgddnefopdjaaGreatDoor.box (kRaw k off hz) (x, xs.length, o, c)).h q ob = (Go.Proofs.YtojgddnefopdjaaGreatDoor.rows kx e xs c).h q ob := fun q ob => by rw [e2]
    have h2 : (Go.Proofs.YtojgddnefopdjaaGreatDoor.box (kRaw k off hz) (x, xs.length, o, c)).nil = (Go.Proofs.YtojgddnefopdjaaGreatDoor.rows kx e xs c).nil := by rw [e2]
    obtain ⟨_, _, ob, hg, hb⟩ := hs.ow g _ (List.mem_of_getElem? hi)
    obtain ⟨cs, tt, rfl, hK⟩ := hb
    have hb2 : (Go.Proofs.YtojgddnefopdjaaGreatDoor.rows kx e xs c).h p (.cells cs tt (0, 0)) := by rw [← h0]; exact ⟨cs, tt, rfl, hK⟩
    have hb3 : (Go.Proofs.YtojgddnefopdjaaGreatDoor.box (kRaw k off hz) (x, xs.length, o, c)).h p (.cells cs (tt + 1) (0, 0)) := ⟨cs, tt + 1, rfl, hK⟩
    rw [h0] at hb3
    obtain ⟨_, _, q1, _⟩ := hb2
    obtain ⟨_, _, q2, _⟩ := hb3
    simp only [Obj.cells.injEq] at q1 q2
    exact Nat.succ_ne_self tt (q2.2.1.trans q1.2.1.symm)
  obtain ⟨_, _, cs0, tt, hg0, hK0⟩ := hs.box hi
  have sub1 : ∀ b, b ∈ (B.set i (some g, Go.Proofs.YtojgddnefopdjaaGreatDoor.box k (sd x xs))).eraseIdx j → b = (some g, Go.Proofs.YtojgddnefopdjaaGreatDoor.box k (sd x xs)) ∨ (∃ m, m ≠ i ∧ m ≠ j ∧ B[m]? = some b) := by
    intro b hb
    obtain ⟨m, hm⟩ := List.mem_iff_getElem?.1 hb
    rw [List.getElem?_eraseIdx] at hm
    have key : ∀ m, m ≠ j → (B.set i (some g, Go.Proofs.YtojgddnefopdjaaGreatDoor.box k (sd x xs)))[m]? = some b → b = (some g, Go.Proofs.YtojgddnefopdjaaGreatDoor.box k (sd x xs)) ∨ (∃ m, m ≠ i ∧ m ≠ j ∧ B[m]? = some b) := by
      intro m hmj hm
      by_cases h : i = m
      · subst h
        rw [List.getElem?_set_self (List.getElem?_eq_some_iff.1 hi).1] at hm
        injection hm with hm
        exact .inl hm.symm
      · rw [List.getElem?_set_ne h] at hm; exact .inr ⟨m, fun e => h e.symm, hmj, hm⟩
    split at hm
    · exact key m (by omega) hm
    · exact key (m + 1) (by omega) hm
  have hsubl : (((B.set i (some g, Go.Proofs.YtojgddnefopdjaaGreatDoor.box k (sd x xs))).eraseIdx j).filterMap (·.1)).Nodup := by
    refine ((List.eraseIdx_sublist _ _).filterMap _).nodup ?_
    rw [nodup_set hi]; exact hs.nd
  -- the header's cell, as a list
  have mk : ∀ (q : Pt), p.le q → (kSl kx).K q.w q.S xs [Hd.v (xs.length, o, c)] → ∃ cs t, Obj.cells cs0 tt = .cells cs t (0, 0) ∧ k.K q.w q.S (sd x xs) cs.toList := by
    intro q hle hl
    obtain ⟨a', r, e1, h1, h2⟩ := hK0
    refine ⟨cs0, tt, rfl, ?_⟩
    have h3 := f.s (k.frame hle h2) hl
    have e3 : (a' ++ Value.slice none 0 0 :: r).take off ++ [Hd.v (xs.length, o, c)] ++ (a' ++ Value.slice none 0 0 :: r).drop (off + (kSl kx).sz) = cs0.toList := by
      rw [e1]; subst h1
      simp [kSl]
    rw [e3] at h3
    exact h3
  cases o with
  | none =>
    have h0 : xs = [] ∧ c = 0 := hs.on _ (List.mem_of_getElem? hj)
    obtain ⟨rfl, rfl⟩ := h0
    refine ⟨p, rfl, Kd.zk (kSl kx) _ _, hs.sz, hs.df, hs.tm, fun g' b hb => ?_, fun b hb => ?_, hsubl, hs.ex, hs.su, hs.le⟩
    · rcases sub1 _ hb with e | ⟨m, hmi, _, hm⟩
      · injection e with e1 e2
        injection e1 with e1
        subst e1; subst e2
        obtain ⟨n1, n2, _⟩ := hs.ow g' _ (List.mem_of_getElem? hi)
        exact ⟨n1, n2, _, hg0, mk p p.le_refl (Kd.zk (kSl kx) _ _)⟩
      · exact hs.ow g' b (List.mem_of_getElem? hm)
    · rcases sub1 _ hb with e | ⟨m, hmi, _, hm⟩
      · injection e with e1 e2; cases e1
      · exact hs.on b (List.mem_of_getElem? hm)
  | some gx =>
    obtain ⟨hS, hzg, ob, hg, cs, more, rfl, hRx, hxc, hcm, hcl⟩ := hs.ow gx _ (List.mem_of_getElem? hj)
    have hle : p.le ⟨p.w, fun b => p.S b ∨ b = gx, fun b hb => by rcases hb with hb | rfl; exact p.lt b hb; exact blk_lt hg⟩ := fun b hb => ⟨.inl hb, rfl⟩
    have hkx : (kSl kx).K p.w (fun b => p.S b ∨ b = gx) xs [Hd.v (xs.length, some gx, c)] := ⟨some ⟨gx, 0, none⟩, c, rfl, hxc, by unfold maxLen at hcm; omega, fun h => (by cases h), Kd.C_row (cs := cs) (more := more) (t := e) (fr := (0, 0)) hg (.inr rfl) (Kd.R_frame hle hRx)⟩
    refine ⟨⟨p.w, fun b => p.S b ∨ b = gx, fun b hb => by rcases hb with hb | rfl; exact p.lt b hb; exact blk_lt hg⟩, rfl, hkx, hs.go hle hs.ex (fun b hb => by rcases hb with hb | rfl; exact hs.su b hb; exact .inr hzg) (fun g' b hb => ?_) (fun b hb => ?_) hsubl⟩
    · rcases sub1 _ hb with e | ⟨m, hmi, hmj, hm⟩
      · injection e with e1 e2
        injection e1 with e1
        subst e1; subst e2
        obtain ⟨n1, n2, _⟩ := hs.ow g' _ (List.mem_of_getElem? hi)
        refine ⟨fun hb => ?_, n2, _, hg0, mk _ hle hkx⟩
        rcases hb with hb | rfl
        · exact n1 hb
        · exact hij (nodup_at hs.nd hi hj)
      · obtain ⟨h3, h4, o', h5, h6⟩ := hs.ow g' b (List.mem_of_getElem? hm)
        refine ⟨fun hb => ?_, h4, o', h5, b.up hle h6⟩
        rcases hb with hb | rfl
        · exact h3 hb
        · exact hmj (nodup_at hs.nd hm hj)
    · rcases sub1 _ hb with e | ⟨m, hmi, _, hm⟩
      · injection e with e1 e2; cases e1
      · exact hs.on b (List.mem_of_getElem? hm)
theorem l_unr {α β : Type} {k : Kd α} {off : Nat} {hz : k.zc[off]? = some (.slice none 0 0)} {kx : Kd β} {get : α → List β} {sd : α → List β → α} {e : TypeId} {x : α} {xs : List β} {o : Option Nat} {c : Nat} {g : Nat} (i j : Nat) (hi : B[i]? = some (some g, box (kRaw k off hz) (x, xs.length, o, c))) (f : Fld k off (kSl kx) get sd) (hj : B[j]? = some (o, rows kx e xs c))
    (hk : JL P z n ops T ((B.set i (some g, box k (sd x xs))).eraseIdx j) l Φ Q) : JL P z n ops T B l Φ Q := fun r hr p a hs => by
  obtain ⟨q, e, _, hq⟩ := hs.unr hi f hj; rw [← e]; exact hk r hr q a hq
theorem St.unrs {α β : Type} {k : Kd α} {off : Nat} {hz : k.zc[off]? = some (.slice none 0 0)} {kx : Kd β} {get : α → List β} {sd : α → List β → α} {e : TypeId} {x : α} {xs : List β} {o : Option Nat} {c : Nat} {p : Pt} {a : Act} {s i j g : Nat} (hs : St z p n T B a) (h : look T s = some (row kx xs o c)) (hi : B[i]? = some (some g, Go.Proofs.YtojgddnefopdjaaGreatDoor.box (kRaw k off hz) (x, xs.length, o, c))) (f : Fld k off (kSl kx) get sd) (hj : B[j]? = some (o, Go.Proofs.YtojgddnefopdjaaGreatDoor.rows kx e xs c)) :
    ∃ q : Pt, q.w = p.w ∧ St z q n ((s, rd (kSl kx) xs) :: T) ((B.set i (some g, Go.Proofs.YtojgddnefopdjaaGreatDoor.box k (sd x xs))).eraseIdx j) a := by
  obtain ⟨v, h1, h2⟩ := hs.tm _ _ h
  have h2 : v = .slice (o.map fun g => ⟨g, 0, none⟩) xs.length c := h2
  subst h2
  obtain ⟨q, e, hk, hq⟩ := hs.unr hi f hj
  refine ⟨q, e, hq.sz, hq.df, fun m t hm => ?_, hq.ow, hq.on, hq.nd, hq.ex, hq.su, hq.le⟩
  rcases look_put hm with ⟨rfl, rfl⟩ | ⟨_, hm⟩
  · exact ⟨_, h1, hk⟩
  · exact hq.tm _ _ hm
theorem l_unrs {α β : Type} {k : Kd α} {off : Nat} {hz : k.zc[off]? = some (.slice none 0 0)} {kx : Kd β} {get : α → List β} {sd : α → List β → α} {e : TypeId} {x : α} {xs : List β} {o : Option Nat} {c : Nat} {g : Nat} (s i j : Nat) (h : look T s = some (row kx xs o c)) (hi : B[i]? = some (some g, box (kRaw k off hz) (x, xs.length, o, c))) (f : Fld k off (kSl kx) get sd) (hj : B[j]? = some (o, rows kx e xs c))
    (hk : JL P z n ops ((s, rd (kSl kx) xs) :: T) ((B.set i (some g, box k (sd x xs))).eraseIdx j) l Φ Q) : JL P z n ops T B l Φ Q := fun r hr p a hs => by
  obtain ⟨q, e, hq⟩ := hs.unrs h hi f hj; rw [← e]; exact hk r hr q a hq
theorem St.nilr {α : Type} (k : Kd α) (e : TypeId) {p : Pt} {a : Act} (hs : St z p n T B a) : St z p n T ((none, Go.Proofs.YtojgddnefopdjaaGreatDoor.rows k e [] 0) :: B) a := ⟨hs.sz, hs.df, hs.tm, fun g b hg => hs.ow g b (by simpa using hg), fun b hb => by
    rcases List.mem_cons.1 hb with e | hb
    · injection e with e1 e2; subst e2; exact ⟨rfl, rfl⟩
    · exact hs.on b hb, by simpa using hs.nd, hs.ex, hs.su, hs.le⟩
theorem l_nilr {α : Type} (k : Kd α) (e : TypeId) (hk : JL P z n ops T ((none, rows k e [] 0) :: B) l Φ Q) : JL P z n ops T B l Φ Q := fun r hr p a hs => hk r hr p a (hs.nilr k e)
theorem Fst.whole {α α' : Type} {k : Kd α} {k' : Kd α'} (h : Nat.beq k.sz k'.sz = true) : Fst k k' 0 k' (fun _ y => y) where
  bd := by have := Nat.eq_of_beq_eq_true h; omega
  s := fun {w S x y cs c} hk hk' => by
    have h1 := k.len hk; have h2 := k'.len hk'; have := Nat.eq_of_beq_eq_true h
    rw [List.take_zero, List.nil_append, List.drop_of_length_le (by omega), List.append_nil]; exact hk'
inductive Bldr (P : Program) (t : TypeId) (T : Slots) {α : Type} (k : Kd α) : List (Nat × Operand) → α → α → Prop
  | nil (x : α) : Bldr P t T k [] x x
  | cons {β : Type} {i : Nat} {o : Operand} {l : Kd β} {off : Nat} {set : α → β → α} {y : β} {x x' : α} {rest : List (Nat × Operand)} : plB P t i off l.sz = true → Fst k k off l set → Ev T o (rd l y) → Bldr P t T k rest (set x y) x' → Bldr P t T k ((i, o) :: rest) x x'
theorem bldr_fill {α : Type} {k : Kd α} {t : TypeId} {ps : List (Nat × Nat)} (hps : placesOf P t = some ps) {p : Pt} {a : Act} (hs : St z p n T B a) : ∀ {parts : List (Nat × Operand)} {x x' : α} {cells : Array Value}, Bldr P t T k parts x x' → k.K p.w p.S x cells.toList →
    ∃ cells', Instr.fill (ps.toArray[·]?) cells (parts.map fun (i, o) => (i, a.eval o)) = some cells' ∧ k.K p.w p.S x' cells'.toList
  | [], x, x', cells, h, hk => by cases h; exact ⟨cells, rfl, hk⟩
  | _ :: rest, x, x', cells, h, hk => by
    cases h with
    | @cons β i o l off set y _ _ _ hp fl he hr =>
      have hv := Kd.V_cells (hs.ev he)
      have hlen := l.len hv
      have hbd := fl.bd
      have hcl := k.len hk
      have hp' : ps.toArray[i]? = some (off, l.sz) := by
        unfold plB at hp
        rw [hps] at hp
        simpa using hp
      have hk2 := fl.s hk hv
      obtain ⟨cells', h1, h2⟩ := bldr_fill hps hs (cells := (cells.toList.take off ++ (a.eval o).cells.toList ++ cells.toList.drop (off + l.sz)).toArray) hr hk2
      refine ⟨cells', ?_, h2⟩
      rw [List.map_cons, fill_cons hp' (by simpa using hlen) (by simp at hcl; omega)]
      exact h1
theorem po_buildr {α : Type} (k : Kd α) {t : TypeId} {parts : List (Nat × Operand)} {x : α} (hst : k.st = true) (hz : Tz P t k) (hps : (placesOf P t).isSome = true) (h : Bldr P t T k parts k.z x) : PO P z n T B (.build t parts.toArray) (rd k x) := fun p a hs => by
  obtain ⟨ps, hps⟩ := Option.isSome_iff_exists.1 hps
  obtain ⟨cells', h1, h2⟩ := bldr_fill hps hs (cells := k.zc.toArray) h (k.zk _ _)
  have hb : P.built t (parts.map fun (i, o) => (i, a.eval o)) = some cells' := by
    unfold Tz Kd.mk' at hz
    rw [hst] at hz
    unfold placesOf at hps
    unfold Program.built
    cases hi : P.info? t with
    | none => simp [hi] at hz
    | some it =>
      split at hps
      · rename_i fs hu
        have hz' : it.zero = some (.agg k.zc.toArray) := by simpa [hi] using hz
        simp only [hu, hz', hps, Value.cells]
        exact h1
      · cases hps
  refine ⟨.agg cells', ?_, fun o w' ho _ => ?_⟩
  · show k.V _ _ _ _
    unfold Kd.V
    rw [hst]
    exact ⟨_, rfl, h2⟩
  · have := run_build (P := P) w' t (parts.map fun (i, o) => (i, a.eval o)).toArray cells' (by simpa using hb)
    simp only [execOp, ho, List.map_toArray]
    rw [Sem.run_bind, this]
    rfl
theorem St.mfz {α : Type} {k : Kd α} {m : List (Int × α)} {g : Nat} {p : Pt} {a : Act} {s i : Nat} (hs : St z p n T B a) (h : look T s = some (mown g)) (hi : B[i]? = some (some g, mapx k m)) : ∃ q : Pt, q.w = p.w ∧ St z q n ((s, rd (kMap k) m) :: T) (B.eraseIdx i) a := by
  obtain ⟨v, h1, h2⟩ := hs.tm _ _ h
  have h2 : v = .map (some g) := h2
  subst h2
  have hsub : (B.eraseIdx i).Sublist B := List.eraseIdx_sublist _ _
  obtain ⟨hS, hzg, ob, hg, es, c, rfl, hm⟩ := hs.ow g _ (List.mem_of_getElem? hi)
  have hle : p.le ⟨p.w, fun b => p.S b ∨ b = g, fun b hb => by rcases hb with hb | rfl; exact p.lt b hb; exact blk_lt hg⟩ := fun b hb => ⟨.inl hb, rfl⟩
  have hne : ∀ g' b, (some g', b) ∈ B.eraseIdx i → g' ≠ g := by
    rintro g' b hm rfl
    obtain ⟨j, hj⟩ := List.mem_iff_getElem?.1 hm
    rw [List.getElem?_eraseIdx] at hj
    split at hj
    · rename_i hlt; have := nodup_at hs.nd hi hj; omega
    · rename_i hlt; have := nodup_at hs.nd hi hj; omega
  have hs2 := hs.go (B' := B.eraseIdx i) hle hs.ex (fun b hb => by rcases hb with hb | rfl; exact hs.su b hb; exact .inr hzg) (fun g' b hm => by
    obtain ⟨h3, h4, o, h5, h6⟩ := hs.ow g' b (hsub.subset hm)
    exact ⟨fun hb => by rcases hb with hb | rfl; exact h3 hb; exact hne _ _ hm rfl, h4, o, h5, b.up hle h6⟩) (fun b hb => hs.on b (hsub.subset hb)) ((hsub.filterMap _).nodup hs.nd)
  refine ⟨⟨p.w, fun b => p.S b ∨ b = g, fun b hb => by rcases hb with hb | rfl; exact p.lt b hb; exact blk_lt hg⟩, rfl, hs2.sz, hs2.df, fun j t hj => ?_, hs2.ow, hs2.on, hs2.nd, hs2.ex, hs2.su, hs2.le⟩
  rcases look_put hj with ⟨rfl, rfl⟩ | ⟨_, hj⟩
  · exact ⟨_, h1, .inr ⟨g, es, c, rfl, .inr rfl, hg, hm.frame hle⟩⟩
  · exact hs2.tm _ _ hj
theorem x_mfz {α : Type} {k : Kd α} {m : List (Int × α)} {g : Nat} {ex : Exit} (s i : Nat) (h : look T s = some (mown g)) (hi : B[i]? = some (some g, mapx k m)) (hk : JX z n ((s, rd (kMap k) m) :: T) (B.eraseIdx i) ex Φ Q) : JX z n T B ex Φ Q := fun r hr p a hs => by
  obtain ⟨q, e, hq⟩ := hs.mfz h hi; rw [← e]; exact hk r hr q a hq
theorem l_pick {B' : Boxes} (idx : List Nat) (hn : nodB idx = true) (hB : idx.filterMap (fun i => B[i]?) = B') (h : JL P z n ops T B' l Φ Q) : JL P z n ops T B l Φ Q := fun r hr p a hs => h r hr p a (hs.pick hn hB)
theorem w_pick {B' : Boxes} {fo sk ord : List Nat} (idx : List Nat) (hn : nodB idx = true) (hB : idx.filterMap (fun i => B[i]?) = B') (h : JW P z n ops fo sk T B' ord Φ Q) : JW P z n ops fo sk T B ord Φ Q := fun r hr p a hs => h r hr p a (hs.pick hn hB)
theorem x_pick {B' : Boxes} {ex : Exit} (idx : List Nat) (hn : nodB idx = true) (hB : idx.filterMap (fun i => B[i]?) = B') (h : JX z n T B' ex Φ Q) : JX z n T B ex Φ Q := fun r hr p a hs => h r hr p a (hs.pick hn hB)
theorem po_max {k : IntKind} {b : Nat} {lo hi x y : Int} {u v : Operand} {ts : Array TypeId} (h : Ev T u (rd (kNum k b lo hi) x)) (h' : Ev T v (rd (kNum k b lo hi) y)) : PO P z n T B (.call ⟨.builtin .max, #[u, v], ts⟩) (rd (kNum k b lo hi) (max x y)) := fun p a hs => by
  have h1 := ev_num (hs.ev h); have h2 := ev_num (hs.ev h')
  refine ⟨.int k (max x y), rfl, fun o w' ho _ => ?_⟩
  have e : (if y > x then y else x) = max x y := by omega
  simp [execOp, ho, h1, h2, resolve, invoke, builtin, Builtin.max_, Builtin.max2, e]
theorem l_callbg {σ η : Type} {f at_ ts} {xs : List Operand} {Bi R : Boxes} {m : Option σ} {res : σ → η → TV} {Bo : σ → η → Boxes} {K : σ → Option ρ} (g : Gd ops T gd) (hc : Cb P f ts Bi m res Bo) (hsp : Spl B Bi R) (hx : Evs T xs ts) (hd : Nat.ble (d + 1) n = true) (hk : ∀ y h, m = some y → JL P z n ops ((d, res y h) :: T) (Bo y h ++ R) l (K y) Q) :
    JL P z n ops T B (⟨some d, .call ⟨.value (.func f), xs.toArray, at_⟩, ty, pos, af, gd⟩ :: l) (m.bind K) Q :=
  l_bind fun y hy => l_so g (s_callb hy hc hsp hd hx) fun r hr q a ⟨h, hs⟩ => hk y h hy r hr q a hs
theorem w_callbg {σ η : Type} {f at_ ts} {xs : List Operand} {Bi R : Boxes} {m : Option σ} {res : σ → η → TV} {Bo : σ → η → Boxes} {K : σ → Option ρ} {fo sk ord : List Nat} {i : Nat} (ho : ops[i]? = some ⟨some d, .call ⟨.value (.func f), xs.toArray, at_⟩, ty, pos, af, gd⟩) (hf : inL fo i = true) (hsk : inL sk i = true) (g : Gd ops T gd) (hc : Cb P f ts Bi m res Bo) (hsp : Spl B Bi R) (hx : Evs T xs ts) (hd : Nat.ble (d + 1) n = true) (hk : ∀ y h, m = some y → JW P z n ops fo sk ((d, res y h) :: T) (Bo y h ++ R) ord (K y) Q) :
    JW P z n ops fo sk T B (i :: ord) (m.bind K) Q :=
  w_bind fun y hy => w_so ho hf hsk g (s_callb hy hc hsp hd hx) fun r hr q a ⟨h, hs⟩ => hk y h hy r hr q a hs
theorem e_callb {σ η : Type} {f at_ ts} {xs : List Operand} {y : σ} {m : Option σ} {res : σ → η → TV} {Bo : σ → η → Boxes} (hy : m = some y) (hc : Cb P f ts [] m res Bo) (hd : Nat.ble (d + 1) n = true) (hx : Evs T xs ts) :
    EO P z n T B ⟨some d, .call ⟨.value (.func f), xs.toArray, at_⟩, ty, pos, af, gd⟩ (fun q a => ∃ h, St z q n ((d, res y h) :: T) (Bo y h ++ B) a) := fun p a hs K hK => by
  obtain ⟨⟨fn, hf, hb, hnm⟩, hc⟩ := hc
  unfold Oper.wp
  have hb' : fn.body ≠ none := by intro h; simp [h] at hb
  have hnm' : fn.name ≠ "runtime.NumGoroutine" := by simpa using hnm
  have e : (execOp a.eval ⟨some d, .call ⟨.value (.func f), xs.toArray, at_⟩, ty, pos, af, gd⟩).run P p.w = .ok (.enter f (xs.map a.eval).toArray) p.w := by
    simp [execOp, resolve, Deferred.ofValue, Act.eval, invoke, callFunc, hf, hnm', hb']
  rw [e]
  have hsp : ∀ B : Boxes, Spl B [] B := fun B => by induction B with | nil => exact .nil | cons b B ih => exact .r ih
  refine (hc y hy p _ hs.gl (hs.evs hx) ⟨fun g b hg => by simp at hg, fun b hg => by simp at hg, by simp [keys]⟩).mono ?_
  rintro e w' ⟨v, rfl, q, h, rfl, h1, h2, h3, h4, h5, h6⟩
  have h2' : Ext p.w q.w := ExtM.ext (by simpa [keys] using h2)
  exact hK q _ ⟨h, (hs.lent (hsp B) h1 h2 h3 h5 h6).put (Nat.le_of_ble_eq_true hd) h4⟩ h2'
theorem l_callr {σ η : Type} {f at_ ts} {xs : List Operand} {m : Option σ} {res : σ → η → TV} {Bo : σ → η → Boxes} {K : σ → Option ρ} (hc : Cb P f ts [] m res Bo) (hx : Evs T xs ts) (hd : Nat.ble (d + 1) n = true) (hk : ∀ y h, m = some y → JL P z n ops ((d, res y h) :: T) (Bo y h ++ B) l (K y) Q) :
    JL P z n ops T B (⟨some d, .call ⟨.value (.func f), xs.toArray, at_⟩, ty, pos, af, none⟩ :: l) (m.bind K) Q :=
  l_bind fun y hy => l_so trivial (e_callb hy hc hd hx).so fun r hr q a ⟨h, hs⟩ => hk y h hy r hr q a hs
theorem w_callr {σ η : Type} {f at_ ts} {xs : List Operand} {m : Option σ} {res : σ → η → TV} {Bo : σ → η → Boxes} {K : σ → Option ρ} {fo sk ord : List Nat} {i : Nat} (ho : ops[i]? = some ⟨some d, .call ⟨.value (.func f), xs.toArray, at_⟩, ty, pos, af, none⟩) (hf : inL fo i = true) (hc : Cb P f ts [] m res Bo) (hx : Evs T xs ts) (hd : Nat.ble (d + 1) n = true) (hk : ∀ y h, m = some y → JW P z n ops fo sk ((d, res y h) :: T) (Bo y h ++ B) ord (K y) Q) :
    JW P z n ops fo sk T B (i :: ord) (m.bind K) Q :=
  w_bind fun y hy => w_eo ho hf trivial (e_callb hy hc hd hx) fun r hr q a ⟨h, hs⟩ => hk y h hy r hr q a hs
theorem set_same {B : Boxes} {i : Nat} {b b' : Option Nat × BX} (hi : B[i]? = some b) (h : b = b') : B.set i b' = B := by
  subst h
  apply List.ext_getElem?
  intro j
  by_cases hij : i = j
  · subst hij; rw [List.getElem?_set_self (List.getElem?_eq_some_iff.1 hi).1, hi]
  · rw [List.getElem?_set_ne hij]
theorem l_rbe {α : Type} {k : Kd α} {g : Nat} {y y' : α} (i : Nat) (hi : B[i]? = some (some g, box k y)) (h : y = y') (hk : JL P z n ops T (B.set i (some g, box k y')) l Φ Q) : JL P z n ops T B l Φ Q := by rw [set_same hi (by rw [h])] at hk; exact hk
theorem w_rbe {α : Type} {k : Kd α} {g : Nat} {y y' : α} {fo sk ord : List Nat} (i : Nat) (hi : B[i]? = some (some g, box k y)) (h : y = y') (hk : JW P z n ops fo sk T (B.set i (some g, box k y')) ord Φ Q) : JW P z n ops fo sk T B ord Φ Q := by rw [set_same hi (by rw [h])] at hk; exact hk
def kMref : Kd (Option Nat) where
  sz := 1
  by_ := 8
  st := false
  ok := fun _ => False
  K := fun _ _ g cs => cs = [.map g]
  z := none
  zc := [.map none]
  zk := fun _ _ => rfl
  s1 := fun _ => rfl
  len := fun h => by rw [h]; rfl
  one := fun h => by rw [h]; intro v hv; simp at hv; subst hv; rfl
  frame := fun _ h => h
theorem ev_mown {g : Nat} {x : Operand} (h : Ev T x (mown g)) : Ev T x (rd kMref (some g)) := fun p a hs => by
  have h1 : a.eval x = .map (some g) := h p a hs
  show [a.eval x] = [Value.map (some g)]
  rw [h1]
theorem po_lom {o : Op} {g : Nat} {x : Option Nat} (h : PO P z n T B o (rd kMref x)) (hx : x = some g) : PO P z n T B o (mown g) := fun p a hs => by
  subst hx
  obtain ⟨v, h1, h2⟩ := h p a hs
  have h1 : [v] = [Value.map (some g)] := h1
  have h3 : v = Value.map (some g) := by simpa using h1
  exact ⟨v, h3, h2⟩
theorem ty_raw {α : Type} {k : Kd α} {off : Nat} {hz : k.zc[off]? = some (.slice none 0 0)} (h : tyB P t k = true) (hst : k.st = true := by rfl) : tyB P t (kRaw k off hz) = true := by
  unfold tyB at *
  rw [hst] at h
  exact h
theorem raw_iff {α : Type} {k : Kd α} {off : Nat} {hz : k.zc[off]? = some (.slice none 0 0)} {w : World} {S : Nat → Prop} {x : α × Hd} {cs : List Value} : (kRaw k off hz).K w S x cs ↔ cs[off]? = some x.2.v ∧ k.K w S x.1 (cs.set off (.slice none 0 0)) := by
  constructor
  · rintro ⟨l, r, rfl, h1, h2⟩
    subst h1
    refine ⟨by simp, ?_⟩
    rw [List.set_append_right _ _ (Nat.le_refl _)]
    simpa using h2
  · rintro ⟨h1, h2⟩
    obtain ⟨hl, he⟩ := List.getElem?_eq_some_iff.1 h1
    refine ⟨cs.take off, cs.drop (off + 1), ?_, by simp; omega, ?_⟩
    · rw [← he, ← List.drop_eq_getElem_cons hl, List.take_append_drop]
    · rw [List.set_eq_take_append_cons_drop, if_pos hl] at h2; exact h2
theorem raw_swap {α : Type} {k : Kd α} {a b : Nat} {hz : k.zc[a]? = some (.slice none 0 0)} {hz' : (kRaw k a hz).zc[b]? = some (.slice none 0 0)} {hy : k.zc[b]? = some (.slice none 0 0)} {hy' : (kRaw k b hy).zc[a]? = some (.slice none 0 0)} (hne : Nat.beq a b = false) {w : World} {S : Nat → Prop} {x : α} {h1 h2 : Hd} {cs : List Value}
    (h : (kRaw (kRaw k a hz) b hz').K w S ((x, h1), h2) cs) : (kRaw (kRaw k b hy) a hy').K w S ((x, h2), h1) cs := by
  have hne := Nat.ne_of_beq_eq_false hne
  rw [raw_iff] at h ⊢
  obtain ⟨e1, h⟩ := h
  rw [raw_iff] at h ⊢
  obtain ⟨e2, h⟩ := h
  rw [List.getElem?_set_ne (Ne.symm hne)] at e2
  refine ⟨e2, by rw [List.getElem?_set_ne hne]; exact e1, ?_⟩
  rw [List.set_comm _ _ hne]; exact h
theorem St.rsw {α : Type} {k : Kd α} {a b : Nat} {hz : k.zc[a]? = some (.slice none 0 0)} {hz' : (kRaw k a hz).zc[b]? = some (.slice none 0 0)} (hy : k.zc[b]? = some (.slice none 0 0)) (hy' : (kRaw k b hy).zc[a]? = some (.slice none 0 0)) (hne : Nat.beq a b = false) {x : α} {h1 h2 : Hd} {p : Pt} {ac : Act} {i g : Nat} (hs : St z p n T B ac) (hi : B[i]? = some (some g, Go.Proofs.YtojgddnefopdjaaGreatDoor.box (kRaw (kRaw k a hz) b hz') ((x, h1), h2))) : St z p n T (B.set i (some g, Go.Proofs.YtojgddnefopdjaaGreatDoor.box (kRaw (kRaw k b hy) a hy') ((x, h2), h1))) ac := by
  have hlt := List.getElem?_eq_some_iff.1 hi
  refine ⟨hs.sz, hs.df, hs.tm, fun g' b' hb => ?_, fun b' hb => ?_, by rw [nodup_set hi]; exact hs.nd, hs.ex, hs.su, hs.le⟩
  · obtain ⟨m, hm⟩ := List.mem_iff_getElem?.1 hb
    by_cases him : i = m
    · subst him
      rw [List.getElem?_set_self hlt.1] at hm
      injection hm with hm
      injection hm with e1 e2
      injection e1 with e1
      subst e1; subst e2
      obtain ⟨n1, n2, ob, hg, cs, tt, rfl, hK⟩ := hs.ow g _ (List.mem_of_getElem? hi)
      exact ⟨n1, n2, _, hg, cs, tt, rfl, raw_swap hne hK⟩
    · rw [List.getElem?_set_ne him] at hm; exact hs.ow g' b' (List.mem_of_getElem? hm)
  · obtain ⟨m, hm⟩ := List.mem_iff_getElem?.1 hb
    by_cases him : i = m
    · subst him
      rw [List.getElem?_set_self hlt.1] at hm
      injection hm with hm
      injection hm with e1 e2
      cases e1
    · rw [List.getElem?_set_ne him] at hm; exact hs.on b' (List.mem_of_getElem? hm)
theorem l_rsw {α : Type} {k : Kd α} {a b : Nat} {hz : k.zc[a]? = some (.slice none 0 0)} {hz' : (kRaw k a hz).zc[b]? = some (.slice none 0 0)} {x : α} {h1 h2 : Hd} {g : Nat} (i : Nat) (hi : B[i]? = some (some g, box (kRaw (kRaw k a hz) b hz') ((x, h1), h2))) (hy : k.zc[b]? = some (.slice none 0 0)) (hy' : (kRaw k b hy).zc[a]? = some (.slice none 0 0)) (hne : Nat.beq a b = false) (hk : JL P z n ops T (B.set i (some g, box (kRaw (kRaw k b hy) a hy') ((x, h2), h1))) l Φ Q) : JL P z n ops T B l Φ Q := fun r hr p a hs => hk r hr p a (hs.rsw hy hy' hne hi)
theorem ct_none {f : FuncId} {fn : Func} {c : Code} {ts : List TV} {res : ρ → TV} (hf : P.funcs[f]? = some fn) (hb : fn.body = some c) (hnm : (fn.name == "runtime.NumGoroutine") = false) : Ct P f ts (none : Option ρ) res := ⟨⟨fn, hf, by rw [hb]; rfl, hnm⟩, fun r hr => by cases hr⟩
theorem cb_none {η : Type} {f : FuncId} {fn : Func} {c : Code} {ts : List TV} {Bi : Boxes} {res : ρ → η → TV} {Bo : ρ → η → Boxes} (hf : P.funcs[f]? = some fn) (hb : fn.body = some c) (hnm : (fn.name == "runtime.NumGoroutine") = false) : Cb P f ts Bi (none : Option ρ) res Bo := ⟨⟨fn, hf, by rw [hb]; rfl, hnm⟩, fun r hr => by cases hr⟩
theorem l_none {Q : Kont ρ} : JL P z n ops T B l (none : Option ρ) Q := fun r hr => by cases hr
end
end Go.Proofs.YtojgddnefopdjaaGreatDoor
namespace Go.Proofs.YtojgddnefopdjaaGreatDoor
open Go.RowKit
set_option linter.unusedVariables false
def Mf (t : TV) : Prop := ∀ p q v, t.h p v → t.h q v
def Mfk {α : Type} (k : Kd α) : Prop := ∀ w S w' S' x cs, k.K w S x cs → k.K w' S' x cs
theorem mfk_num {k : IntKind} {b : Nat} {lo hi : Int} : Mfk (kNum k b lo hi) := fun _ _ _ _ _ _ h => h
theorem mfk_bool : Mfk kBool := fun _ _ _ _ _ _ h => h
theorem mf_k {α : Type} {k : Kd α} {x : α} (h : Mfk k) : Mf (rd k x) := fun p q v hv => by
  have hv : k.V p.w p.S x v := hv
  show k.V q.w q.S x v
  unfold Kd.V at *
  split at hv
  · obtain ⟨cs, e, hk⟩ := hv; exact ⟨cs, e, h _ _ _ _ _ _ hk⟩
  · exact h _ _ _ _ _ _ hv
def cloT (f : FuncId) (gs : List Nat) : TV := ⟨fun _ v => v = .func (.func f) #[] (gs.map fun g => Value.pointer (some ⟨g, 0, none⟩)).toArray, fun _ h => h⟩
section
variable {P : Program} {ρ : Type} {z : Zt} {n : Nat} {T : Slots} {B : Boxes} {ops l : List Oper} {Φ : Option ρ} {Q : Kont ρ} {ty t : TypeId} {pos : String} {af : Array Edge} {gd : Option (Nat × Bool)} {d : Nat}
def St.bq {p : Pt} {a : Act} (hs : St z p n T B a) : Pt := ⟨p.w, fun b => p.S b ∨ b ∈ keys B, fun b hb => by
  rcases hb with hb | hb
  · exact p.lt b hb
  · obtain ⟨x, hx⟩ := mem_keys.1 hb
    obtain ⟨_, _, o, h, _⟩ := hs.ow b x hx
    exact blk_lt h⟩
theorem St.bq_le {p : Pt} {a : Act} (hs : St z p n T B a) : p.le hs.bq := fun b hb => ⟨.inl hb, rfl⟩
def EvB (z : Zt) (n : Nat) (T : Slots) (B : Boxes) (x : Operand) (t : TV) : Prop := ∀ (p : Pt) (a : Act) (hs : St z p n T B a), t.h hs.bq (a.eval x)
theorem EvB.ev {x : Operand} {t : TV} (h : Ev T x t) : EvB z n T B x t := fun p a hs => t.up hs.bq_le (hs.ev h)
theorem EvB.row {α : Type} {k : Kd α} {e : TypeId} {xs : List α} {o : Option Nat} {c : Nat} {x : Operand} (j : Nat) (h : Ev T x (row k xs o c)) (hj : B[j]? = some (o, rows k e xs c)) : EvB z n T B x (rd (kSl k) xs) := fun p a hs => by
  have h1 : a.eval x = .slice (o.map fun g => ⟨g, 0, none⟩) xs.length c := hs.ev h
  cases o with
  | none =>
    have h0 : xs = [] ∧ c = 0 := hs.on _ (List.mem_of_getElem? hj)
    obtain ⟨rfl, rfl⟩ := h0
    exact ⟨none, 0, by rw [h1]; rfl, Nat.le_refl _, by decide, fun _ => rfl, fun i x hx => by simp at hx⟩
  | some g =>
    obtain ⟨hS, hzg, ob, hg, cs, more, rfl, hRx, hxc, hcm, hcl⟩ := hs.ow g _ (List.mem_of_getElem? hj)
    refine ⟨some ⟨g, 0, none⟩, c, by rw [h1]; rfl, hxc, by unfold maxLen at hcm; omega, fun h => (by cases h), ?_⟩
    exact Kd.C_row (cs := cs) (more := more) (t := e) (fr := (0, 0)) hg (.inr (mem_keys.2 ⟨_, List.mem_of_getElem? hj⟩)) (Kd.R_frame hs.bq_le hRx)
theorem EvB.map {α : Type} {k : Kd α} {m : List (Int × α)} {g : Nat} {x : Operand} (j : Nat) (h : Ev T x (mown g)) (hj : B[j]? = some (some g, mapx k m)) : EvB z n T B x (rd (kMap k) m) := fun p a hs => by
  have h1 : a.eval x = .map (some g) := hs.ev h
  obtain ⟨hS, hzg, ob, hg, es, c, rfl, hm⟩ := hs.ow g _ (List.mem_of_getElem? hj)
  exact .inr ⟨g, es, c, by rw [h1], .inr (mem_keys.2 ⟨_, List.mem_of_getElem? hj⟩), hg, hm.frame hs.bq_le⟩
inductive Cap (B : Boxes) : Nat → TV → Prop
  | box {α : Type} {k : Kd α} {x : α} {g : Nat} (i : Nat) : B[i]? = some (some g, box k x) → Cap B g (at_ k x)
  | map {α : Type} {k : Kd α} {m : List (Int × α)} {g gm : Nat} (i j : Nat) : B[i]? = some (some g, Go.Proofs.YtojgddnefopdjaaGreatDoor.box kMref (some gm)) → B[j]? = some (some gm, mapx k m) → Cap B g (at_ (kMap k) m)
theorem Cap.h {p : Pt} {a : Act} (hs : St z p n T B a) {g : Nat} {t : TV} (h : Cap B g t) : t.h hs.bq (.pointer (some ⟨g, 0, none⟩)) := by
  cases h with
  | @box α k x _ i hi =>
    obtain ⟨_, _, cs, tt, hg, hK⟩ := hs.box hi
    refine ⟨⟨g, 0, none⟩, cs.toList, rfl, .inr (mem_keys.2 ⟨_, List.mem_of_getElem? hi⟩), Kd.frame _ hs.bq_le hK, fun j u hj => ?_⟩
    show p.w.cell? _ = _
    rw [add_plain, cell_of_row _ _ _ _ _ _ hg]
    simpa using hj
  | @map α k m _ gm i j hi hj =>
    obtain ⟨_, _, cs, tt, hg, hK⟩ := hs.box hi
    obtain ⟨_, _, ob, hgm, es, c, rfl, hm⟩ := hs.ow gm _ (List.mem_of_getElem? hj)
    have hK : cs.toList = [.map (some gm)] := hK
    refine ⟨⟨g, 0, none⟩, cs.toList, rfl, .inr (mem_keys.2 ⟨_, List.mem_of_getElem? hi⟩), ?_, fun q u hq => ?_⟩
    · exact .inr ⟨gm, es, c, hK, .inr (mem_keys.2 ⟨_, List.mem_of_getElem? hj⟩), hgm, hm.frame hs.bq_le⟩
    · show p.w.cell? _ = _
      rw [add_plain, cell_of_row _ _ _ _ _ _ hg]
      simpa using hq
inductive Caps (B : Boxes) : List Nat → List TV → Prop
  | nil : Caps B [] []
  | cons {g t gs ts} : Cap B g t → Caps B gs ts → Caps B (g :: gs) (t :: ts)
theorem Caps.h {p : Pt} {a : Act} (hs : St z p n T B a) : ∀ {gs ts}, Caps B gs ts → both hs.bq ts (gs.map fun g => Value.pointer (some ⟨g, 0, none⟩))
  | _, _, .nil => trivial
  | _, _, .cons h hh => ⟨h.h hs, Caps.h hs hh⟩
theorem EvB.clo {σ β : Type} {f : FuncId} {gs : List Nat} {ts : σ → List TV} {F : σ → Option β} {res : β → TV} {caps : List TV} {x : Operand} (h : Ev T x (cloT f gs)) (x0 : σ) (hc : ∀ y, Ct P f (ts y ++ caps) (F y) res) (hcap : Caps B gs caps) : EvB z n T B x (fnv P ts F res) := fun p a hs => by
  have h1 : a.eval x = .func (.func f) #[] (gs.map fun g => Value.pointer (some ⟨g, 0, none⟩)).toArray := hs.ev h
  exact ⟨f, _, h1, (hc x0).1, fun q hq hg y vs hv r hr => (hc y).2 r hr q _ hg (both_append hv (both_up hq (hcap.h hs)))⟩
theorem po_mkc {f : FuncId} {xs : List Operand} {gs : List Nat} (hx : Evs T xs (gs.map fun g => own g 0)) : PO P z n T B (.makeFunc (.func f) #[] xs.toArray) (cloT f gs) := fun p a hs => by
  have h := hs.evs hx
  have e : xs.map a.eval = gs.map fun g => Value.pointer (some ⟨g, 0, none⟩) := by
    clear hx
    generalize hvs : xs.map a.eval = vs at h
    clear hvs
    induction gs generalizing vs with
    | nil => cases vs with | nil => rfl | cons v vs => exact h.elim
    | cons g gs ih =>
      cases vs with
      | nil => exact h.elim
      | cons v vs =>
        have h1 : v = .pointer (some ⟨g, 0, none⟩) := h.1
        rw [h1, ih vs h.2]; rfl
  exact ⟨_, rfl, fun o w' ho _ => by simp [execOp, ho, Instr.makeFunc, e]⟩
def EvBs (z : Zt) (n : Nat) (T : Slots) (B : Boxes) : List Operand → List TV → Prop
  | [], [] => True
  | x :: xs, t :: ts => EvB z n T B x t ∧ EvBs z n T B xs ts
  | _, _ => False
theorem EvBs.h {p : Pt} {a : Act} (hs : St z p n T B a) : ∀ {xs ts}, EvBs z n T B xs ts → both hs.bq ts (xs.map a.eval)
  | [], [], _ => trivial
  | _ :: _, _ :: _, hh => ⟨hh.1 p a hs, EvBs.h hs hh.2⟩
  | [], _ :: _, hh => hh.elim
  | _ :: _, [], hh => hh.elim
theorem e_callw {σ : Type} {f at_ ts} {xs : List Operand} {y : σ} {m : Option σ} {res : σ → TV} (hy : m = some y) (hc : Ct P f ts m res) (hm : Mf (res y)) (hd : Nat.ble (d + 1) n = true) (hx : EvBs z n T B xs ts) :
    EO P z n T B ⟨some d, .call ⟨.value (.func f), xs.toArray, at_⟩, ty, pos, af, gd⟩ (fun q a => St z q n ((d, res y) :: T) B a) := fun p a hs K hK => by
  obtain ⟨⟨fn, hf, hb, hnm⟩, hc⟩ := hc
  unfold Oper.wp
  have hb' : fn.body ≠ none := by intro h; simp [h] at hb
  have hnm' : fn.name ≠ "runtime.NumGoroutine" := by simpa using hnm
  have e : (execOp a.eval ⟨some d, .call ⟨.value (.func f), xs.toArray, at_⟩, ty, pos, af, gd⟩).run P p.w = .ok (.enter f (xs.map a.eval).toArray) p.w := by
    simp [execOp, resolve, Deferred.ofValue, Act.eval, invoke, callFunc, hf, hnm', hb']
  rw [e]
  refine (hc y hy hs.bq _ (gl_up hs.bq_le hs.gl) (hx.h hs)).mono ?_
  rintro e w' ⟨v, rfl, q, rfl, h1, h2, h3, h4⟩
  have h2 : Ext p.w q.w := h2
  have lt : ∀ b, (p.S b ∨ (p.w.heap.size ≤ b ∧ q.S b)) → b < q.w.heap.size := fun b hb => by
    rcases hb with hb | ⟨_, hb⟩
    · exact Nat.lt_of_lt_of_le (p.lt b hb) h2.size
    · exact q.lt b hb
  have hle : p.le ⟨q.w, fun b => p.S b ∨ (p.w.heap.size ≤ b ∧ q.S b), lt⟩ := fun b hb => ⟨.inl hb, (h1 b (.inl hb)).2⟩
  have := hK ⟨q.w, fun b => p.S b ∨ (p.w.heap.size ≤ b ∧ q.S b), lt⟩ (a.put (some d) v) ((hs.callOp hle h2 (fun b hb => by rcases hb with hb | ⟨hb, _⟩; exact .inl hb; exact .inr hb)).put (Nat.le_of_ble_eq_true hd) (hm _ _ _ h4)) h2
  exact this
theorem l_bslg {α : Type} (k : Kd α) {len : Nat} {parts : List (Nat × Operand)} {ys : List α} (g : Gd ops T gd) (ht : slzB P t k.sz = true) (hl : (Nat.beq parts.length len && Nat.ble 1 len && Nat.ble (len * k.sz) 16777216) = true) (h : Bsl T k 0 parts ys) (hd : Nat.ble (d + 1) n = true)
    (hk : JL P z n ops ((d, rd (kSl k) ys) :: T) B l Φ Q) : JL P z n ops T B (⟨some d, .buildSlice t len parts.toArray, ty, pos, af, gd⟩ :: l) Φ Q :=
  l_so g (e_bsl k ht hl h hd).so fun r hr q a hs => hk r hr q a hs
theorem St.cv2 {α β γ δ : Type} {kR : Kd α} {k : Kd β} {k1 : Kd γ} {k2 : Kd δ} {x : α} {y : β} {m1 : List (Int × γ)} {m2 : List (Int × δ)} {g g1 g2 : Nat} {p : Pt} {a : Act} {i j1 j2 : Nat} (hs : St z p n T B a) (hi : B[i]? = some (some g, Go.Proofs.YtojgddnefopdjaaGreatDoor.box kR x)) (h1 : B[j1]? = some (some g1, mapx k1 m1)) (h2 : B[j2]? = some (some g2, mapx k2 m2))
    (hR : ∀ {w S cs}, kR.K w S x cs → cs = [.map (some g1), .map (some g2)]) (hK : ∀ {w S}, (kMap k1).K w S m1 [.map (some g1)] → (kMap k2).K w S m2 [.map (some g2)] → k.K w S y [.map (some g1), .map (some g2)]) :
    ∃ q : Pt, q.w = p.w ∧ St z q n T [(some g, Go.Proofs.YtojgddnefopdjaaGreatDoor.box k y)] a := by
  obtain ⟨n1, n2, cs, tt, hg, hKR⟩ := hs.box hi
  obtain ⟨m1', m2', ob, hg1, es1, c1, rfl, hm1⟩ := hs.ow g1 _ (List.mem_of_getElem? h1)
  obtain ⟨l1', l2', ob, hg2, es2, c2, rfl, hm2⟩ := hs.ow g2 _ (List.mem_of_getElem? h2)
  have lt : ∀ b, (p.S b ∨ b = g1 ∨ b = g2) → b < p.w.heap.size := fun b hb => by
    rcases hb with hb | rfl | rfl
    · exact p.lt b hb
    · exact blk_lt hg1
    · exact blk_lt hg2
  have hle : p.le ⟨p.w, fun b => p.S b ∨ b = g1 ∨ b = g2, lt⟩ := fun b hb => ⟨.inl hb, rfl⟩
  refine ⟨⟨p.w, fun b => p.S b ∨ b = g1 ∨ b = g2, lt⟩, rfl, hs.go hle hs.ex (fun b hb => by rcases hb with hb | rfl | rfl; exact hs.su b hb; exact .inr m2'; exact .inr l2') (fun g' b hb => ?_) (fun b hb => by simp at hb) (by simp)⟩
  simp only [List.mem_cons, List.not_mem_nil, or_false, Prod.mk.injEq, Option.some.injEq] at hb
  obtain ⟨rfl, rfl⟩ := hb
  have hne1 : g' ≠ g1 := by
    rintro rfl
    rw [hg] at hg1; cases hg1
  have hne2 : g' ≠ g2 := by
    rintro rfl
    rw [hg] at hg2; cases hg2
  refine ⟨fun hb => by rcases hb with hb | hb | hb; exact n1 hb; exact hne1 hb; exact hne2 hb, n2, _, hg, cs, tt, rfl, ?_⟩
  rw [hR hKR]
  exact hK (.inr ⟨g1, es1, c1, rfl, .inr (.inl rfl), hg1, hm1.frame hle⟩) (.inr ⟨g2, es2, c2, rfl, .inr (.inr rfl), hg2, hm2.frame hle⟩)
theorem x_cv2 {α β γ δ : Type} {kR : Kd α} {k : Kd β} {k1 : Kd γ} {k2 : Kd δ} {x : α} {y : β} {m1 : List (Int × γ)} {m2 : List (Int × δ)} {g g1 g2 : Nat} {ex : Exit} (i j1 j2 : Nat) (hi : B[i]? = some (some g, box kR x)) (h1 : B[j1]? = some (some g1, mapx k1 m1)) (h2 : B[j2]? = some (some g2, mapx k2 m2))
    (hR : ∀ {w S cs}, kR.K w S x cs → cs = [.map (some g1), .map (some g2)]) (hK : ∀ {w S}, (kMap k1).K w S m1 [.map (some g1)] → (kMap k2).K w S m2 [.map (some g2)] → k.K w S y [.map (some g1), .map (some g2)])
    (hk : JX z n T [(some g, box k y)] ex Φ Q) : JX z n T B ex Φ Q := fun r hr p a hs => by
  obtain ⟨q, e, hq⟩ := hs.cv2 hi h1 h2 hR hK; rw [← e]; exact hk r hr q a hq
theorem cv2_R {g1 g2 : Nat} {w : World} {S : Nat → Prop} {cs : List Value} (h : (kTwo kMref kMref).K w S (some g1, some g2) cs) : cs = [.map (some g1), .map (some g2)] := by
  obtain ⟨c1, c2, rfl, h1, h2⟩ := h
  have h1 : c1 = [.map (some g1)] := h1
  have h2 : c2 = [.map (some g2)] := h2
  rw [h1, h2]; rfl
theorem cv2_K {γ δ : Type} {k1 : Kd γ} {k2 : Kd δ} {m1 : List (Int × γ)} {m2 : List (Int × δ)} {g1 g2 : Nat} {w : World} {S : Nat → Prop} (h1 : (kMap k1).K w S m1 [.map (some g1)]) (h2 : (kMap k2).K w S m2 [.map (some g2)]) : (kTwo (kMap k1) (kMap k2)).K w S (m1, m2) [.map (some g1), .map (some g2)] := ⟨_, _, rfl, h1, h2⟩
theorem ty_R {α β : Type} {k : Kd α} {k' : Kd β} {t : TypeId} (h : tyB P t k = true) (hs : k'.sz = k.sz := by rfl) (hst : k'.st = k.st := by rfl) : tyB P t k' = true := by
  unfold tyB at *
  rw [hs, hst]; exact h
theorem tzI {α : Type} {k : Kd α} (h : (P.info? t).bind (·.zero) = some (k.mk' k.zc)) : Tz P t k := h
theorem l_callw {σ : Type} {f at_ ts} {xs : List Operand} {m : Option σ} {res : σ → TV} {K : σ → Option ρ} (hc : Ct P f ts m res) (hm : ∀ y, Mf (res y)) (hx : EvBs z n T B xs ts) (hd : Nat.ble (d + 1) n = true) (hk : ∀ y, m = some y → JL P z n ops ((d, res y) :: T) B l (K y) Q) :
    JL P z n ops T B (⟨some d, .call ⟨.value (.func f), xs.toArray, at_⟩, ty, pos, af, none⟩ :: l) (m.bind K) Q :=
  l_bind fun y hy => l_so trivial (e_callw hy hc (hm y) hd hx).so fun r hr q a hs => hk y hy r hr q a hs
theorem w_callwg {σ : Type} {f at_ ts} {xs : List Operand} {m : Option σ} {res : σ → TV} {K : σ → Option ρ} {fo sk ord : List Nat} {i : Nat} (ho : ops[i]? = some ⟨some d, .call ⟨.value (.func f), xs.toArray, at_⟩, ty, pos, af, gd⟩) (hf : inL fo i = true) (g : Gd ops T gd) (hc : Ct P f ts m res) (hm : ∀ y, Mf (res y)) (hx : EvBs z n T B xs ts) (hd : Nat.ble (d + 1) n = true) (hk : ∀ y, m = some y → JW P z n ops fo sk ((d, res y) :: T) B ord (K y) Q) :
    JW P z n ops fo sk T B (i :: ord) (m.bind K) Q :=
  w_bind fun y hy => w_eo ho hf g (e_callw hy hc (hm y) hd hx) fun r hr q a hs => hk y hy r hr q a hs
theorem St.bmf {α : Type} {k : Kd α} {m : List (Int × α)} {g gm : Nat} {p : Pt} {a : Act} {s i j : Nat} (hs : St z p n T B a) (h : look T s = some (own g 0)) (hi : B[i]? = some (some g, Go.Proofs.YtojgddnefopdjaaGreatDoor.box kMref (some gm))) (hj : B[j]? = some (some gm, mapx k m)) (hij : Nat.ble (i + 1) j = true) :
    ∃ q : Pt, q.w = p.w ∧ St z q n ((s, at_ (kMap k) m) :: T) ((B.eraseIdx j).eraseIdx i) a := by
  obtain ⟨v, h1, h2⟩ := hs.tm _ _ h
  have h2 : v = .pointer (some ⟨g, 0, none⟩) := h2
  subst h2
  have hij := Nat.le_of_ble_eq_true hij
  obtain ⟨n1, n2, cs, tt, hg, hK⟩ := hs.box hi
  obtain ⟨m1, m2, ob, hgm, es, c, rfl, hm⟩ := hs.ow gm _ (List.mem_of_getElem? hj)
  have lt : ∀ b, (p.S b ∨ b = g ∨ b = gm) → b < p.w.heap.size := fun b hb => by
    rcases hb with hb | rfl | rfl
    · exact p.lt b hb
    · exact blk_lt hg
    · exact blk_lt hgm
  have hle : p.le ⟨p.w, fun b => p.S b ∨ b = g ∨ b = gm, lt⟩ := fun b hb => ⟨.inl hb, rfl⟩
  have hsub : ((B.eraseIdx j).eraseIdx i).Sublist B := (List.eraseIdx_sublist _ _).trans (List.eraseIdx_sublist _ _)
  have hmem : ∀ b, b ∈ (B.eraseIdx j).eraseIdx i → ∃ q, q ≠ i ∧ q ≠ j ∧ B[q]? = some b := fun b hb => by
    obtain ⟨q, hq⟩ := List.mem_iff_getElem?.1 hb
    rw [List.getElem?_eraseIdx] at hq
    split at hq
    · rw [List.getElem?_eraseIdx] at hq
      split at hq
      · exact ⟨q, by omega, by omega, hq⟩
      · omega
    · rw [List.getElem?_eraseIdx] at hq
      split at hq
      · exact ⟨q + 1, by omega, by omega, hq⟩
      · exact ⟨q + 1 + 1, by omega, by omega, hq⟩
  have hs2 := hs.go (B' := (B.eraseIdx j).eraseIdx i) hle hs.ex (fun b hb => by rcases hb with hb | rfl | rfl; exact hs.su b hb; exact .inr n2; exact .inr m2) (fun g' b hb => by
    obtain ⟨h3, h4, o, h5, h6⟩ := hs.ow g' b (hsub.subset hb)
    obtain ⟨q, q1, q2, hq⟩ := hmem _ hb
    refine ⟨fun hx => ?_, h4, o, h5, b.up hle h6⟩
    rcases hx with hx | rfl | rfl
    · exact h3 hx
    · exact q1 (nodup_at hs.nd hq hi)
    · exact q2 (nodup_at hs.nd hq hj)) (fun b hb => hs.on b (hsub.subset hb)) ((hsub.filterMap _).nodup hs.nd)
  refine ⟨⟨p.w, fun b => p.S b ∨ b = g ∨ b = gm, lt⟩, rfl, hs2.sz, hs2.df, fun q t hq => ?_, hs2.ow, hs2.on, hs2.nd, hs2.ex, hs2.su, hs2.le⟩
  rcases look_put hq with ⟨rfl, rfl⟩ | ⟨_, hq⟩
  · refine ⟨_, h1, ⟨g, 0, none⟩, cs.toList, rfl, .inr (.inl rfl), .inr ⟨gm, es, c, hK, .inr (.inr rfl), hgm, hm.frame hle⟩, fun q u hq => ?_⟩
    show p.w.cell? _ = _
    rw [add_plain, cell_of_row _ _ _ _ _ _ hg]
    simpa using hq
  · exact hs2.tm _ _ hq
theorem l_bmf {α : Type} {k : Kd α} {m : List (Int × α)} {g gm : Nat} (s i j : Nat) (h : look T s = some (own g 0)) (hi : B[i]? = some (some g, box kMref (some gm))) (hj : B[j]? = some (some gm, mapx k m)) (hij : Nat.ble (i + 1) j = true) (hk : JL P z n ops ((s, at_ (kMap k) m) :: T) ((B.eraseIdx j).eraseIdx i) l Φ Q) : JL P z n ops T B l Φ Q := fun r hr p a hs => by
  obtain ⟨q, e, hq⟩ := hs.bmf h hi hj hij; rw [← e]; exact hk r hr q a hq
end
end Go.Proofs.YtojgddnefopdjaaGreatDoor
namespace Go.Proofs.YtojgddnefopdjaaGreatDoor
open Go.RowKit
set_option linter.unusedVariables false
def KY (Y : Nat → Prop) (w w' : World) : Prop := ∀ b, Y b → ∀ o, w.heap[b]? = some o → w'.heap[b]? = some o
theorem KY.refl (Y : Nat → Prop) (w : World) : KY Y w w := fun _ _ _ h => h
theorem KY.trans {Y : Nat → Prop} {a b c : World} (h : KY Y a b) (k : KY Y b c) : KY Y a c := fun i hi o ho => k i hi o (h i hi o ho)
theorem Ext.ky {Y : Nat → Prop} {a b : World} (h : Ext a b) : KY Y a b := fun i _ o ho => h.blk ho
def Rl (Y : Nat → Prop) : Nat → World → World → Prop
  | 0, _, _ => True
  | 1, w, w' => KY Y w w'
  | _, w, w' => Ext w w'
theorem Rl.refl (Y : Nat → Prop) : ∀ (l : Nat) (w : World), Rl Y l w w
  | 0, _ => trivial
  | 1, w => KY.refl Y w
  | _ + 2, w => Ext.refl w
theorem Rl.trans {Y : Nat → Prop} : ∀ {l : Nat} {a b c : World}, Rl Y l a b → Rl Y l b c → Rl Y l a c
  | 0, _, _, _, _, _ => trivial
  | 1, _, _, _, h, k => KY.trans h k
  | _ + 2, _, _, _, h, k => Ext.trans h k
section
variable {P : Program} {ops : Array Oper} {Y : Nat → Prop}
def FloatY (P : Program) (ops : Array Oper) (Y : Nat → Prop) (l : Nat) (o : Oper) (v : Value) (a : Act) (w : World) : Prop :=
  (Region.wanted o (yielded ops a.tmps) = true ∧ ∀ w', Rl Y l w w' → (execOp a.eval o).run P w' = .ok (.value v) w') ∨
  (Region.wanted o (yielded ops a.tmps) = false ∧ v = undef)
theorem FloatY.later {l : Nat} {o : Oper} {v : Value} {a : Act} {w w' : World} (h : FloatY P ops Y l o v a w) (he : Rl Y l w w') : FloatY P ops Y l o v a w' := by
  rcases h with ⟨h1, h2⟩ | h
  · exact .inl ⟨h1, fun x hx => h2 x (he.trans hx)⟩
  · exact .inr h
theorem FloatY.of_same {l : Nat} {o : Oper} {v : Value} {a a' : Act} {w : World} (hy : FloatY P ops Y l o v a w) (he : execOp a'.eval o = execOp a.eval o)
    (hw : Region.wanted o (yielded ops a'.tmps) = Region.wanted o (yielded ops a.tmps)) : FloatY P ops Y l o v a' w := by
  unfold FloatY at *
  rw [he, hw]
  exact hy
theorem FloatY.wpOp {l : Nat} {i : Nat} {o : Oper} {v : Value} {a : Act} {w : World} {Q : Exit → Act → World → Prop} (hi : ops[i]? = some o) (hy : FloatY P ops Y l o v a w) {K : Act → World → Prop} (h : K (a.put o.dst v) w) : Go.wpOp P ops Q i K a w := by
  unfold Go.wpOp
  simp only [hi]
  rcases hy with ⟨hw, hv⟩ | ⟨hw, rfl⟩
  · have := hv w (Rl.refl Y l w)
    simp only [hw, if_true, Oper.wp, this, Oper.upon]; exact .inl h
  · simp only [hw, Bool.false_eq_true, if_false]; exact h
theorem wpOp_putY {l : Nat} {j : Nat} {oi oj : Oper} {v : Value} (hj : ops[j]? = some oj) (hap : oi.apart ops oj = true)
    (hsi : ∀ cs b, oi.op ≠ .select cs b) (hsj : ∀ cs b, oj.op ≠ .select cs b) {K : Act → World → Prop} {a : Act} {w : World}
    (hy : FloatY P ops Y l oi v a w) (h : wpOp P ops NoQ j K (a.put oi.dst v) w) :
    wpOp P ops NoQ j (fun a' w' => FloatY P ops Y l oi v a' w ∧ K (a'.put oi.dst v) w') a w := by
  obtain ⟨h1, h2, h3⟩ := Oper.apart_spec hap
  have keep : ∀ (a : Act), FloatY P ops Y l oi v a w → ∀ u, FloatY P ops Y l oi v (a.put oj.dst u) w := fun a hy u =>
    hy.of_same (execOp_put oi hsi a oj.dst u h3) (wanted_put oi a oj.dst u h3)
  have keepD : ∀ d, FloatY P ops Y l oi v { a with defers := d :: a.defers } w := fun d => hy.of_same rfl rfl
  unfold wpOp at *
  simp only [hj] at *
  rw [wanted_put oj a oi.dst v h1] at h
  split
  · rename_i hw
    simp only [hw, if_true] at h
    rcases h with h | ⟨_, hlets⟩
    case inr => exact (noQ_lets hlets).elim
    refine .inl ?_
    unfold Oper.wp at *
    rw [execOp_put oj hsj a oi.dst v h1] at h
    generalize (execOp a.eval oj).run P w = r at *
    cases r with
    | ok n w' =>
      cases n <;> simp only [Oper.upon] at h ⊢
      case value u => exact ⟨keep a hy u, by rw [← Act.put_comm a v u h2]; exact h⟩
      case skip => exact ⟨keep a hy _, by rw [← Act.put_comm a v undef h2]; exact h⟩
      case defer d =>
        refine ⟨keep _ (keepD d) _, ?_⟩
        rw [← Act.put_comm _ v undef h2, ← Act.put_defers]
        exact h
      case enter f args =>
        refine Calls.mono h fun e w'' he => ?_
        cases e with
        | returned u => exact ⟨keep a hy u, by rw [← Act.put_comm a v u h2]; exact he⟩
        | panicked c => exact he
        | outgrown => exact he
      case row row args => exact Rows.mono h fun u w'' he => ⟨keep a hy u, by rw [← Act.put_comm a v u h2]; exact he⟩
    | halt x w' =>
      cases x <;> simp only [Oper.upon] at h ⊢
      case panic u => exact h
  · rename_i hw
    simp only [hw] at h
    exact ⟨keep a hy _, by rw [← Act.put_comm a v undef h2]; exact h⟩
def anyY (P : Program) (ops : Array Oper) (Y : Nat → Prop) (sk : Nat → Bool) (Q : Act → World → Prop) : Nat → Array Bool → Act → World → Prop
  | 0, listed, a, w => Region.ready .any ops listed = [] ∧ Q a w
  | f + 1, listed, a, w => (Region.ready .any ops listed = [] → Q a w) ∧
    ∀ i ∈ Region.ready .any ops listed, wpOp P ops NoQ i (fun a' w' => (sk i = false → Ext w w') ∧ KY Y w w' ∧ anyY P ops Y sk Q f (listed.setIfInBounds i true) a' w') a w
theorem wpAny_of_anyY {sk : Nat → Bool} {Q : Act → World → Prop} {Q' : Exit → Act → World → Prop} (hQ : ∀ a w, Q a w → Q' .normal a w) : ∀ (f : Nat) (listed : Array Bool) (a : Act) (w : World),
    anyY P ops Y sk Q f listed a w → wpAny P .any ops Q' f listed a w
  | 0, _, _, _, h => ⟨h.1, hQ _ _ h.2⟩
  | f + 1, _, _, _, h => ⟨fun h0 => hQ _ _ (h.1 h0), fun i hi => wpOp_ofNo (fun a' w' h' => wpAny_of_anyY hQ f _ a' w' h'.2.2) (h.2 i hi)⟩
theorem anyY_first {l : Nat} {sk : Nat → Bool} {Q : Act → World → Prop} {i : Nat} {oi : Oper} {v : Value} (hi : ops[i]? = some oi) (hsel : ∀ (j : Nat) (o : Oper) cs b, ops[j]? = some o → o.op ≠ .select cs b) (hski : sk i = false) :
    ∀ (f : Nat) (listed : Array Bool) (a : Act) (w : World), Closed ops listed →
      (∀ j oj, ops[j]? = some oj → j ≠ i → listed.getD j true = false → (∀ e ∈ oj.after, Region.binds .any e = true → e.on ≠ i) → oi.apart ops oj = true) →
      (∀ j, sk j = true → listed.getD j true = false → 2 ≤ l → ∃ n, anc ops n j i = true) →
      i ∈ Region.ready .any ops listed → FloatY P ops Y l oi v a w →
      anyY P ops Y sk Q f (listed.setIfInBounds i true) (a.put oi.dst v) w → anyY P ops Y sk Q (f + 1) listed a w := by
  intro f
  induction f with
  | zero =>
    intro listed a w _ _ _ hr hy H
    refine ⟨fun h => (by rw [h] at hr; cases hr), fun j hj => ?_⟩
    by_cases hji : j = i
    · subst hji; exact hy.wpOp hi ⟨fun _ => Ext.refl w, KY.refl Y w, H⟩
    · have := ready_mono hj hji
      rw [H.1] at this
      cases this
  | succ f ih =>
    intro listed a w hcl hfree hsk hr hy H
    have hun := (mem_ready.1 hr).1
    refine ⟨fun h => (by rw [h] at hr; cases hr), fun j hj => ?_⟩
    by_cases hji : j = i
    · subst hji; exact hy.wpOp hi ⟨fun _ => Ext.refl w, KY.refl Y w, H⟩
    · have h1 := H.2 j (ready_mono hj hji)
      obtain ⟨hjun, oj, hoj, hall⟩ := mem_ready.1 hj
      have hnot : ∀ e ∈ oj.after, Region.binds .any e = true → e.on ≠ i := fun e he hb heq => by
        have h1 := hall e he hb
        rw [heq, getD_both hun] at h1
        cases h1
      have hskj : 2 ≤ l → sk j = false := fun hm => by
        cases hs : sk j with
        | false => rfl
        | true =>
          obtain ⟨n, hn⟩ := hsk j hs hjun hm
          have := anc_listed hcl n j hoj hall hn
          rw [getD_both hun] at this
          cases this
      have h2 := wpOp_putY hoj (hfree j oj hoj hji hjun hnot) (fun cs b => hsel i oi cs b hi) (fun cs b => hsel j oj cs b hoj) hy h1
      have unl : ∀ k, (listed.setIfInBounds j true).getD k true = false → listed.getD k true = false := fun k hk => by
        by_cases hjk : j = k
        · subst hjk; exact hjun
        · rw [getD_set_ne true hjk] at hk; exact hk
      refine wpOp_mono (fun a' w' h3 => ?_) h2
      obtain ⟨h4, h5, h5', h6⟩ := h3
      refine ⟨h5, h5', ih (listed.setIfInBounds j true) a' w' (hcl.set hj) (fun k ok hk hki hu hno => hfree k ok hk hki (unl k hu) hno) (fun k hk hu => hsk k hk (unl k hu)) (ready_mono hr (Ne.symm hji)) (h4.later ?_) ?_⟩
      · match l, hskj with
        | 0, _ => trivial
        | 1, _ => exact h5'
        | l + 2, hskj => exact h5 (hskj (by omega))
      rw [Array.setIfInBounds_comm _ _ hji]
      exact h6
def lvl (ly : List Nat) (o : Oper) (i : Nat) : Nat := if opMe o.op then 0 else if inL ly i then 1 else 2
def walkY (P : Program) (ops : Array Oper) (Y : Nat → Prop) (ly : List Nat) (fl sk : Nat → Bool) (Q : Act → World → Prop) : List Nat → Act → World → Prop
  | [], a, w => Q a w
  | i :: rest, a, w => match ops[i]? with
    | none => False
    | some o =>
      if fl i then
        if Region.wanted o (yielded ops a.tmps) then ∃ v, (∀ w', Rl Y (lvl ly o i) w w' → (execOp a.eval o).run P w' = .ok (.value v) w') ∧ walkY P ops Y ly fl sk Q rest (a.put o.dst v) w
        else walkY P ops Y ly fl sk Q rest (a.put o.dst undef) w
      else
        if Region.wanted o (yielded ops a.tmps) then o.wp P a w (fun a' w' => (sk i = false → Ext w w') ∧ KY Y w w' ∧ walkY P ops Y ly fl sk Q rest a' w') NoQ
        else walkY P ops Y ly fl sk Q rest (a.put o.dst undef) w
def chkY (ops : Array Oper) (ly : List Nat) (fl sk : Nat → Bool) : List Nat → Array Bool → Bool
  | [], listed => (Region.ready .any ops listed).isEmpty
  | i :: rest, listed =>
    (if fl i then (Region.ready .any ops listed).contains i && Region.free .any ops listed i && !sk i && (List.range ops.size).all (fun j => !sk j || listed.getD j true || meAt ops i || inL ly i || anc ops 14 j i)
     else decide (Region.ready .any ops listed = [i])) && chkY ops ly fl sk rest (listed.setIfInBounds i true)
theorem anyY_of_walk {ly : List Nat} {fl sk : Nat → Bool} {Q : Act → World → Prop} (hsel : Region.noSelect ops = true) (hskb : ∀ j, sk j = true → j < ops.size) : ∀ (ord : List Nat) (listed : Array Bool) (a : Act) (w : World), Closed ops listed → chkY ops ly fl sk ord listed = true →
    walkY P ops Y ly fl sk Q ord a w → anyY P ops Y sk Q ord.length listed a w
  | [], listed, a, w, _, hB, h => ⟨by simpa [chkY] using hB, h⟩
  | i :: rest, listed, a, w, hcl, hB, h => by
    simp only [chkY, Bool.and_eq_true] at hB
    obtain ⟨hB1, hB2⟩ := hB
    unfold walkY at h
    cases ho : ops[i]? with
    | none => rw [ho] at h; exact h.elim
    | some o =>
      rw [ho] at h
      simp only at h
      by_cases hf : fl i = true
      · simp only [hf, if_true, Bool.and_eq_true] at hB1 h
        obtain ⟨⟨⟨hr, hfr⟩, hs⟩, hall⟩ := hB1
        have hr' : i ∈ Region.ready .any ops listed := by simpa using hr
        have hfl : ∃ v, FloatY P ops Y (lvl ly o i) o v a w ∧ walkY P ops Y ly fl sk Q rest (a.put o.dst v) w := by
          by_cases hw : Region.wanted o (yielded ops a.tmps) = true
          · simp only [hw, if_true] at h
            obtain ⟨v, h1, h2⟩ := h
            exact ⟨v, .inl ⟨hw, h1⟩, h2⟩
          · simp only [hw] at h
            exact ⟨undef, .inr ⟨by simpa using hw, rfl⟩, h⟩
        obtain ⟨v, hy, hK⟩ := hfl
        refine anyY_first ho (Region.noSelect_spec hsel) (by simpa using hs) _ listed a w hcl (Region.free_spec ho hfr) (fun j hj hu hm => ⟨14, ?_⟩) hr' hy (anyY_of_walk hsel hskb rest _ _ _ (hcl.set hr') hB2 hK)
        have h1 := List.all_eq_true.1 hall j (List.mem_range.2 (hskb j hj))
        unfold lvl at hm
        split at hm
        · omega
        · rename_i hme
          split at hm
          · omega
          · rename_i hly; simpa [hj, hu, meAt, ho, hme, hly] using h1
      · simp only [hf] at hB1 h
        have hB1' : Region.ready .any ops listed = [i] := by simpa using hB1
        refine ⟨fun h0 => (by rw [hB1'] at h0; cases h0), fun j hj => ?_⟩
        rw [hB1'] at hj
        have : j = i := by simpa using hj
        subst this
        have hr' : j ∈ Region.ready .any ops listed := by rw [hB1']; simp
        unfold wpOp
        simp only [ho]
        by_cases hw : Region.wanted o (yielded ops a.tmps) = true
        · simp only [hw, if_true] at h ⊢
          exact .inl (Oper.wp_mono (fun a' w' h' => ⟨h'.1, h'.2.1, anyY_of_walk hsel hskb rest _ _ _ (hcl.set hr') hB2 h'.2.2⟩) h)
        · simp only [hw] at h ⊢
          exact ⟨fun _ => Ext.refl w, KY.refl Y w, anyY_of_walk hsel hskb rest _ _ _ (hcl.set hr') hB2 h⟩
theorem region_walkY {id : Nat} {Q : Exit → Act → World → Prop} {a : Act} {w : World} {l : List Oper} (Y : Nat → Prop) (ord fo sk ly : List Nat) (hm : P.follows .mixedOrders = true)
    (hB : (Region.noSelect l.toArray && sk.all (fun j => decide (j < l.length)) && decide (ord.length = l.length) && chkY l.toArray ly (fun i => !inL fo i) (inL sk) ord (Array.replicate l.length false)) = true)
    (h : walkY P l.toArray Y ly (fun i => !inL fo i) (inL sk) (Q .normal) ord a w.drew) : (Code.region id l.toArray true).wp P Q a w := by
  simp only [Bool.and_eq_true, decide_eq_true_eq] at hB
  obtain ⟨⟨⟨h1, h2⟩, h3⟩, h4⟩ := hB
  refine wp_region_any hm ?_
  have := anyY_of_walk (P := P) (Y := Y) (Q := Q .normal) h1 (fun j hj => by
    have := List.all_eq_true.1 h2 j (by simpa [inL] using hj)
    simpa using this) ord (Array.replicate l.length false) a w.drew (fun j o _ hl => by rw [getD_replicate_false] at hl; cases hl) h4 h
  rw [h3] at this
  exact wpAny_of_anyY (fun _ _ h => h) _ _ _ _ (by simpa using this)
end
section
variable {P : Program} {ρ : Type} {z : Zt} {n : Nat} {Y : Nat → Prop}
def JY (P : Program) (z : Zt) (n : Nat) (Y : Nat → Prop) (ly : List Nat) (ops : List Oper) (fo sk : List Nat) (T : Slots) (B : Boxes) (ord : List Nat) (Φ : Option ρ) (Q : Kont ρ) : Prop :=
  ∀ r, Φ = some r → ∀ p a, St z p n T B a → walkY P ops.toArray Y ly (fun i => !inL fo i) (inL sk) (Q r .normal) ord a p.w
theorem c_drawy {T B i Φ} {Q : Kont ρ} {l : List Oper} (Y : Nat → Prop) (ly ord fo sk : List Nat) (hm : P.follows .mixedOrders = true)
    (hB : (Region.noSelect l.toArray && sk.all (fun j => decide (j < l.length)) && decide (ord.length = l.length) && chkY l.toArray ly (fun i => !inL fo i) (inL sk) ord (Array.replicate l.length false)) = true)
    (h : JY P z n Y ly l fo sk T B ord Φ Q) : JC P z n T B (.region i l.toArray true) Φ Q := fun r hr p a hs => by
  refine region_walkY Y ord fo sk ly hm hB ?_
  have hle : p.le ⟨p.w.drew, p.S, p.lt⟩ := fun b hb => ⟨hb, rfl⟩
  exact h r hr ⟨p.w.drew, p.S, p.lt⟩ a (hs.go hle hs.ex.drew hs.su (fun g b hg => by obtain ⟨h1, h2, o, h3, h4⟩ := hs.ow g b hg; exact ⟨h1, h2, o, h3, b.up hle h4⟩) hs.on hs.nd)
theorem y_nil {T B Φ ops fo sk ly} {Q : Kont ρ} (h : JX z n T B .normal Φ Q) : JY P z n Y ly ops fo sk T B [] Φ Q := h
theorem y_bind {α : Type} {T B ops fo sk l ly} {m : Option α} {K : α → Option ρ} {Q : Kont ρ} (h : ∀ x, m = some x → JY P z n Y ly ops fo sk T B l (K x) Q) : JY P z n Y ly ops fo sk T B l (m.bind K) Q := fun r hr => by
  obtain ⟨x, hx, hr⟩ := Option.bind_eq_some_iff.1 hr; exact h x hx r hr
theorem y_p {T B ops fo sk l ly Φ ty pos af op d t} {i : Nat} {Q : Kont ρ} (ho : ops[i]? = some ⟨some d, op, ty, pos, af, none⟩) (hf : (inL fo i || inL ly i) = false) (hp : PO P z n T B op t) (hd : Nat.ble (d + 1) n = true) (h : JY P z n Y ly ops fo sk ((d, t) :: T) B l Φ Q) : JY P z n Y ly ops fo sk T B (i :: l) Φ Q := fun r hr p a hs => by
  unfold walkY
  simp only [Bool.or_eq_false_iff] at hf
  have ho' : ops.toArray[i]? = some ⟨some d, op, ty, pos, af, none⟩ := by simpa using ho
  obtain ⟨v, hv, he⟩ := hp p a hs
  simp only [ho', hf.1, Bool.not_false, if_true]
  rw [if_pos (wanted_of hs (o := ⟨some d, op, ty, pos, af, none⟩) trivial)]
  refine ⟨v, fun w' hx => ?_, h r hr p _ (hs.put (Nat.le_of_ble_eq_true hd) hv)⟩
  unfold lvl at hx
  cases hm : opMe op with
  | false => simp only [hm, Bool.false_eq_true, if_false, hf.2] at hx; exact he _ w' rfl hx
  | true => exact run_me (w := p.w) hm (he _ p.w rfl (Ext.refl _))
def PY (P : Program) (z : Zt) (n : Nat) (Y : Nat → Prop) (T : Slots) (B : Boxes) (op : Op) (t : TV) : Prop :=
  ∀ p a, St z p n T B a → ∃ v, t.h p v ∧ ∀ (o : Oper) (w' : World), o.op = op → KY Y p.w w' → (execOp a.eval o).run P w' = .ok (.value v) w'
theorem y_py {T B ops fo sk l ly Φ ty pos af op d t} {i : Nat} {Q : Kont ρ} (ho : ops[i]? = some ⟨some d, op, ty, pos, af, none⟩) (hf : (!inL fo i && inL ly i) = true) (hp : PY P z n Y T B op t) (hd : Nat.ble (d + 1) n = true) (h : JY P z n Y ly ops fo sk ((d, t) :: T) B l Φ Q) : JY P z n Y ly ops fo sk T B (i :: l) Φ Q := fun r hr p a hs => by
  unfold walkY
  simp only [Bool.and_eq_true, Bool.not_eq_true'] at hf
  have ho' : ops.toArray[i]? = some ⟨some d, op, ty, pos, af, none⟩ := by simpa using ho
  obtain ⟨v, hv, he⟩ := hp p a hs
  simp only [ho', hf.1, Bool.not_false, if_true]
  rw [if_pos (wanted_of hs (o := ⟨some d, op, ty, pos, af, none⟩) trivial)]
  refine ⟨v, fun w' hx => ?_, h r hr p _ (hs.put (Nat.le_of_ble_eq_true hd) hv)⟩
  unfold lvl at hx
  cases hm : opMe op with
  | false => simp only [hm, Bool.false_eq_true, if_false, hf.2, if_true] at hx; exact he _ w' rfl hx
  | true => exact run_me (w := p.w) hm (he _ p.w rfl (KY.refl _ _))
theorem py_loh {T : Slots} {B : Boxes} {α β : Type} {k : Kd α} {kx : Kd β} {y : α} {get : α → Hd} {xs : List β} {o : Option Nat} {c : Nat} {t : TypeId} {x : Operand} {g off : Nat} (i : Nat) (h : Ev T x (own g off)) (hi : B[i]? = some (some g, box k y)) (ha : Hat k off get) (hg : get y = (xs.length, o, c)) (ht : tyB P t kHd = true) (hY : Y g) :
    PY P z n Y T B (.load t x) (row kx xs o c) := fun p a hs => by
  have h1 : a.eval x = .pointer (some ⟨g, off, none⟩) := hs.ev h
  obtain ⟨_, _, cs, tt, h3, h4⟩ := hs.box hi
  have h5 := ha.g h4
  rw [hg] at h5
  have hk : kHd.K p.w p.S (xs.length, o, c) [Hd.v (xs.length, o, c)] := rfl
  refine ⟨_, rfl, fun oo w' ho he => ?_⟩
  have := run_loadK ht (w := w') hk (ad := ⟨g, off, none⟩) (fun j u hj => by
    match j, hj with
    | 0, hj =>
      simp at hj
      subst hj
      rw [add_plain, cell_of_row _ _ _ _ _ _ (he g hY _ h3)]
      simpa using h5)
  simp [execOp, ho, h1, Instr.loadAt, Instr.sureAddr, this, Kd.mk', kHd, Hd.v]
theorem py_fo {T : Slots} {B : Boxes} {g o' : Nat} {s : TypeId} {f off : Nat} {x : Operand} (h : Ev T x (own g o')) (hf : fsB P s f off = true) : PY P z n Y T B (.fieldAddr s x f) (own g (o' + off)) := fun p a hs => by
  have h1 : a.eval x = .pointer (some ⟨g, o', none⟩) := hs.ev h
  exact ⟨_, rfl, fun o w' ho _ => by simp [execOp, ho, h1, run_fieldAt hf, add_plain]⟩
theorem y_eo {T B ops fo sk l ly Φ o} {i : Nat} {R : Pt → Act → Prop} {Q : Kont ρ} (ho : ops[i]? = some o) (hf : inL fo i = true) (g : Gd ops T o.guard) (hp : EO P z n T B o R) (h : ∀ r, Φ = some r → ∀ q a, R q a → walkY P ops.toArray Y ly (fun i => !inL fo i) (inL sk) (Q r .normal) l a q.w) : JY P z n Y ly ops fo sk T B (i :: l) Φ Q := fun r hr p a hs => by
  unfold walkY
  have ho' : ops.toArray[i]? = some o := by simpa using ho
  simp only [ho', hf, Bool.not_true, Bool.false_eq_true, if_false]
  rw [if_pos (wanted_of hs g)]
  exact hp p a hs _ (fun q a' hR he => ⟨fun _ => he, he.ky, h r hr q a' hR⟩)
theorem y_call {σ : Type} {f at_ ts} {xs : List Operand} {m : Option σ} {res : σ → TV} {K : σ → Option ρ} {T B ops fo sk l ly ty pos af d} {i : Nat} {Q : Kont ρ} (ho : ops[i]? = some ⟨some d, .call ⟨.value (.func f), xs.toArray, at_⟩, ty, pos, af, none⟩) (hf : inL fo i = true) (hc : Ct P f ts m res) (hx : Evs T xs ts) (hd : Nat.ble (d + 1) n = true) (hk : ∀ y, m = some y → JY P z n Y ly ops fo sk ((d, res y) :: T) B l (K y) Q) :
    JY P z n Y ly ops fo sk T B (i :: l) (m.bind K) Q :=
  y_bind fun y hy => y_eo ho hf trivial (e_call hy hc hd hx) fun r hr q a hs => hk y hy r hr q a hs
theorem y_rlen {α : Type} {k : Kd α} {xs ys : List α} {o : Option Nat} {c : Nat} {T B ops fo sk ord ly} {Φ : Option ρ} {Q : Kont ρ} (s : Nat) (h : look T s = some (row k xs o c)) (hl : ys.length = xs.length) (hk : JY P z n Y ly ops fo sk ((s, row k ys o c) :: T) B ord Φ Q) : JY P z n Y ly ops fo sk T B ord Φ Q := fun r hr p a hs => hk r hr p a ⟨hs.sz, hs.df, fun j t hj => by
  rcases look_put hj with ⟨rfl, rfl⟩ | ⟨_, hj⟩
  · obtain ⟨v, h1, h2⟩ := hs.tm _ _ h
    exact ⟨v, h1, by have h2 : v = _ := h2; show v = _; rw [h2, hl]⟩
  · exact hs.tm _ _ hj, hs.ow, hs.on, hs.nd, hs.ex, hs.su, hs.le⟩
theorem y_rbe {α : Type} {k : Kd α} {g : Nat} {y y' : α} {T B ops fo sk ord ly} {Φ : Option ρ} {Q : Kont ρ} (i : Nat) (hi : B[i]? = some (some g, box k y)) (h : y = y') (hk : JY P z n Y ly ops fo sk T (B.set i (some g, box k y')) ord Φ Q) : JY P z n Y ly ops fo sk T B ord Φ Q := by rw [set_same hi (by rw [h])] at hk; exact hk
def SOY (P : Program) (z : Zt) (n : Nat) (Y : Nat → Prop) (T : Slots) (B : Boxes) (o : Oper) (R : Pt → Act → Prop) : Prop :=
  ∀ p a, St z p n T B a → ∀ K : Act → World → Prop, (∀ q a', R q a' → KY Y p.w q.w → K a' q.w) → o.wp P a p.w K NoQ
variable {T : Slots} {B : Boxes} {ty t : TypeId} {pos : String} {af : Array Edge} {gd : Option (Nat × Bool)} {d : Nat}
theorem s_strY {α β : Type} {k : Kd α} {m : Kd β} {e : TypeId} {xs xs0 : List α} {o : Option Nat} {c off : Nat} {v : β} {y0 : α} {i : Int} {get : α → β} {set : α → β → α} {x u : Operand} {gY : Nat} {bY : BX} (iY j : Nat) (hiY : B[iY]? = some (some gY, bY)) (hne : Nat.beq iY j = false) (h : Ev T x (rptr o (i.toNat * k.sz + off))) (hv : Ev T u (rd m v)) (hj : B[j]? = some (o, rows k e xs c)) (hi : at? xs0 i = some y0) (hlen : xs0.length = xs.length) (fl : Fld k off m get set) (ht : tyB P t m = true) :
    SOY P z n (fun b => b = gY) T B ⟨none, .store t x u, ty, pos, af, gd⟩ (fun q a => St z q n T (B.set j (o, rows k e (xs.modify i.toNat (fun y => set y v)) c)) a) := fun p a hs K hK => by
  have hne := Nat.ne_of_beq_eq_false hne
  obtain ⟨h0, hx0⟩ := at?_spec hi
  have hlt : i.toNat < xs.length := by rw [← hlen]; exact (List.getElem?_eq_some_iff.1 hx0).1
  have hx : xs[i.toNat]? = some xs[i.toNat] := List.getElem?_eq_getElem hlt
  obtain ⟨g, cs, more, rfl, hS, hg, hR, hc1, hc2, hc3⟩ := hs.rows hj (by rintro rfl; simp at hlt)
  obtain ⟨g', e', h1⟩ := hs.ev h
  injection e' with e'
  subst e'
  have hk := Kd.V_cells (hs.ev hv)
  have hml := m.len hk
  have hbd := fl.bd
  have hel := fl.s (Kd.R_get hR hx) hk
  have hR2 := R_set (f := fun y => set y v) hR hx hel
  have hcl := Kd.R_len hR
  have hi1 : (i.toNat + 1) * k.sz ≤ xs.length * k.sz := Nat.mul_le_mul_right _ hlt
  rw [Nat.add_mul, Nat.one_mul] at hi1
  have ecs : cs.take (i.toNat * k.sz) ++ (((cs.drop (i.toNat * k.sz)).take k.sz).take off ++ (a.eval u).cells.toList ++ ((cs.drop (i.toNat * k.sz)).take k.sz).drop (off + m.sz)) ++ cs.drop (i.toNat * k.sz + k.sz) = cs.take (i.toNat * k.sz + off) ++ (a.eval u).cells.toList ++ cs.drop (i.toNat * k.sz + off + m.sz) := by
    rw [List.take_take, Nat.min_eq_left (by omega : off ≤ k.sz), ← List.append_assoc, ← List.append_assoc, ← List.take_add, List.drop_take, List.drop_drop, List.append_assoc]
    congr 1
    rw [show cs.drop (i.toNat * k.sz + k.sz) = (cs.drop (i.toNat * k.sz + (off + m.sz))).drop (k.sz - (off + m.sz)) by rw [List.drop_drop]; congr 1; omega, List.take_append_drop, Nat.add_assoc]
  rw [ecs] at hR2
  have htot : ((cs ++ more).toArray.toList.take (i.toNat * k.sz + off + 0) ++ (a.eval u).cells.toList ++ (cs ++ more).toArray.toList.drop (i.toNat * k.sz + off + 0 + (a.eval u).cells.toList.length)) = (cs.take (i.toNat * k.sz + off) ++ (a.eval u).cells.toList ++ cs.drop (i.toNat * k.sz + off + m.sz)) ++ more := by
    show (cs ++ more).take _ ++ _ ++ (cs ++ more).drop _ = _
    rw [hml, Nat.add_zero, List.take_append_of_le_length (by omega), List.drop_append_of_le_length (by omega)]
    simp only [List.append_assoc]
  obtain ⟨q, e1, hle, hq⟩ := hs.setBox hj hg (cs' := ((cs.take (i.toNat * k.sz + off) ++ (a.eval u).cells.toList ++ cs.drop (i.toNat * k.sz + off + m.sz)) ++ more).toArray) (bx' := rows k e (xs.modify i.toNat (fun y => set y v)) c)
    (fun q hle => ⟨_, more, rfl, Kd.R_frame hle hR2, by rw [List.length_modify]; exact hc1, hc2, by
      rw [← hc3]; simp only [List.length_append, List.length_take, List.length_drop, hml]; omega⟩)
  have hst := run_storeCells_at P g (i.toNat * k.sz + off) e (a.eval u).cells.toList 0 (cs ++ more).toArray p.w hg (by rw [hml]; simp; omega) (m.one hk)
  rw [htot] at hst
  have hky : KY (fun b => b = gY) p.w q.w := by
    rw [e1]
    intro b hb ob hob
    subst hb
    rw [setRow_far _ _ _ (fun e => hne (nodup_at hs.nd hiY (e ▸ hj)))]; exact hob
  have := hK q (a.put none undef) hq hky
  rw [e1] at this
  have hsz := run_size (ty_size ht) p.w
  have hl2 : (a.eval u).cells.size = m.sz := by simpa using hml
  simp only [Oper.wp, execOp, h1, Instr.storeAt, Instr.sureAddr, storeVar, Sem.run_bind, Sem.run_pure, Result.andThen_ok, hsz, hl2, ne_eq, not_true_eq_false, if_false, hst, Oper.upon]
  exact this
theorem y_str {α β : Type} {k : Kd α} {m : Kd β} {e : TypeId} {xs xs0 : List α} {o : Option Nat} {c off : Nat} {v : β} {y0 : α} {i : Int} {get : α → β} {set : α → β → α} {x u : Operand} {gY : Nat} {bY : BX} {ops fo sk ord ly} {Φ : Option ρ} {Q : Kont ρ} {q : Nat} (iY j : Nat) (ho : ops[q]? = some ⟨none, .store t x u, ty, pos, af, none⟩) (hf : inL fo q = true) (hsk : inL sk q = true) (hiY : B[iY]? = some (some gY, bY)) (hne : Nat.beq iY j = false) (h : Ev T x (rptr o (i.toNat * k.sz + off))) (hv : Ev T u (rd m v)) (hj : B[j]? = some (o, rows k e xs c)) (hi : at? xs0 i = some y0) (hlen : xs0.length = xs.length) (fl : Fld k off m get set) (ht : tyB P t m = true)
    (hk : JY P z n (fun b => b = gY) ly ops fo sk T (B.set j (o, rows k e (xs.modify i.toNat (fun y => set y v)) c)) ord Φ Q) : JY P z n (fun b => b = gY) ly ops fo sk T B (q :: ord) Φ Q := fun r hr p a hs => by
  unfold walkY
  have ho' : ops.toArray[q]? = some ⟨none, .store t x u, ty, pos, af, none⟩ := by simpa using ho
  simp only [ho', hf, Bool.not_true, Bool.false_eq_true, if_false]
  rw [if_pos (wanted_of hs (o := ⟨none, .store t x u, ty, pos, af, none⟩) trivial)]
  exact s_strY iY j hiY hne h hv hj hi hlen fl ht p a hs _ (fun q a' hR hy => ⟨fun hx => (by rw [hsk] at hx; cases hx), hy, hk r hr q a' hR⟩)
theorem py_lenr {α : Type} {k : Kd α} {xs : List α} {o : Option Nat} {c : Nat} {x : Operand} {t : TypeId} (h : Ev T x (row k xs o c)) (ht : slB P t k = true) : PY P z n Y T B (.call ⟨.builtin .len, #[x], #[t]⟩) (rd kInt xs.length) := fun p a hs => by
  have h1 : a.eval x = .slice (o.map fun g => ⟨g, 0, none⟩) xs.length c := hs.ev h
  refine ⟨.int .i64 xs.length, rfl, fun o w' ho he => ?_⟩
  unfold slB at ht
  split at ht
  · rename_i el hu
    simp [execOp, ho, h1, resolve, invoke, builtin, Builtin.len_, run_underlying hu, goInt]
  · cases ht
theorem py_add {k : IntKind} {b : Nat} {lo hi x y : Int} {u v : Operand} {t t2 : TypeId} (h : Ev T u (rd (kNum k b lo hi) x)) (h' : Ev T v (rd (kNum k b lo hi) y)) : PY P z n Y T B (.binOp .add t u v t2) (rd (kNum k b lo hi) (k.wrap (x + y))) := fun p a hs => by
  obtain ⟨w, h1, h2⟩ := po_add (P := P) (z := z) (n := n) (B := B) (t := t) (t2 := t2) h h' p a hs
  refine ⟨w, h1, fun o w' ho _ => ?_⟩
  have e1 := ev_num (hs.ev h); have e2 := ev_num (hs.ev h')
  have := ev_num h1
  subst this
  simp [execOp, ho, e1, e2, eqGuard, binOp, Op.intArith]
theorem y_st {α β : Type} {k : Kd α} {m : Kd β} {y : α} {v : β} {get : α → β} {set : α → β → α} {x u : Operand} {g off : Nat} {ops fo sk ord ly} {Φ : Option ρ} {Q : Kont ρ} {q : Nat} (b : Nat) (ho : ops[q]? = some ⟨none, .store t x u, ty, pos, af, none⟩) (hf : inL fo q = true) (hsk : inL sk q = true) (h : Ev T x (own g off)) (hv : Ev T u (rd m v)) (hi : B[b]? = some (some g, box k y)) (fl : Fld k off m get set) (ht : tyB P t m = true)
    (hk : JY P z n (fun _ => False) ly ops fo sk T (B.set b (some g, box k (set y v))) ord Φ Q) : JY P z n (fun _ => False) ly ops fo sk T B (q :: ord) Φ Q := fun r hr p a hs => by
  unfold walkY
  have ho' : ops.toArray[q]? = some ⟨none, .store t x u, ty, pos, af, none⟩ := by simpa using ho
  simp only [ho', hf, Bool.not_true, Bool.false_eq_true, if_false]
  rw [if_pos (wanted_of hs (o := ⟨none, .store t x u, ty, pos, af, none⟩) trivial)]
  exact s_store b h hv hi fl ht p a hs _ (fun q a' hR => ⟨fun hx => (by rw [hsk] at hx; cases hx), fun b hb => hb.elim, hk r hr q a' hR⟩)
end
end Go.Proofs.YtojgddnefopdjaaGreatDoor

namespace Go.Proofs.YtojgddnefopdjaaGreatDoor
open Go.RowKit
set_option linter.unusedVariables false
set_option maxRecDepth 20000
structure Ptr where
  dev : Int
  at_ : Int
  deriving DecidableEq
def kPtr : Kd Ptr := kIso (kTwo kInt kInt) 16 (fun x => (x.dev, x.at_)) ⟨kInt.z, kInt.z⟩ rfl
def Ptr.dev_s (x : Ptr) (y : Int) : Ptr := { x with dev := y }
theorem F_Ptr_dev : Fld kPtr 0 kInt Ptr.dev Ptr.dev_s := (Fld.fst _ (Fld.me _)).iso (fun _ => rfl) (fun _ _ => rfl)
def Ptr.at__s (x : Ptr) (y : Int) : Ptr := { x with at_ := y }
theorem F_Ptr_at_ : Fld kPtr 1 kInt Ptr.at_ Ptr.at__s := (Fld.snd _ (Fld.me _)).iso (fun _ => rfl) (fun _ _ => rfl)
structure Block where
  iD : Int
  ptr : Ptr
  text : ByteArray
  deriving DecidableEq
def kBlock : Kd Block := kIso (kTwo kInt (kTwo kPtr kStr)) 40 (fun x => (x.iD, x.ptr, x.text)) ⟨kInt.z, kPtr.z, kStr.z⟩ rfl
def Block.iD_s (x : Block) (y : Int) : Block := { x with iD := y }
theorem F_Block_iD : Fld kBlock 0 kInt Block.iD Block.iD_s := (Fld.fst _ (Fld.me _)).iso (fun _ => rfl) (fun _ _ => rfl)
def Block.ptr_s (x : Block) (y : Ptr) : Block := { x with ptr := y }
theorem F_Block_ptr : Fld kBlock 1 kPtr Block.ptr Block.ptr_s := (Fld.snd _ (Fld.fst _ (Fld.me _))).iso (fun _ => rfl) (fun _ _ => rfl)
def Block.text_s (x : Block) (y : ByteArray) : Block := { x with text := y }
theorem F_Block_text : Fld kBlock 3 kStr Block.text Block.text_s := (Fld.snd _ (Fld.snd _ (Fld.me _))).iso (fun _ => rfl) (fun _ _ => rfl)
structure Link where
  name : ByteArray
  iD : Int
  deriving DecidableEq
def kLink : Kd Link := kIso (kTwo kStr kInt) 24 (fun x => (x.name, x.iD)) ⟨kStr.z, kInt.z⟩ rfl
def Link.name_s (x : Link) (y : ByteArray) : Link := { x with name := y }
theorem F_Link_name : Fld kLink 0 kStr Link.name Link.name_s := (Fld.fst _ (Fld.me _)).iso (fun _ => rfl) (fun _ _ => rfl)
def Link.iD_s (x : Link) (y : Int) : Link := { x with iD := y }
theorem F_Link_iD : Fld kLink 1 kInt Link.iD Link.iD_s := (Fld.snd _ (Fld.me _)).iso (fun _ => rfl) (fun _ _ => rfl)
structure File where
  iD : Int
  dir : Bool
  size : Int
  blocks : List Int
  list : List Link
  deriving DecidableEq
def kFile : Kd File := kIso (kTwo kInt (kTwo kBool (kTwo kInt (kTwo (kSl kInt) (kSl kLink))))) 72 (fun x => (x.iD, x.dir, x.size, x.blocks, x.list)) ⟨kInt.z, kBool.z, kInt.z, (kSl kInt).z, (kSl kLink).z⟩ rfl
def File.iD_s (x : File) (y : Int) : File := { x with iD := y }
theorem F_File_iD : Fld kFile 0 kInt File.iD File.iD_s := (Fld.fst _ (Fld.me _)).iso (fun _ => rfl) (fun _ _ => rfl)
def File.dir_s (x : File) (y : Bool) : File := { x with dir := y }
theorem F_File_dir : Fld kFile 1 kBool File.dir File.dir_s := (Fld.snd _ (Fld.fst _ (Fld.me _))).iso (fun _ => rfl) (fun _ _ => rfl)
def File.size_s (x : File) (y : Int) : File := { x with size := y }
theorem F_File_size : Fld kFile 2 kInt File.size File.size_s := (Fld.snd _ (Fld.snd _ (Fld.fst _ (Fld.me _)))).iso (fun _ => rfl) (fun _ _ => rfl)
def File.blocks_s (x : File) (y : (List Int)) : File := { x with blocks := y }
theorem F_File_blocks : Fld kFile 3 (kSl kInt) File.blocks File.blocks_s := (Fld.snd _ (Fld.snd _ (Fld.snd _ (Fld.fst _ (Fld.me _))))).iso (fun _ => rfl) (fun _ _ => rfl)
def File.list_s (x : File) (y : (List Link)) : File := { x with list := y }
theorem F_File_list : Fld kFile 4 (kSl kLink) File.list File.list_s := (Fld.snd _ (Fld.snd _ (Fld.snd _ (Fld.snd _ (Fld.me _))))).iso (fun _ => rfl) (fun _ _ => rfl)
structure Vol where
  iD : Int
  from_ : Int
  snap : Bool
  files : List File
  next : Int
  deriving DecidableEq
def kVol : Kd Vol := kIso (kTwo kInt (kTwo kInt (kTwo kBool (kTwo (kSl kFile) kInt)))) 56 (fun x => (x.iD, x.from_, x.snap, x.files, x.next)) ⟨kInt.z, kInt.z, kBool.z, (kSl kFile).z, kInt.z⟩ rfl
def Vol.iD_s (x : Vol) (y : Int) : Vol := { x with iD := y }
theorem F_Vol_iD : Fld kVol 0 kInt Vol.iD Vol.iD_s := (Fld.fst _ (Fld.me _)).iso (fun _ => rfl) (fun _ _ => rfl)
def Vol.from__s (x : Vol) (y : Int) : Vol := { x with from_ := y }
theorem F_Vol_from_ : Fld kVol 1 kInt Vol.from_ Vol.from__s := (Fld.snd _ (Fld.fst _ (Fld.me _))).iso (fun _ => rfl) (fun _ _ => rfl)
def Vol.snap_s (x : Vol) (y : Bool) : Vol := { x with snap := y }
theorem F_Vol_snap : Fld kVol 2 kBool Vol.snap Vol.snap_s := (Fld.snd _ (Fld.snd _ (Fld.fst _ (Fld.me _)))).iso (fun _ => rfl) (fun _ _ => rfl)
def Vol.files_s (x : Vol) (y : (List File)) : Vol := { x with files := y }
theorem F_Vol_files : Fld kVol 3 (kSl kFile) Vol.files Vol.files_s := (Fld.snd _ (Fld.snd _ (Fld.snd _ (Fld.fst _ (Fld.me _))))).iso (fun _ => rfl) (fun _ _ => rfl)
def Vol.next_s (x : Vol) (y : Int) : Vol := { x with next := y }
theorem F_Vol_next : Fld kVol 4 kInt Vol.next Vol.next_s := (Fld.snd _ (Fld.snd _ (Fld.snd _ (Fld.snd _ (Fld.me _))))).iso (fun _ => rfl) (fun _ _ => rfl)
structure Seg where
  at_ : Int
  len : Int
  deriving DecidableEq
def kSeg : Kd Seg := kIso (kTwo kInt kInt) 16 (fun x => (x.at_, x.len)) ⟨kInt.z, kInt.z⟩ rfl
def Seg.at__s (x : Seg) (y : Int) : Seg := { x with at_ := y }
theorem F_Seg_at_ : Fld kSeg 0 kInt Seg.at_ Seg.at__s := (Fld.fst _ (Fld.me _)).iso (fun _ => rfl) (fun _ _ => rfl)
def Seg.len_s (x : Seg) (y : Int) : Seg := { x with len := y }
theorem F_Seg_len : Fld kSeg 1 kInt Seg.len Seg.len_s := (Fld.snd _ (Fld.me _)).iso (fun _ => rfl) (fun _ _ => rfl)
structure Device where
  iD : Int
  size : Int
  free : List Seg
  late : List Seg
  deriving DecidableEq
def kDevice : Kd Device := kIso (kTwo kInt (kTwo kInt (kTwo (kSl kSeg) (kSl kSeg)))) 64 (fun x => (x.iD, x.size, x.free, x.late)) ⟨kInt.z, kInt.z, (kSl kSeg).z, (kSl kSeg).z⟩ rfl
def Device.iD_s (x : Device) (y : Int) : Device := { x with iD := y }
theorem F_Device_iD : Fld kDevice 0 kInt Device.iD Device.iD_s := (Fld.fst _ (Fld.me _)).iso (fun _ => rfl) (fun _ _ => rfl)
def Device.size_s (x : Device) (y : Int) : Device := { x with size := y }
theorem F_Device_size : Fld kDevice 1 kInt Device.size Device.size_s := (Fld.snd _ (Fld.fst _ (Fld.me _))).iso (fun _ => rfl) (fun _ _ => rfl)
def Device.free_s (x : Device) (y : (List Seg)) : Device := { x with free := y }
theorem F_Device_free : Fld kDevice 2 (kSl kSeg) Device.free Device.free_s := (Fld.snd _ (Fld.snd _ (Fld.fst _ (Fld.me _)))).iso (fun _ => rfl) (fun _ _ => rfl)
def Device.late_s (x : Device) (y : (List Seg)) : Device := { x with late := y }
theorem F_Device_late : Fld kDevice 3 (kSl kSeg) Device.late Device.late_s := (Fld.snd _ (Fld.snd _ (Fld.snd _ (Fld.me _)))).iso (fun _ => rfl) (fun _ _ => rfl)
structure Entry where
  from_ : Int
  len : Int
  dev : Int
  to : Int
  stale : Int
  deriving DecidableEq
def kEntry : Kd Entry := kIso (kTwo kInt (kTwo kInt (kTwo kInt (kTwo kInt kInt)))) 40 (fun x => (x.from_, x.len, x.dev, x.to, x.stale)) ⟨kInt.z, kInt.z, kInt.z, kInt.z, kInt.z⟩ rfl
def Entry.from__s (x : Entry) (y : Int) : Entry := { x with from_ := y }
theorem F_Entry_from_ : Fld kEntry 0 kInt Entry.from_ Entry.from__s := (Fld.fst _ (Fld.me _)).iso (fun _ => rfl) (fun _ _ => rfl)
def Entry.len_s (x : Entry) (y : Int) : Entry := { x with len := y }
theorem F_Entry_len : Fld kEntry 1 kInt Entry.len Entry.len_s := (Fld.snd _ (Fld.fst _ (Fld.me _))).iso (fun _ => rfl) (fun _ _ => rfl)
def Entry.dev_s (x : Entry) (y : Int) : Entry := { x with dev := y }
theorem F_Entry_dev : Fld kEntry 2 kInt Entry.dev Entry.dev_s := (Fld.snd _ (Fld.snd _ (Fld.fst _ (Fld.me _)))).iso (fun _ => rfl) (fun _ _ => rfl)
def Entry.to_s (x : Entry) (y : Int) : Entry := { x with to := y }
theorem F_Entry_to : Fld kEntry 3 kInt Entry.to Entry.to_s := (Fld.snd _ (Fld.snd _ (Fld.snd _ (Fld.fst _ (Fld.me _))))).iso (fun _ => rfl) (fun _ _ => rfl)
def Entry.stale_s (x : Entry) (y : Int) : Entry := { x with stale := y }
theorem F_Entry_stale : Fld kEntry 4 kInt Entry.stale Entry.stale_s := (Fld.snd _ (Fld.snd _ (Fld.snd _ (Fld.snd _ (Fld.me _))))).iso (fun _ => rfl) (fun _ _ => rfl)
structure Table where
  dev : Int
  size : Int
  list : List Entry
  deriving DecidableEq
def kTable : Kd Table := kIso (kTwo kInt (kTwo kInt (kSl kEntry))) 40 (fun x => (x.dev, x.size, x.list)) ⟨kInt.z, kInt.z, (kSl kEntry).z⟩ rfl
def Table.dev_s (x : Table) (y : Int) : Table := { x with dev := y }
theorem F_Table_dev : Fld kTable 0 kInt Table.dev Table.dev_s := (Fld.fst _ (Fld.me _)).iso (fun _ => rfl) (fun _ _ => rfl)
def Table.size_s (x : Table) (y : Int) : Table := { x with size := y }
theorem F_Table_size : Fld kTable 1 kInt Table.size Table.size_s := (Fld.snd _ (Fld.fst _ (Fld.me _))).iso (fun _ => rfl) (fun _ _ => rfl)
def Table.list_s (x : Table) (y : (List Entry)) : Table := { x with list := y }
theorem F_Table_list : Fld kTable 2 (kSl kEntry) Table.list Table.list_s := (Fld.snd _ (Fld.snd _ (Fld.me _))).iso (fun _ => rfl) (fun _ _ => rfl)
structure Job where
  dev : Int
  at_ : Int
  table : Table
  deriving DecidableEq
def kJob : Kd Job := kIso (kTwo kInt (kTwo kInt kTable)) 56 (fun x => (x.dev, x.at_, x.table)) ⟨kInt.z, kInt.z, kTable.z⟩ rfl
def Job.dev_s (x : Job) (y : Int) : Job := { x with dev := y }
theorem F_Job_dev : Fld kJob 0 kInt Job.dev Job.dev_s := (Fld.fst _ (Fld.me _)).iso (fun _ => rfl) (fun _ _ => rfl)
def Job.at__s (x : Job) (y : Int) : Job := { x with at_ := y }
theorem F_Job_at_ : Fld kJob 1 kInt Job.at_ Job.at__s := (Fld.snd _ (Fld.fst _ (Fld.me _))).iso (fun _ => rfl) (fun _ _ => rfl)
def Job.table_s (x : Job) (y : Table) : Job := { x with table := y }
theorem F_Job_table : Fld kJob 2 kTable Job.table Job.table_s := (Fld.snd _ (Fld.snd _ (Fld.me _))).iso (fun _ => rfl) (fun _ _ => rfl)
structure Pool where
  devices : List Device
  tables : List Table
  job : Job
  next : Int
  deriving DecidableEq
def kPool : Kd Pool := kIso (kTwo (kSl kDevice) (kTwo (kSl kTable) (kTwo kJob kInt))) 112 (fun x => (x.devices, x.tables, x.job, x.next)) ⟨(kSl kDevice).z, (kSl kTable).z, kJob.z, kInt.z⟩ rfl
def Pool.devices_s (x : Pool) (y : (List Device)) : Pool := { x with devices := y }
theorem F_Pool_devices : Fld kPool 0 (kSl kDevice) Pool.devices Pool.devices_s := (Fld.fst _ (Fld.me _)).iso (fun _ => rfl) (fun _ _ => rfl)
def Pool.tables_s (x : Pool) (y : (List Table)) : Pool := { x with tables := y }
theorem F_Pool_tables : Fld kPool 1 (kSl kTable) Pool.tables Pool.tables_s := (Fld.snd _ (Fld.fst _ (Fld.me _))).iso (fun _ => rfl) (fun _ _ => rfl)
def Pool.job_s (x : Pool) (y : Job) : Pool := { x with job := y }
theorem F_Pool_job : Fld kPool 2 kJob Pool.job Pool.job_s := (Fld.snd _ (Fld.snd _ (Fld.fst _ (Fld.me _)))).iso (fun _ => rfl) (fun _ _ => rfl)
def Pool.next_s (x : Pool) (y : Int) : Pool := { x with next := y }
theorem F_Pool_next : Fld kPool 7 kInt Pool.next Pool.next_s := (Fld.snd _ (Fld.snd _ (Fld.snd _ (Fld.me _)))).iso (fun _ => rfl) (fun _ _ => rfl)
structure State where
  vols : List Vol
  nextVol : Int
  blocks : List Block
  next : Int
  pool : Pool
  deriving DecidableEq
def kState : Kd State := kIso (kTwo (kSl kVol) (kTwo kInt (kTwo (kSl kBlock) (kTwo kInt kPool)))) 176 (fun x => (x.vols, x.nextVol, x.blocks, x.next, x.pool)) ⟨(kSl kVol).z, kInt.z, (kSl kBlock).z, kInt.z, kPool.z⟩ rfl
def State.vols_s (x : State) (y : (List Vol)) : State := { x with vols := y }
theorem F_State_vols : Fld kState 0 (kSl kVol) State.vols State.vols_s := (Fld.fst _ (Fld.me _)).iso (fun _ => rfl) (fun _ _ => rfl)
def State.nextVol_s (x : State) (y : Int) : State := { x with nextVol := y }
theorem F_State_nextVol : Fld kState 1 kInt State.nextVol State.nextVol_s := (Fld.snd _ (Fld.fst _ (Fld.me _))).iso (fun _ => rfl) (fun _ _ => rfl)
def State.blocks_s (x : State) (y : (List Block)) : State := { x with blocks := y }
theorem F_State_blocks : Fld kState 2 (kSl kBlock) State.blocks State.blocks_s := (Fld.snd _ (Fld.snd _ (Fld.fst _ (Fld.me _)))).iso (fun _ => rfl) (fun _ _ => rfl)
def State.next_s (x : State) (y : Int) : State := { x with next := y }
theorem F_State_next : Fld kState 3 kInt State.next State.next_s := (Fld.snd _ (Fld.snd _ (Fld.snd _ (Fld.fst _ (Fld.me _))))).iso (fun _ => rfl) (fun _ _ => rfl)
def State.pool_s (x : State) (y : Pool) : State := { x with pool := y }
theorem F_State_pool : Fld kState 4 kPool State.pool State.pool_s := (Fld.snd _ (Fld.snd _ (Fld.snd _ (Fld.snd _ (Fld.me _))))).iso (fun _ => rfl) (fun _ _ => rfl)
structure hl14_Put where
  l : List Vol
  t : List ByteArray
  deriving DecidableEq
def khl14_Put : Kd hl14_Put := kIso (kTwo (kSl kVol) (kSl kStr)) 48 (fun x => (x.l, x.t)) ⟨(kSl kVol).z, (kSl kStr).z⟩ rfl
def hl14_Put.l_s (x : hl14_Put) (y : (List Vol)) : hl14_Put := { x with l := y }
theorem F_hl14_Put_l : Fld khl14_Put 0 (kSl kVol) hl14_Put.l hl14_Put.l_s := (Fld.fst _ (Fld.me _)).iso (fun _ => rfl) (fun _ _ => rfl)
def hl14_Put.t_s (x : hl14_Put) (y : (List ByteArray)) : hl14_Put := { x with t := y }
theorem F_hl14_Put_t : Fld khl14_Put 1 (kSl kStr) hl14_Put.t hl14_Put.t_s := (Fld.snd _ (Fld.me _)).iso (fun _ => rfl) (fun _ _ => rfl)
structure hl14_Ask where
  s : List State
  p : List hl14_Put
  n : List Int
  deriving DecidableEq
def khl14_Ask : Kd hl14_Ask := kIso (kTwo (kSl kState) (kTwo (kSl khl14_Put) (kSl kInt))) 72 (fun x => (x.s, x.p, x.n)) ⟨(kSl kState).z, (kSl khl14_Put).z, (kSl kInt).z⟩ rfl
def hl14_Ask.s_s (x : hl14_Ask) (y : (List State)) : hl14_Ask := { x with s := y }
theorem F_hl14_Ask_s : Fld khl14_Ask 0 (kSl kState) hl14_Ask.s hl14_Ask.s_s := (Fld.fst _ (Fld.me _)).iso (fun _ => rfl) (fun _ _ => rfl)
def hl14_Ask.p_s (x : hl14_Ask) (y : (List hl14_Put)) : hl14_Ask := { x with p := y }
theorem F_hl14_Ask_p : Fld khl14_Ask 1 (kSl khl14_Put) hl14_Ask.p hl14_Ask.p_s := (Fld.snd _ (Fld.fst _ (Fld.me _))).iso (fun _ => rfl) (fun _ _ => rfl)
def hl14_Ask.n_s (x : hl14_Ask) (y : (List Int)) : hl14_Ask := { x with n := y }
theorem F_hl14_Ask_n : Fld khl14_Ask 2 (kSl kInt) hl14_Ask.n hl14_Ask.n_s := (Fld.snd _ (Fld.snd _ (Fld.me _))).iso (fun _ => rfl) (fun _ _ => rfl)
structure hr9_step where
  table : Int
  at_ : Int
  deriving DecidableEq
def khr9_step : Kd hr9_step := kIso (kTwo kInt kInt) 16 (fun x => (x.table, x.at_)) ⟨kInt.z, kInt.z⟩ rfl
def hr9_step.table_s (x : hr9_step) (y : Int) : hr9_step := { x with table := y }
theorem F_hr9_step_table : Fld khr9_step 0 kInt hr9_step.table hr9_step.table_s := (Fld.fst _ (Fld.me _)).iso (fun _ => rfl) (fun _ _ => rfl)
def hr9_step.at__s (x : hr9_step) (y : Int) : hr9_step := { x with at_ := y }
theorem F_hr9_step_at_ : Fld khr9_step 1 kInt hr9_step.at_ hr9_step.at__s := (Fld.snd _ (Fld.me _)).iso (fun _ => rfl) (fun _ _ => rfl)
structure chain_Trail where
  ptr : Ptr
  way : List Ptr
  deriving DecidableEq
def kchain_Trail : Kd chain_Trail := kIso (kTwo kPtr (kSl kPtr)) 40 (fun x => (x.ptr, x.way)) ⟨kPtr.z, (kSl kPtr).z⟩ rfl
def chain_Trail.ptr_s (x : chain_Trail) (y : Ptr) : chain_Trail := { x with ptr := y }
theorem F_chain_Trail_ptr : Fld kchain_Trail 0 kPtr chain_Trail.ptr chain_Trail.ptr_s := (Fld.fst _ (Fld.me _)).iso (fun _ => rfl) (fun _ _ => rfl)
def chain_Trail.way_s (x : chain_Trail) (y : (List Ptr)) : chain_Trail := { x with way := y }
theorem F_chain_Trail_way : Fld kchain_Trail 2 (kSl kPtr) chain_Trail.way chain_Trail.way_s := (Fld.snd _ (Fld.me _)).iso (fun _ => rfl) (fun _ _ => rfl)
structure whole_laid where
  now : (List (Int × Int))
  way : (List (Int × Int))
  deriving DecidableEq
def kwhole_laid : Kd whole_laid := kIso (kTwo (kMap kU64) (kMap kU64)) 16 (fun x => (x.now, x.way)) ⟨(kMap kU64).z, (kMap kU64).z⟩ rfl
def whole_laid.now_s (x : whole_laid) (y : (List (Int × Int))) : whole_laid := { x with now := y }
theorem F_whole_laid_now : Fld kwhole_laid 0 (kMap kU64) whole_laid.now whole_laid.now_s := (Fld.fst _ (Fld.me _)).iso (fun _ => rfl) (fun _ _ => rfl)
def whole_laid.way_s (x : whole_laid) (y : (List (Int × Int))) : whole_laid := { x with way := y }
theorem F_whole_laid_way : Fld kwhole_laid 1 (kMap kU64) whole_laid.way whole_laid.way_s := (Fld.snd _ (Fld.me _)).iso (fun _ => rfl) (fun _ _ => rfl)
structure whole_laidR where
  now : Option Nat
  way : Option Nat
  deriving DecidableEq
def kwhole_laidR : Kd whole_laidR := kIso (kTwo kMref kMref) 16 (fun x => (x.now, x.way)) ⟨kMref.z, kMref.z⟩ rfl
def whole_laidR.now_s (x : whole_laidR) (y : (Option Nat)) : whole_laidR := { x with now := y }
theorem F_whole_laidR_now : Fld kwhole_laidR 0 kMref whole_laidR.now whole_laidR.now_s := (Fld.fst _ (Fld.me _)).iso (fun _ => rfl) (fun _ _ => rfl)
def whole_laidR.way_s (x : whole_laidR) (y : (Option Nat)) : whole_laidR := { x with way := y }
theorem F_whole_laidR_way : Fld kwhole_laidR 1 kMref whole_laidR.way whole_laidR.way_s := (Fld.snd _ (Fld.me _)).iso (fun _ => rfl) (fun _ _ => rfl)
def eqv_Seg (x y : Seg) : Bool := (Seg.at_ x == Seg.at_ y && (Seg.len x == Seg.len y && true))
theorem eg115 : Tryz.prog.eqGuardType Tryz.prog.depth 115 = false := by kernel_rfl
theorem eq115 : EqK Tryz.prog 115 kSeg eqv_Seg 2 := eqk_struct (m := 1) (n := 2) rfl (by kernel_rfl) (by kernel_rfl) (by kernel_rfl) (.step (tf := 3) (by kernel_rfl) F_Seg_at_ (by kernel_rfl) ((eqk_num (by kernel_rfl)).up rfl) (.step (tf := 3) (by kernel_rfl) F_Seg_len (by kernel_rfl) ((eqk_num (by kernel_rfl)).up rfl) (.done _)))

def eqv_Entry (x y : Entry) : Bool := (Entry.from_ x == Entry.from_ y && (Entry.len x == Entry.len y && (Entry.dev x == Entry.dev y && (Entry.to x == Entry.to y && (Entry.stale x == Entry.stale y && true)))))
theorem eg125 : Tryz.prog.eqGuardType Tryz.prog.depth 125 = false := by kernel_rfl
theorem eq125 : EqK Tryz.prog 125 kEntry eqv_Entry 2 := eqk_struct (m := 1) (n := 5) rfl (by kernel_rfl) (by kernel_rfl) (by kernel_rfl) (.step (tf := 3) (by kernel_rfl) F_Entry_from_ (by kernel_rfl) ((eqk_num (by kernel_rfl)).up rfl) (.step (tf := 3) (by kernel_rfl) F_Entry_len (by kernel_rfl) ((eqk_num (by kernel_rfl)).up rfl) (.step (tf := 3) (by kernel_rfl) F_Entry_dev (by kernel_rfl) ((eqk_num (by kernel_rfl)).up rfl) (.step (tf := 3) (by kernel_rfl) F_Entry_to (by kernel_rfl) ((eqk_num (by kernel_rfl)).up rfl) (.step (tf := 3) (by kernel_rfl) F_Entry_stale (by kernel_rfl) ((eqk_num (by kernel_rfl)).up rfl) (.done _))))))

def eqv_Link (x y : Link) : Bool := (sEq (Link.name x) (Link.name y) && (Link.iD x == Link.iD y && true))
theorem eg186 : Tryz.prog.eqGuardType Tryz.prog.depth 186 = false := by kernel_rfl
theorem eq186 : EqK Tryz.prog 186 kLink eqv_Link 2 := eqk_struct (m := 1) (n := 2) rfl (by kernel_rfl) (by kernel_rfl) (by kernel_rfl) (.step (tf := 9) (by kernel_rfl) F_Link_name (by kernel_rfl) ((eqk_str (by kernel_rfl)).up rfl) (.step (tf := 3) (by kernel_rfl) F_Link_iD (by kernel_rfl) ((eqk_num (by kernel_rfl)).up rfl) (.done _)))

def eqv_Ptr (x y : Ptr) : Bool := (Ptr.dev x == Ptr.dev y && (Ptr.at_ x == Ptr.at_ y && true))
theorem eq78 : EqK Tryz.prog 78 kPtr eqv_Ptr 2 := eqk_struct (m := 1) (n := 2) rfl (by kernel_rfl) (by kernel_rfl) (by kernel_rfl) (.step (tf := 3) (by kernel_rfl) F_Ptr_dev (by kernel_rfl) ((eqk_num (by kernel_rfl)).up rfl) (.step (tf := 3) (by kernel_rfl) F_Ptr_at_ (by kernel_rfl) ((eqk_num (by kernel_rfl)).up rfl) (.done _)))
def eqv_Block (x y : Block) : Bool := (Block.iD x == Block.iD y && (eqv_Ptr (Block.ptr x) (Block.ptr y) && (sEq (Block.text x) (Block.text y) && true)))
theorem eg82 : Tryz.prog.eqGuardType Tryz.prog.depth 82 = false := by kernel_rfl
theorem eq82 : EqK Tryz.prog 82 kBlock eqv_Block 3 := eqk_struct (m := 2) (n := 3) rfl (by kernel_rfl) (by kernel_rfl) (by kernel_rfl) (.step (tf := 3) (by kernel_rfl) F_Block_iD (by kernel_rfl) ((eqk_num (by kernel_rfl)).up rfl) (.step (tf := 78) (by kernel_rfl) F_Block_ptr (by kernel_rfl) (eq78.up rfl) (.step (tf := 9) (by kernel_rfl) F_Block_text (by kernel_rfl) ((eqk_str (by kernel_rfl)).up rfl) (.done _))))

theorem ap103 : apB Tryz.prog 103 186 kLink.sz = true := by kernel_rfl
theorem ap106 : apB Tryz.prog 106 105 kFile.sz = true := by kernel_rfl
theorem ap140 : apB Tryz.prog 140 144 khr9_step.sz = true := by kernel_rfl
theorem ap196 : apB Tryz.prog 196 4 kBool.sz = true := by kernel_rfl
theorem ap24 : apB Tryz.prog 24 3 kInt.sz = true := by kernel_rfl
theorem ap28 : apB Tryz.prog 28 108 kVol.sz = true := by kernel_rfl
theorem ap29 : apB Tryz.prog 29 82 kBlock.sz = true := by kernel_rfl
theorem ap30 : apB Tryz.prog 30 60 kDevice.sz = true := by kernel_rfl
theorem ap31 : apB Tryz.prog 31 34 kTable.sz = true := by kernel_rfl
theorem ap32 : apB Tryz.prog 32 125 kEntry.sz = true := by kernel_rfl
theorem ap58 : apB Tryz.prog 58 115 kSeg.sz = true := by kernel_rfl
theorem ap66 : apB Tryz.prog 66 9 kStr.sz = true := by kernel_rfl
theorem ap97 : apB Tryz.prog 97 78 kPtr.sz = true := by kernel_rfl
theorem ar74 : arB Tryz.prog 74 64 kBool = true := by kernel_rfl
theorem ar75 : arB Tryz.prog 75 6 (kArr kBool 64 64) = true := by kernel_rfl
theorem ar76 : arB Tryz.prog 76 13 (kArr kBool 64 64) = true := by kernel_rfl
theorem fs105_0 : fsB Tryz.prog 105 0 0 = true := by kernel_rfl
theorem fs105_1 : fsB Tryz.prog 105 1 1 = true := by kernel_rfl
theorem fs105_2 : fsB Tryz.prog 105 2 2 = true := by kernel_rfl
theorem fs105_3 : fsB Tryz.prog 105 3 3 = true := by kernel_rfl
theorem fs105_4 : fsB Tryz.prog 105 4 4 = true := by kernel_rfl
theorem fs108_0 : fsB Tryz.prog 108 0 0 = true := by kernel_rfl
theorem fs108_1 : fsB Tryz.prog 108 1 1 = true := by kernel_rfl
theorem fs108_2 : fsB Tryz.prog 108 2 2 = true := by kernel_rfl
theorem fs108_3 : fsB Tryz.prog 108 3 3 = true := by kernel_rfl
theorem fs108_4 : fsB Tryz.prog 108 4 4 = true := by kernel_rfl
theorem fs115_0 : fsB Tryz.prog 115 0 0 = true := by kernel_rfl
theorem fs115_1 : fsB Tryz.prog 115 1 1 = true := by kernel_rfl
theorem fs125_0 : fsB Tryz.prog 125 0 0 = true := by kernel_rfl
theorem fs125_1 : fsB Tryz.prog 125 1 1 = true := by kernel_rfl
theorem fs125_2 : fsB Tryz.prog 125 2 2 = true := by kernel_rfl
theorem fs125_3 : fsB Tryz.prog 125 3 3 = true := by kernel_rfl
theorem fs125_4 : fsB Tryz.prog 125 4 4 = true := by kernel_rfl
theorem fs144_0 : fsB Tryz.prog 144 0 0 = true := by kernel_rfl
theorem fs144_1 : fsB Tryz.prog 144 1 1 = true := by kernel_rfl
theorem fs148_0 : fsB Tryz.prog 148 0 0 = true := by kernel_rfl
theorem fs148_1 : fsB Tryz.prog 148 1 1 = true := by kernel_rfl
theorem fs186_0 : fsB Tryz.prog 186 0 0 = true := by kernel_rfl
theorem fs186_1 : fsB Tryz.prog 186 1 1 = true := by kernel_rfl
theorem fs26_0 : fsB Tryz.prog 26 0 0 = true := by kernel_rfl
theorem fs26_1 : fsB Tryz.prog 26 1 1 = true := by kernel_rfl
theorem fs26_2 : fsB Tryz.prog 26 2 2 = true := by kernel_rfl
theorem fs34_0 : fsB Tryz.prog 34 0 0 = true := by kernel_rfl
theorem fs34_1 : fsB Tryz.prog 34 1 1 = true := by kernel_rfl
theorem fs34_2 : fsB Tryz.prog 34 2 2 = true := by kernel_rfl
theorem fs36_0 : fsB Tryz.prog 36 0 0 = true := by kernel_rfl
theorem fs36_1 : fsB Tryz.prog 36 1 1 = true := by kernel_rfl
theorem fs36_2 : fsB Tryz.prog 36 2 2 = true := by kernel_rfl
theorem fs38_0 : fsB Tryz.prog 38 0 0 = true := by kernel_rfl
theorem fs38_1 : fsB Tryz.prog 38 1 1 = true := by kernel_rfl
theorem fs38_2 : fsB Tryz.prog 38 2 2 = true := by kernel_rfl
theorem fs38_3 : fsB Tryz.prog 38 3 7 = true := by kernel_rfl
theorem fs40_0 : fsB Tryz.prog 40 0 0 = true := by kernel_rfl
theorem fs40_1 : fsB Tryz.prog 40 1 1 = true := by kernel_rfl
theorem fs40_2 : fsB Tryz.prog 40 2 2 = true := by kernel_rfl
theorem fs40_3 : fsB Tryz.prog 40 3 3 = true := by kernel_rfl
theorem fs40_4 : fsB Tryz.prog 40 4 4 = true := by kernel_rfl
theorem fs60_0 : fsB Tryz.prog 60 0 0 = true := by kernel_rfl
theorem fs60_1 : fsB Tryz.prog 60 1 1 = true := by kernel_rfl
theorem fs60_2 : fsB Tryz.prog 60 2 2 = true := by kernel_rfl
theorem fs60_3 : fsB Tryz.prog 60 3 3 = true := by kernel_rfl
theorem fs68_0 : fsB Tryz.prog 68 0 0 = true := by kernel_rfl
theorem fs68_1 : fsB Tryz.prog 68 1 1 = true := by kernel_rfl
theorem fs78_0 : fsB Tryz.prog 78 0 0 = true := by kernel_rfl
theorem fs78_1 : fsB Tryz.prog 78 1 1 = true := by kernel_rfl
theorem fs82_0 : fsB Tryz.prog 82 0 0 = true := by kernel_rfl
theorem fs82_1 : fsB Tryz.prog 82 1 1 = true := by kernel_rfl
theorem fs82_2 : fsB Tryz.prog 82 2 3 = true := by kernel_rfl
theorem fs99_0 : fsB Tryz.prog 99 0 0 = true := by kernel_rfl
theorem fs99_1 : fsB Tryz.prog 99 1 2 = true := by kernel_rfl
theorem ma146 : maB Tryz.prog 146 110 = true := by kernel_rfl
theorem ma221 : maB Tryz.prog 221 3 = true := by kernel_rfl
theorem ma225 : maB Tryz.prog 225 4 = true := by kernel_rfl
theorem pl105_0 : plB Tryz.prog 105 0 0 kInt.sz = true := by kernel_rfl
theorem pl105_1 : plB Tryz.prog 105 1 1 kBool.sz = true := by kernel_rfl
theorem pl108_0 : plB Tryz.prog 108 0 0 kInt.sz = true := by kernel_rfl
theorem pl108_3 : plB Tryz.prog 108 3 3 (kSl kFile).sz = true := by kernel_rfl
theorem pl108_4 : plB Tryz.prog 108 4 4 kInt.sz = true := by kernel_rfl
theorem pl115_0 : plB Tryz.prog 115 0 0 kInt.sz = true := by kernel_rfl
theorem pl115_1 : plB Tryz.prog 115 1 1 kInt.sz = true := by kernel_rfl
theorem pl144_0 : plB Tryz.prog 144 0 0 kInt.sz = true := by kernel_rfl
theorem pl144_1 : plB Tryz.prog 144 1 1 kInt.sz = true := by kernel_rfl
theorem pl148_0 : plB Tryz.prog 148 0 0 (kMap kU64).sz = true := by kernel_rfl
theorem pl148_1 : plB Tryz.prog 148 1 1 (kMap kU64).sz = true := by kernel_rfl
theorem pl40_0 : plB Tryz.prog 40 0 0 (kSl kVol).sz = true := by kernel_rfl
theorem pl40_1 : plB Tryz.prog 40 1 1 kInt.sz = true := by kernel_rfl
theorem pl60_0 : plB Tryz.prog 60 0 0 kInt.sz = true := by kernel_rfl
theorem pl60_1 : plB Tryz.prog 60 1 1 kInt.sz = true := by kernel_rfl
theorem pl60_2 : plB Tryz.prog 60 2 2 (kSl kSeg).sz = true := by kernel_rfl
theorem pl78_0 : plB Tryz.prog 78 0 0 kInt.sz = true := by kernel_rfl
theorem pl78_1 : plB Tryz.prog 78 1 1 kInt.sz = true := by kernel_rfl
theorem pl82_0 : plB Tryz.prog 82 0 0 kInt.sz = true := by kernel_rfl
theorem pl82_2 : plB Tryz.prog 82 2 3 kStr.sz = true := by kernel_rfl
theorem pl99_0 : plB Tryz.prog 99 0 0 kPtr.sz = true := by kernel_rfl
theorem ps105 : (placesOf Tryz.prog 105).isSome = true := by kernel_rfl
theorem ps108 : (placesOf Tryz.prog 108).isSome = true := by kernel_rfl
theorem ps115 : (placesOf Tryz.prog 115).isSome = true := by kernel_rfl
theorem ps144 : (placesOf Tryz.prog 144).isSome = true := by kernel_rfl
theorem ps148 : (placesOf Tryz.prog 148).isSome = true := by kernel_rfl
theorem ps34 : (placesOf Tryz.prog 34).isSome = true := by kernel_rfl
theorem ps40 : (placesOf Tryz.prog 40).isSome = true := by kernel_rfl
theorem ps60 : (placesOf Tryz.prog 60).isSome = true := by kernel_rfl
theorem ps78 : (placesOf Tryz.prog 78).isSome = true := by kernel_rfl
theorem ps82 : (placesOf Tryz.prog 82).isSome = true := by kernel_rfl
theorem ps99 : (placesOf Tryz.prog 99).isSome = true := by kernel_rfl
theorem sl103 : slB Tryz.prog 103 kLink = true := by kernel_rfl
theorem sl106 : slB Tryz.prog 106 kFile = true := by kernel_rfl
theorem sl140 : slB Tryz.prog 140 khr9_step = true := by kernel_rfl
theorem sl176 : slB Tryz.prog 176 (kSl kBlock) = true := by kernel_rfl
theorem sl196 : slB Tryz.prog 196 kBool = true := by kernel_rfl
theorem sl22 : slB Tryz.prog 22 kState = true := by kernel_rfl
theorem sl223 : slB Tryz.prog 223 (kSl kInt) = true := by kernel_rfl
theorem sl23 : slB Tryz.prog 23 khl14_Put = true := by kernel_rfl
theorem sl24 : slB Tryz.prog 24 kInt = true := by kernel_rfl
theorem sl28 : slB Tryz.prog 28 kVol = true := by kernel_rfl
theorem sl29 : slB Tryz.prog 29 kBlock = true := by kernel_rfl
theorem sl30 : slB Tryz.prog 30 kDevice = true := by kernel_rfl
theorem sl31 : slB Tryz.prog 31 kTable = true := by kernel_rfl
theorem sl32 : slB Tryz.prog 32 kEntry = true := by kernel_rfl
theorem sl58 : slB Tryz.prog 58 kSeg = true := by kernel_rfl
theorem sl66 : slB Tryz.prog 66 kStr = true := by kernel_rfl
theorem sl97 : slB Tryz.prog 97 kPtr = true := by kernel_rfl
theorem sz106 : slzB Tryz.prog 106 kFile.sz = true := by kernel_rfl
theorem sz140 : slzB Tryz.prog 140 khr9_step.sz = true := by kernel_rfl
theorem sz176 : slzB Tryz.prog 176 (kSl kBlock).sz = true := by kernel_rfl
theorem sz223 : slzB Tryz.prog 223 (kSl kInt).sz = true := by kernel_rfl
theorem sz24 : slzB Tryz.prog 24 kInt.sz = true := by kernel_rfl
theorem sz28 : slzB Tryz.prog 28 kVol.sz = true := by kernel_rfl
theorem sz29 : slzB Tryz.prog 29 kBlock.sz = true := by kernel_rfl
theorem sz30 : slzB Tryz.prog 30 kDevice.sz = true := by kernel_rfl
theorem sz58 : slzB Tryz.prog 58 kSeg.sz = true := by kernel_rfl
theorem sz66 : slzB Tryz.prog 66 kStr.sz = true := by kernel_rfl
theorem sz97 : slzB Tryz.prog 97 kPtr.sz = true := by kernel_rfl
theorem th106 : tyB Tryz.prog 106 kHd = true := by kernel_rfl
theorem th30 : tyB Tryz.prog 30 kHd = true := by kernel_rfl
theorem th31 : tyB Tryz.prog 31 kHd = true := by kernel_rfl
theorem th97 : tyB Tryz.prog 97 kHd = true := by kernel_rfl
theorem tm146 : tyB Tryz.prog 146 kMref = true := by kernel_rfl
theorem tm225 : tyB Tryz.prog 225 kMref = true := by kernel_rfl
theorem ty103 : tyB Tryz.prog 103 (kSl kLink) = true := by kernel_rfl
theorem ty105 : tyB Tryz.prog 105 kFile = true := by kernel_rfl
theorem ty106 : tyB Tryz.prog 106 (kSl kFile) = true := by kernel_rfl
theorem ty108 : tyB Tryz.prog 108 kVol = true := by kernel_rfl
theorem ty115 : tyB Tryz.prog 115 kSeg = true := by kernel_rfl
theorem ty125 : tyB Tryz.prog 125 kEntry = true := by kernel_rfl
theorem ty146 : tyB Tryz.prog 146 (kMap kU64) = true := by kernel_rfl
theorem ty148 : tyB Tryz.prog 148 kwhole_laid = true := by kernel_rfl
theorem ty186 : tyB Tryz.prog 186 kLink = true := by kernel_rfl
theorem ty22 : tyB Tryz.prog 22 (kSl kState) = true := by kernel_rfl
theorem ty225 : tyB Tryz.prog 225 (kMap kBool) = true := by kernel_rfl
theorem ty23 : tyB Tryz.prog 23 (kSl khl14_Put) = true := by kernel_rfl
theorem ty24 : tyB Tryz.prog 24 (kSl kInt) = true := by kernel_rfl
theorem ty26 : tyB Tryz.prog 26 khl14_Ask = true := by kernel_rfl
theorem ty28 : tyB Tryz.prog 28 (kSl kVol) = true := by kernel_rfl
theorem ty29 : tyB Tryz.prog 29 (kSl kBlock) = true := by kernel_rfl
theorem ty3 : tyB Tryz.prog 3 kInt = true := by kernel_rfl
theorem ty30 : tyB Tryz.prog 30 (kSl kDevice) = true := by kernel_rfl
theorem ty31 : tyB Tryz.prog 31 (kSl kTable) = true := by kernel_rfl
theorem ty32 : tyB Tryz.prog 32 (kSl kEntry) = true := by kernel_rfl
theorem ty34 : tyB Tryz.prog 34 kTable = true := by kernel_rfl
theorem ty36 : tyB Tryz.prog 36 kJob = true := by kernel_rfl
theorem ty38 : tyB Tryz.prog 38 kPool = true := by kernel_rfl
theorem ty4 : tyB Tryz.prog 4 kBool = true := by kernel_rfl
theorem ty40 : tyB Tryz.prog 40 kState = true := by kernel_rfl
theorem ty58 : tyB Tryz.prog 58 (kSl kSeg) = true := by kernel_rfl
theorem ty60 : tyB Tryz.prog 60 kDevice = true := by kernel_rfl
theorem ty66 : tyB Tryz.prog 66 (kSl kStr) = true := by kernel_rfl
theorem ty74 : tyB Tryz.prog 74 (kArr kBool 64 64) = true := by kernel_rfl
theorem ty78 : tyB Tryz.prog 78 kPtr = true := by kernel_rfl
theorem ty82 : tyB Tryz.prog 82 kBlock = true := by kernel_rfl
theorem ty9 : tyB Tryz.prog 9 kStr = true := by kernel_rfl
theorem ty97 : tyB Tryz.prog 97 (kSl kPtr) = true := by kernel_rfl
theorem ty99 : tyB Tryz.prog 99 kchain_Trail = true := by kernel_rfl
theorem tz105 : (Tryz.prog.info? 105).bind (·.zero) = some (kFile.mk' kFile.zc) := by kernel_rfl
theorem tz108 : (Tryz.prog.info? 108).bind (·.zero) = some (kVol.mk' kVol.zc) := by kernel_rfl
theorem tz110 : (Tryz.prog.info? 110).bind (·.zero) = some (kU64.mk' kU64.zc) := by kernel_rfl
theorem tz115 : (Tryz.prog.info? 115).bind (·.zero) = some (kSeg.mk' kSeg.zc) := by kernel_rfl
theorem tz125 : (Tryz.prog.info? 125).bind (·.zero) = some (kEntry.mk' kEntry.zc) := by kernel_rfl
theorem tz144 : (Tryz.prog.info? 144).bind (·.zero) = some (khr9_step.mk' khr9_step.zc) := by kernel_rfl
theorem tz148 : (Tryz.prog.info? 148).bind (·.zero) = some (kwhole_laid.mk' kwhole_laid.zc) := by kernel_rfl
theorem tz186 : (Tryz.prog.info? 186).bind (·.zero) = some (kLink.mk' kLink.zc) := by kernel_rfl
theorem tz3 : (Tryz.prog.info? 3).bind (·.zero) = some (kInt.mk' kInt.zc) := by kernel_rfl
theorem tz34 : (Tryz.prog.info? 34).bind (·.zero) = some (kTable.mk' kTable.zc) := by kernel_rfl
theorem tz36 : (Tryz.prog.info? 36).bind (·.zero) = some (kJob.mk' kJob.zc) := by kernel_rfl
theorem tz38 : (Tryz.prog.info? 38).bind (·.zero) = some (kPool.mk' kPool.zc) := by kernel_rfl
theorem tz4 : (Tryz.prog.info? 4).bind (·.zero) = some (kBool.mk' kBool.zc) := by kernel_rfl
theorem tz40 : (Tryz.prog.info? 40).bind (·.zero) = some (kState.mk' kState.zc) := by kernel_rfl
theorem tz60 : (Tryz.prog.info? 60).bind (·.zero) = some (kDevice.mk' kDevice.zc) := by kernel_rfl
theorem tz74 : (Tryz.prog.info? 74).bind (·.zero) = some ((kArr kBool 64 64).mk' (kArr kBool 64 64).zc) := by kernel_rfl
theorem tz75 : (Tryz.prog.info? 75).bind (·.zero) = some ((kArr (kArr kBool 64 64) 6 384).mk' (kArr (kArr kBool 64 64) 6 384).zc) := by kernel_rfl
theorem tz76 : (Tryz.prog.info? 76).bind (·.zero) = some ((kArr (kArr kBool 64 64) 13 832).mk' (kArr (kArr kBool 64 64) 13 832).zc) := by kernel_rfl
theorem tz78 : (Tryz.prog.info? 78).bind (·.zero) = some (kPtr.mk' kPtr.zc) := by kernel_rfl
theorem tz82 : (Tryz.prog.info? 82).bind (·.zero) = some (kBlock.mk' kBlock.zc) := by kernel_rfl
theorem tz99 : (Tryz.prog.info? 99).bind (·.zero) = some (kchain_Trail.mk' kchain_Trail.zc) := by kernel_rfl
theorem un109 : Tryz.prog.underlying 109 = some (.int .u64) := by kernel_rfl
theorem un231 : Tryz.prog.underlying 231 = some (.int .u64) := by kernel_rfl
theorem un3 : Tryz.prog.underlying 3 = some (.int .i64) := by kernel_rfl
theorem un4 : Tryz.prog.underlying 4 = some .bool := by kernel_rfl
theorem un9 : Tryz.prog.underlying 9 = some .string := by kernel_rfl
end Go.Proofs.YtojgddnefopdjaaGreatDoor
namespace Go.Proofs
open Go.Shelf
def Tryz.layKeys_ren : Go.Shelf.Ren := ⟨fun | 7 => 178 | 10 => 232 | n => n, fun | 23 => 221 | 26 => 3 | 3 => 3 | 28 => 219 | 0 => 0 | 27 => 218 | 33 => 198 | 4 => 4 | n => n, fun | n => n⟩
theorem Tryz.layKeys : Go.Proofs.SlLaysZI.n7 Tryz.prog Tryz.layKeys_ren := {
  mixed := by kernel_rfl
  f7 := ⟨Tryz.f178.name, by decide, Tryz.func178.trans (congrArg some (by kernel_rfl))⟩
  f10 := ⟨Tryz.f232.name, by decide, Tryz.func232.trans (congrArg some (by kernel_rfl))⟩
  t0 := Tryz.underlying0
  a0 := Tryz.isAgg0
  z0 := Tryz.sizeOf0
  v0 := Tryz.zeroValue0
  t4 := Tryz.underlying4
  a4 := Tryz.isAgg4
  z4 := Tryz.sizeOf4
  v4 := Tryz.zeroValue4
  t23 := Tryz.underlying221
  a23 := Tryz.isAgg221
  z23 := Tryz.sizeOf221
  v23 := Tryz.zeroValue221
  t26 := Tryz.underlying3
  a26 := Tryz.isAgg3
  z26 := Tryz.sizeOf3
  v26 := Tryz.zeroValue3
  t27 := Tryz.underlying218
  a27 := Tryz.isAgg218
  z27 := Tryz.sizeOf218
  v27 := Tryz.zeroValue218
  t28 := Tryz.underlying219
  a28 := Tryz.isAgg219
  z28 := Tryz.sizeOf219
  v28 := Tryz.zeroValue219
  t33 := Tryz.underlying198
  a33 := Tryz.isAgg198
  z33 := Tryz.sizeOf198
  v33 := Tryz.zeroValue198 }
def Tryz.laySorted_ren : Go.Shelf.Ren := ⟨fun | 6 => 177 | 8 => 231 | 9 => 182 | 11 => 262 | 13 => 234 | 12 => 233 | 23 => 271 | 24 => 272 | 14 => 263 | 15 => 264 | 16 => 265 | 17 => 266 | 18 => 267 | 19 => 268 | 20 => 191 | 21 => 269 | 22 => 270 | 25 => 281 | 26 => 282 | 27 => 283 | 28 => 284 | 29 => 285 | 30 => 246 | 31 => 289 | n => n, fun | 26 => 3 | 28 => 219 | 24 => 24 | 0 => 0 | 3 => 3 | 37 => 231 | 48 => 283 | 50 => 109 | 4 => 4 | 40 => 277 | 39 => 276 | 45 => 164 | 5 => 5 | 9 => 9 | 51 => 290 | 55 => 294 | 57 => 297 | 58 => 298 | 33 => 198 | n => n, fun | n => n⟩
theorem Tryz.laySorted : Go.Proofs.SlLaysZI.n6 Tryz.prog Tryz.laySorted_ren := {
  mixed := by kernel_rfl
  f6 := ⟨Tryz.f177.name, by decide, Tryz.func177.trans (congrArg some (by kernel_rfl))⟩
  f8 := ⟨Tryz.f231.name, by decide, Tryz.func231.trans (congrArg some (by kernel_rfl))⟩
  f11 := ⟨Tryz.f262.name, by decide, Tryz.func262.trans (congrArg some (by kernel_rfl))⟩
  t0 := Tryz.underlying0
  a0 := Tryz.isAgg0
  z0 := Tryz.sizeOf0
  v0 := Tryz.zeroValue0
  t24 := Tryz.underlying24
  a24 := Tryz.isAgg24
  z24 := Tryz.sizeOf24
  v24 := Tryz.zeroValue24
  t26 := Tryz.underlying3
  a26 := Tryz.isAgg3
  z26 := Tryz.sizeOf3
  v26 := Tryz.zeroValue3
  t28 := Tryz.underlying219
  a28 := Tryz.isAgg219
  z28 := Tryz.sizeOf219
  v28 := Tryz.zeroValue219
  i26 := by kernel_rfl }
def Tryz.laySort_ren : Go.Shelf.Ren := ⟨fun | 189 => 182 | 125 => 234 | 257 => 233 | 128 => 271 | 129 => 272 | 294 => 263 | 295 => 264 | 296 => 265 | 297 => 266 | 298 => 267 | 299 => 268 | 216 => 191 | 300 => 269 | 301 => 270 | 328 => 281 | 329 => 282 | 330 => 283 | 331 => 284 | 332 => 285 | 215 => 246 | 343 => 289 | n => n, fun | 28 => 24 | 3 => 3 | 46 => 231 | 0 => 0 | 51 => 283 | 53 => 109 | 4 => 4 | 183 => 277 | 182 => 276 | 131 => 164 | 5 => 5 | 9 => 9 | 218 => 290 | 222 => 294 | 228 => 297 | 229 => 298 | n => n, fun | n => n⟩
theorem Tryz.laySort : Go.Proofs.Lays.n189 Tryz.prog Tryz.laySort_ren := {
  mixed := by kernel_rfl
  f125 := Tryz.func234.trans (congrArg some (by kernel_rfl))
  f128 := Tryz.func271.trans (congrArg some (by kernel_rfl))
  f129 := Tryz.func272.trans (congrArg some (by kernel_rfl))
  f189 := Tryz.func182.trans (congrArg some (by kernel_rfl))
  f215 := Tryz.func246.trans (congrArg some (by kernel_rfl))
  f216 := Tryz.func191.trans (congrArg some (by kernel_rfl))
  f257 := Tryz.func233.trans (congrArg some (by kernel_rfl))
  f294 := Tryz.func263.trans (congrArg some (by kernel_rfl))
  f295 := Tryz.func264.trans (congrArg some (by kernel_rfl))
  f296 := Tryz.func265.trans (congrArg some (by kernel_rfl))
  f297 := Tryz.func266.trans (congrArg some (by kernel_rfl))
  f298 := Tryz.func267.trans (congrArg some (by kernel_rfl))
  f299 := Tryz.func268.trans (congrArg some (by kernel_rfl))
  f300 := Tryz.func269.trans (congrArg some (by kernel_rfl))
  f301 := Tryz.func270.trans (congrArg some (by kernel_rfl))
  f328 := Tryz.func281.trans (congrArg some (by kernel_rfl))
  f329 := Tryz.func282.trans (congrArg some (by kernel_rfl))
  f330 := Tryz.func283.trans (congrArg some (by kernel_rfl))
  f331 := Tryz.func284.trans (congrArg some (by kernel_rfl))
  f332 := Tryz.func285.trans (congrArg some (by kernel_rfl))
  f343 := Tryz.func289.trans (congrArg some (by kernel_rfl))
  t0 := Tryz.underlying0
  a0 := Tryz.isAgg0
  z0 := Tryz.sizeOf0
  v0 := Tryz.zeroValue0
  t3 := Tryz.underlying3
  a3 := Tryz.isAgg3
  z3 := Tryz.sizeOf3
  v3 := Tryz.zeroValue3
  t4 := Tryz.underlying4
  a4 := Tryz.isAgg4
  z4 := Tryz.sizeOf4
  v4 := Tryz.zeroValue4
  t5 := Tryz.underlying5
  a5 := Tryz.isAgg5
  z5 := Tryz.sizeOf5
  v5 := Tryz.zeroValue5
  t9 := Tryz.underlying9
  a9 := Tryz.isAgg9
  z9 := Tryz.sizeOf9
  v9 := Tryz.zeroValue9
  t28 := Tryz.underlying24
  a28 := Tryz.isAgg24
  z28 := Tryz.sizeOf24
  v28 := Tryz.zeroValue24
  t46 := Tryz.underlying231
  a46 := Tryz.isAgg231
  z46 := Tryz.sizeOf231
  v46 := Tryz.zeroValue231
  t51 := Tryz.underlying283
  a51 := Tryz.isAgg283
  z51 := Tryz.sizeOf283
  v51 := Tryz.zeroValue283
  t53 := Tryz.underlying109
  a53 := Tryz.isAgg109
  z53 := Tryz.sizeOf109
  v53 := Tryz.zeroValue109
  t131 := Tryz.underlying164
  a131 := Tryz.isAgg164
  z131 := Tryz.sizeOf164
  v131 := Tryz.zeroValue164
  t182 := Tryz.underlying276
  a182 := Tryz.isAgg276
  z182 := Tryz.sizeOf276
  v182 := Tryz.zeroValue276
  t183 := Tryz.underlying277
  a183 := Tryz.isAgg277
  z183 := Tryz.sizeOf277
  v183 := Tryz.zeroValue277
  t218 := Tryz.underlying290
  a218 := Tryz.isAgg290
  z218 := Tryz.sizeOf290
  v218 := Tryz.zeroValue290
  t222 := Tryz.underlying294
  a222 := Tryz.isAgg294
  z222 := Tryz.sizeOf294
  v222 := Tryz.zeroValue294
  t228 := Tryz.underlying297
  a228 := Tryz.isAgg297
  z228 := Tryz.sizeOf297
  v228 := Tryz.zeroValue297
  t229 := Tryz.underlying298
  a229 := Tryz.isAgg298
  z229 := Tryz.sizeOf298
  v229 := Tryz.zeroValue298 }
def Tryz.layGrowI_ren : Go.Shelf.Ren := ⟨fun | 4 => 180 | n => n, fun | 22 => 24 | 25 => 3 | 3 => 3 | 4 => 4 | 9 => 9 | 20 => 20 | 0 => 0 | n => n, fun | n => n⟩
theorem Tryz.layGrowI : Go.Proofs.Lays8.n4 Tryz.prog Tryz.layGrowI_ren := {
  mixed := by kernel_rfl
  f4 := ⟨Tryz.f180.name, by decide, Tryz.func180.trans (congrArg some (by kernel_rfl))⟩
  t0 := Tryz.underlying0
  a0 := Tryz.isAgg0
  z0 := Tryz.sizeOf0
  v0 := Tryz.zeroValue0
  t3 := Tryz.underlying3
  a3 := Tryz.isAgg3
  z3 := Tryz.sizeOf3
  v3 := Tryz.zeroValue3
  t4 := Tryz.underlying4
  a4 := Tryz.isAgg4
  z4 := Tryz.sizeOf4
  v4 := Tryz.zeroValue4
  t9 := Tryz.underlying9
  a9 := Tryz.isAgg9
  z9 := Tryz.sizeOf9
  v9 := Tryz.zeroValue9
  t20 := Tryz.underlying20
  a20 := Tryz.isAgg20
  z20 := Tryz.sizeOf20
  v20 := Tryz.zeroValue20
  t22 := Tryz.underlying24
  a22 := Tryz.isAgg24
  z22 := Tryz.sizeOf24
  v22 := Tryz.zeroValue24 }
def Tryz.layGrowB_ren : Go.Shelf.Ren := ⟨fun | 4 => 123 | n => n, fun | 22 => 29 | 25 => 82 | 3 => 3 | 4 => 4 | 9 => 9 | 20 => 20 | 0 => 0 | n => n, fun | n => n⟩
theorem Tryz.layGrowB : Go.Proofs.Lays8.n4 Tryz.prog Tryz.layGrowB_ren := {
  mixed := by kernel_rfl
  f4 := ⟨Tryz.f123.name, by decide, Tryz.func123.trans (congrArg some (by kernel_rfl))⟩
  t0 := Tryz.underlying0
  a0 := Tryz.isAgg0
  z0 := Tryz.sizeOf0
  v0 := Tryz.zeroValue0
  t3 := Tryz.underlying3
  a3 := Tryz.isAgg3
  z3 := Tryz.sizeOf3
  v3 := Tryz.zeroValue3
  t4 := Tryz.underlying4
  a4 := Tryz.isAgg4
  z4 := Tryz.sizeOf4
  v4 := Tryz.zeroValue4
  t9 := Tryz.underlying9
  a9 := Tryz.isAgg9
  z9 := Tryz.sizeOf9
  v9 := Tryz.zeroValue9
  t20 := Tryz.underlying20
  a20 := Tryz.isAgg20
  z20 := Tryz.sizeOf20
  v20 := Tryz.zeroValue20
  t22 := Tryz.underlying29
  a22 := Tryz.isAgg29
  z22 := Tryz.sizeOf29
  v22 := Tryz.zeroValue29 }
def Tryz.layTz_ren : Go.Shelf.Ren := ⟨fun | 29 => 226 | n => n, fun | 22 => 109 | 3 => 3 | 4 => 4 | 25 => 231 | 54 => 271 | 0 => 0 | 5 => 5 | n => n, fun | 1 => 0 | n => n⟩
theorem Tryz.layTz : Go.Proofs.Lays7.n29 Tryz.prog Tryz.layTz_ren := {
  mixed := by kernel_rfl
  f29 := Tryz.func226.trans (congrArg some (by kernel_rfl))
  t0 := Tryz.underlying0
  a0 := Tryz.isAgg0
  z0 := Tryz.sizeOf0
  v0 := Tryz.zeroValue0
  i0 := by kernel_rfl
  t3 := Tryz.underlying3
  a3 := Tryz.isAgg3
  z3 := Tryz.sizeOf3
  v3 := Tryz.zeroValue3
  i3 := by kernel_rfl
  t4 := Tryz.underlying4
  a4 := Tryz.isAgg4
  z4 := Tryz.sizeOf4
  v4 := Tryz.zeroValue4
  i4 := by kernel_rfl
  t5 := Tryz.underlying5
  a5 := Tryz.isAgg5
  z5 := Tryz.sizeOf5
  v5 := Tryz.zeroValue5
  i5 := by kernel_rfl
  t22 := Tryz.underlying109
  a22 := Tryz.isAgg109
  z22 := Tryz.sizeOf109
  v22 := Tryz.zeroValue109
  i22 := by kernel_rfl
  t25 := Tryz.underlying231
  a25 := Tryz.isAgg231
  z25 := Tryz.sizeOf231
  v25 := Tryz.zeroValue231
  i25 := by kernel_rfl
  t54 := Tryz.underlying271
  a54 := Tryz.isAgg271
  z54 := Tryz.sizeOf271
  g1 := by kernel_rfl }
end Go.Proofs
namespace Go.Proofs.YtojgddnefopdjaaGreatDoor
open Go.RowKit Go.Sort
set_option linter.unusedVariables false
def tz64 (x : Int) : Option Int := if 0 ≤ x ∧ x < 18446744073709551616 then some (Lib.ctz 64 x.toNat) else none
def keysP (m : List (Int × Int)) : Option (List (Int × Int)) := some m
def inR (x : Int) : Bool := decide (-9223372036854775808 ≤ x) && decide (x ≤ 9223372036854775807)
def insZ (x : Int) : List Int → List Int
  | [] => [x]
  | y :: l => if x ≤ y then x :: y :: l else y :: insZ x l
def sortZ : List Int → List Int
  | [] => []
  | x :: l => insZ x (sortZ l)
def sortedP (m : List (Int × Int)) : Option (List Int) := if m.length ≤ 4294967296 ∧ m.all (fun x => inR x.1) = true then some (sortZ (m.map (·.1))) else none
def sortP (xs : List Int) : Option (List Int) := if xs.length ≤ 4294967296 then some (sortZ xs) else none
def growP {α : Type} (xs : List α) (n : Int) : Option (List α) := if 0 ≤ n ∧ n ≤ 4294967296 then some [] else none
def keysv (m : List (Int × Int)) : TV := ⟨fun p v => ∃ (g : Nat) (mv : Value) (t : TypeId), v = .func (.func 232) #[] #[.pointer (some ⟨g, 0, none⟩)] ∧ p.S g ∧ p.w.heap[g]? = some (.cells #[mv] t (0, 0)) ∧ (kMap kInt).K p.w p.S m [mv],
  fun hl h => by obtain ⟨g, mv, t, h1, h2, h3, h4⟩ := h; exact ⟨g, mv, t, h1, (hl _ h2).1, (hl _ h2).2.trans h3, Kd.frame _ hl h4⟩⟩
def nilv {α : Type} (a : List α) : TV := ⟨fun _ v => a = [] ∧ v = .slice none 0 0, fun _ h => h⟩
theorem Ev.nil0 {T : Slots} {α : Type} : Ev T (.const (.slice none 0 0)) (nilv ([] : List α)) := fun _ _ _ => ⟨rfl, rfl⟩
def leZ : Int → Int → Bool := fun x y => decide (x ≤ y)
theorem insZ_perm (x : Int) : ∀ l, (insZ x l).Perm (x :: l)
  | [] => .refl _
  | y :: l => by
    unfold insZ
    split
    · exact .refl _
    · exact ((insZ_perm x l).cons y).trans (.swap x y l)
theorem sortZ_perm : ∀ l, (sortZ l).Perm l
  | [] => .refl _
  | x :: l => (insZ_perm x _).trans ((sortZ_perm l).cons x)
theorem insZ_sorted (x : Int) : ∀ l : List Int, l.Pairwise (fun a b => a ≤ b) → (insZ x l).Pairwise (fun a b => a ≤ b)
  | [], _ => by simp [insZ]
  | y :: l, h => by
    have h' := List.pairwise_cons.1 h
    unfold insZ
    split
    · rename_i hxy
      exact List.pairwise_cons.2 ⟨fun b hb => by
        rcases List.mem_cons.1 hb with rfl | hb
        · exact hxy
        · exact Int.le_trans hxy (h'.1 b hb), h⟩
    · rename_i hxy
      refine List.pairwise_cons.2 ⟨fun b hb => ?_, insZ_sorted x l h'.2⟩
      rcases List.mem_cons.1 ((insZ_perm x l).mem_iff.1 hb) with rfl | hb
      · omega
      · exact h'.1 b hb
theorem sortZ_sorted : ∀ l, (sortZ l).Pairwise (fun a b => a ≤ b)
  | [] => .nil
  | x :: l => insZ_sorted x _ (sortZ_sorted l)
theorem sortZ_eq {l l' : List Int} (h : l.Perm l') : (l.mergeSort fun x y => decide (x ≤ y)) = sortZ l' := by
  have tr : ∀ a b c : Int, decide (a ≤ b) = true → decide (b ≤ c) = true → decide (a ≤ c) = true := fun a b c h1 h2 => by simp only [decide_eq_true_eq] at *; exact Int.le_trans h1 h2
  have to : ∀ a b : Int, (decide (a ≤ b) || decide (b ≤ a)) = true := fun a b => by simp only [Bool.or_eq_true, decide_eq_true_eq]; exact Int.le_total a b
  refine List.Perm.eq_of_pairwise (le := fun a b => a ≤ b) (fun a b _ _ h1 h2 => Int.le_antisymm h1 h2) ?_ (sortZ_sorted l') (((List.mergeSort_perm l _).trans h).trans (sortZ_perm l').symm)
  exact (List.pairwise_mergeSort tr to l).imp fun {a b} h => by simpa using h
theorem sortZ_len (l : List Int) : (sortZ l).length = l.length := (sortZ_perm l).length_eq
theorem c_tz64 (a0 : Int) : Ct Tryz.prog 226 [rd kU64 a0] (tz64 a0) (fun r => rd kInt r) := ⟨⟨Tryz.f226, Tryz.func226, by kernel_rfl, by kernel_rfl⟩, fun r hr p vs hgl hv => by
  unfold tz64 at hr
  split at hr
  · rename_i hx
    injection hr with hr
    match vs, hv with
    | [v], ⟨hv, _⟩ =>
      have hv : [v] = [.int .u64 a0] := hv
      injection hv with hv
      subst hv
      have hc := Any7.bits_TrailingZeros64 Tryz.layTz a0.toNat (by omega) p.w (fun _ => hgl.2)
      rw [Int.toNat_of_nonneg hx.1] at hc
      refine hc.mono ?_
      rintro e w' ⟨rfl, rfl⟩
      exact ⟨_, rfl, p, rfl, p.le_refl, Ext.refl _, fun b hb => .inl hb, by rw [← hr]; exact (rfl : [_] = [_])⟩
  · cases hr⟩
theorem c_keysP (a0 : List (Int × Int)) : Ct Tryz.prog 178 [rd (kMap kInt) a0] (keysP a0) (fun r => keysv r) := ⟨⟨Tryz.f178, Tryz.func178, by kernel_rfl, by kernel_rfl⟩, fun r hr p vs hgl hv => by
  injection hr with hr
  subst hr
  match vs, hv with
  | [v], ⟨hv, _⟩ =>
    have hv : (kMap kInt).K p.w p.S a0 [v] := hv
    obtain ⟨mb, rfl⟩ : ∃ mb, v = .map mb := by
      rcases hv with ⟨_, e⟩ | ⟨g, _, _, e, _⟩ <;> (injection e with e; exact ⟨_, e⟩)
    have hc : CallsIn Fence.wide 5 Tryz.prog 178 #[.map mb] p.w fun e w' => e = .returned (.func (.func 232) #[] #[.pointer (some ⟨p.w.heap.size, 0, none⟩)]) ∧ w' = p.w.alloc (.cells #[.map mb] (Tryz.layKeys_ren.t 23)) := AnyZI.keys_in Tryz.layKeys Fence.wide 5 trivial rfl mb p.w
    refine (callsIn_wide.1 hc).mono ?_
    rintro e w' ⟨rfl, rfl⟩
    have hle : ∀ b, p.S b → (p.S b ∨ b = p.w.heap.size) ∧ (p.w.alloc (.cells #[.map mb] (Tryz.layKeys_ren.t 23))).heap[b]? = p.w.heap[b]? := fun b hb => ⟨.inl hb, blk_old _ _ (p.lt b hb)⟩
    exact ⟨_, rfl, ⟨p.w.alloc (.cells #[.map mb] (Tryz.layKeys_ren.t 23)), fun b => p.S b ∨ b = p.w.heap.size, fun b hb => by rw [size_alloc]; exact hb.elim (fun hb => Nat.lt_succ_of_lt (p.lt b hb)) (fun e => e ▸ Nat.lt_succ_self _)⟩, rfl, hle, (Ext.refl _).alloc _, fun b hb => hb.elim .inl (fun e => .inr (e ▸ Nat.le_refl _)),
      p.w.heap.size, _, _, rfl, .inr rfl, blk_new _ _, Kd.frame _ hle hv⟩⟩
theorem owns_map {w : World} {S : Nat → Prop} {k : TypeId} {m : List (Int × Int)} {gm c : Nat} {es : Array MapEntry} (hk : Tryz.prog.underlying k = some (.int .i64)) (hg : w.heap[gm]? = some (.map es c)) (hm : Mp kInt w S m es.toList c) (hl : m.length ≤ 4294967296) (hr : m.all (fun x => inR x.1) = true) :
    ∃ D : DataW Unit, w.ownsMap Tryz.prog k (fun _ => some (.nil, [])) gm es.size D ∧ Maps.size D ≤ 4294967296 ∧ (intKeys D).Perm (m.map (·.1)) := by
  have hr' : ∀ x ∈ m, (Lit.int .i64 x.1).wf = true := fun x hx => by
    have := List.all_eq_true.1 hr x hx
    unfold inR at this
    simp only [Bool.and_eq_true, decide_eq_true_eq] at this
    have e1 : IntKind.i64.min = -9223372036854775808 := by decide
    have e2 : IntKind.i64.max = 9223372036854775807 := by decide
    show (decide (IntKind.i64.min ≤ x.1) && decide (x.1 ≤ IntKind.i64.max)) = true
    rw [e1, e2, decide_eq_true this.1, decide_eq_true this.2]
    rfl
  have hkey : ∀ (x : Int), (Lit.int .i64 x).wf = true → keyOf Tryz.prog k (.int .i64 x) = some (.int .i64 x) := fun x hx => by simp [keyOf, hk, mapKey, hx]
  have hrg : ∀ (l : List MapEntry) (m : List (Int × Int)), MEs kInt w S l m → (∀ x ∈ m, (Lit.int .i64 x.1).wf = true) → (∀ x ∈ l, ∃ y, WideElems.rd (H := Unit) Tryz.prog k (fun _ => some (.nil, [])) x = some y) ∧ (l.map (WideElems.rg (H := Unit) Tryz.prog k (fun _ => some (.nil, [])))) = m.map (fun x => (.int .i64 x.1, .nil)) ∧ l.map (·.key) = m.map (fun x => .int .i64 x.1) := by
    intro l
    induction l with
    | nil => intro m h _; cases m with | nil => simp | cons => exact h.elim
    | cons e l ih =>
      intro m h hw
      cases m with
      | nil => exact h.elim
      | cons x m =>
        obtain ⟨h1, h2, h3⟩ := h
        obtain ⟨i1, i2, i3⟩ := ih m h3 (fun x hx => hw x (List.mem_cons_of_mem _ hx))
        have hrd : WideElems.rd (H := Unit) Tryz.prog k (fun _ => some (.nil, [])) e = some (.int .i64 x.1, .nil) := by unfold WideElems.rd; rw [h1, hkey _ (hw x (List.mem_cons_self ..))]; rfl
        refine ⟨fun y hy => ?_, ?_, ?_⟩
        · rcases List.mem_cons.1 hy with rfl | hy
          · exact ⟨_, hrd⟩
          · exact i1 y hy
        · rw [List.map_cons, List.map_cons, i2]
          rw [WideElems.rg_of hrd]
        · simp only [List.map_cons, i3, h1]
  obtain ⟨r1, r2, r3⟩ := hrg es.toList m hm.e hr'
  have hlen : es.size = m.length := by have := hm.e.len; simpa using this
  have hnd : (es.toList.map (·.key)).Nodup := by
    rw [r3]
    have : m.map (fun x => Value.int .i64 x.1) = (m.map (·.1)).map (Value.int .i64) := by simp
    rw [this]
    exact List.pairwise_map.2 (hm.n.imp fun {a b} h e => h (by simpa using e))
  refine ⟨_, ⟨es, c, hg, ⟨by unfold maxLen; omega, ⟨hm.c, hm.b, hnd⟩, r1⟩, Nat.le_refl _, rfl⟩, ?_, ?_⟩
  · simp only [Maps.size_eq, length_sorted]
    simp; omega
  · rw [r2]
    show ((List.foldr DataW.insert [] (m.map fun x => (Lit.int .i64 x.1, DataW.nil))).map fun p => Go.intOf p.1).Perm _
    refine ((WideShapes.sorted_perm _).map _).trans ?_
    rw [List.map_map]
    exact .of_eq (by simp [Function.comp_def, Go.intOf])
theorem sorts_all (m : Nat) : AnyZI.SortsIn Tryz.prog Tryz.laySorted_ren Fence.wide m :=
  ⟨fun blk off cap ss W hH hblk hsz => callsIn_wide.2 (Any.slices_Sort_int Tryz.laySort blk off cap ss W hH hblk hsz),
   fun p cap W => callsIn_wide.2 (Any.slices_Sort_int_none Tryz.laySort p cap W)⟩
theorem seq_keys {p : Pt} {g : Nat} {mv : Value} {t : TypeId} {m : List (Int × Int)} (hs : p.S g) (hg : p.w.heap[g]? = some (.cells #[mv] t (0, 0))) (hk : (kMap kInt).K p.w p.S m [mv]) (hl : m.length ≤ 4294967296) (hr : m.all (fun x => inR x.1) = true) :
    SeqGives Fence.wide 2 Tryz.prog 232 #[.pointer (some ⟨g, 0, none⟩)] encZ (fun ss : List Int => ss.Perm (m.map (·.1))) 4294967296 p.w := by
  have hc : p.w.cell? ⟨g, 0, none⟩ = some mv := by simp [World.cell?, hg]
  have hlt := p.lt g hs
  rcases hk with ⟨rfl, e⟩ | ⟨gm, es, c, e, hsm, hgm, hm⟩
  · injection e with e
    subst e
    have h : SeqGives Fence.wide 2 Tryz.prog 232 #[.pointer (some ⟨g, 0, none⟩)] encZ (fun ss : List Int => ss = []) 0 p.w := AnyZI.keys_gives_nil (ρ := Tryz.layKeys_ren) { Tryz.layKeys with } Fence.wide 2 trivial rfl g p.w hlt hc
    exact fun l J W hW hJ hY h0 => (h l J W hW hJ (fun ss x W' hj hlen => hY ss x W' hj (by omega)) h0).mono fun e w' hq => by
      obtain ⟨h1, ss, h2, h3⟩ := hq
      exact ⟨h1, ss, by rw [h2]; exact .refl _, h3⟩
  · injection e with e
    subst e
    obtain ⟨D, hown, hsz, hperm⟩ := owns_map (k := Tryz.layKeys_ren.t 26) Tryz.layKeys.t26 hgm hm hl hr
    have h : SeqGives Fence.wide 2 Tryz.prog 232 #[.pointer (some ⟨g, 0, none⟩)] encZ (fun ss => ss.Perm (intKeys D)) (Maps.size D) p.w :=
      AnyZI.keys_gives (ρ := Tryz.layKeys_ren) { Tryz.layKeys with } Fence.wide 2 trivial rfl (by omega) g gm es.size D p.w hlt hc hown
    exact fun l J W hW hJ hY h0 => (h l J W hW hJ (fun ss x W' hj hlen => hY ss x W' hj (by omega)) h0).mono fun e w' hq => by
      obtain ⟨h1, ss, h2, h3⟩ := hq
      exact ⟨h1, ss, h2.trans hperm, h3⟩
theorem c_sortedP (a0 : List (Int × Int)) : Ct Tryz.prog 177 [keysv a0] (sortedP a0) (fun r => rd (kSl kInt) r) := ⟨⟨Tryz.f177, Tryz.func177, by kernel_rfl, by kernel_rfl⟩, fun r hr p vs hgl hv => by
  unfold sortedP at hr
  split at hr
  · rename_i hx
    injection hr with hr
    subst hr
    match vs, hv with
    | [v], ⟨hv, _⟩ =>
      obtain ⟨g, mv, t, rfl, hs, hg, hk⟩ := hv
      have hc : CallsIn Fence.wide 5 Tryz.prog 177 #[.func (.func 232) #[] #[.pointer (some ⟨g, 0, none⟩)]] p.w fun e w' => ∃ (v : Value) (ss : List Int), e = .returned v ∧ ss.Perm (a0.map (·.1)) ∧
          w'.ownsRow p.w.heap.size (Tryz.laySorted_ren.t 26) 1 v ss.length ((ss.mergeSort (fun x y => decide (x ≤ y))).map encZ) ∧ (v = .slice none 0 0 ↔ ss = []) ∧ Below p.w.heap.size p.w w' :=
        AnyZI.sorted_in Tryz.laySorted Fence.wide 5 trivial trivial trivial trivial rfl (by omega) (sorts_all _) (enters_of Tryz.func182 (by kernel_rfl) rfl) 232 _ trivial (enters_of Tryz.func232 (by kernel_rfl) rfl) _ 4294967296 (by unfold maxLen; omega) (by omega) _ (seq_keys hs hg hk hx.1 hx.2)
      refine (callsIn_wide.1 hc).mono ?_
      rintro e w' ⟨v, ss, rfl, hS, hrow, hnil, hb⟩
      rw [sortZ_eq hS] at hrow
      have hlen : ss.length = (sortZ (a0.map (·.1))).length := by rw [sortZ_len]; exact hS.length_eq
      rcases hrow.2 with ⟨rfl, hz⟩ | ⟨gb, cap, cur, rfl, hbase, hgb, r1, r2, r3, r4⟩
      · have h0 : sortZ (a0.map (·.1)) = [] := List.eq_nil_of_length_eq_zero (by omega)
        rw [h0]
        exact ⟨_, rfl, ⟨w', p.S, fun b hb' => Nat.lt_of_lt_of_le (p.lt b hb') hb.size⟩, rfl, fun b hb' => ⟨hb', hb.block b (p.lt b hb')⟩, hb, fun b hb' => .inl hb', none, 0, rfl, Nat.le_refl _, by decide, fun _ => rfl, fun i x hx => by simp at hx⟩
      · have hgbl : gb < w'.heap.size := blk_lt hgb
        refine ⟨_, rfl, ⟨w', fun b => p.S b ∨ b = gb, fun b hb' => hb'.elim (fun h => Nat.lt_of_lt_of_le (p.lt b h) hb.size) (fun e => e ▸ hgbl)⟩, rfl, fun b hb' => ⟨.inl hb', hb.block b (p.lt b hb')⟩, hb, fun b hb' => hb'.elim .inl (fun e => .inr (e ▸ hbase)), ?_⟩
        refine ⟨some ⟨gb, 0, none⟩, cap, by rw [hlen], by omega, r2, (fun e => by cases e), fun i x hix => ⟨_, [.int .i64 x], rfl, .inr rfl, rfl, fun j u hj => ?_⟩⟩
        have hi : i < (sortZ (a0.map (·.1))).length := (List.getElem?_eq_some_iff.1 hix).1
        have hj0 : j = 0 := by
          have := (List.getElem?_eq_some_iff.1 hj).1
          simpa using this
        subst hj0
        have hu : Value.int .i64 x = u := by simpa using hj
        subst hu
        rw [add_plain]
        have e1 : (cur.toList.take (ss.length * 1))[i]? = some (.int .i64 x) := by
          rw [r4, List.getElem?_map, hix]; rfl
        rw [List.getElem?_take_of_lt (by omega)] at e1
        have e2 : 0 + (i * kInt.sz + 0) = i := by show 0 + (i * 1 + 0) = i; omega
        rw [e2]
        simp only [World.cell?, hgb]
        simpa using e1
  · cases hr⟩
theorem R_int {w : World} {S : Nat → Prop} : ∀ {xs : List Int} {cs : List Value}, kInt.R w S xs cs ↔ cs = xs.map encZ
  | [], cs => Iff.rfl
  | x :: xs, cs => by
    constructor
    · rintro ⟨c1, c2, rfl, h1, h2⟩
      have h1 : c1 = [.int .i64 x] := h1
      rw [h1, R_int.1 h2]
      rfl
    · rintro rfl
      exact ⟨[.int .i64 x], xs.map encZ, rfl, rfl, R_int.2 rfl⟩
theorem c_sortP (o : Option Nat) (c : Nat) (a0 : List Int) : Cb Tryz.prog 182 [row kInt a0 o c] [(o, rows kInt 3 a0 c)] (sortP a0) (fun r (h : Unit) => tup []) (fun r h => [(o, rows kInt 3 r c)]) := ⟨⟨Tryz.f182, Tryz.func182, by kernel_rfl, by kernel_rfl⟩, fun r hr p vs hgl hv ho => by
  unfold sortP at hr
  split at hr
  · rename_i hx
    injection hr with hr
    subst hr
    match vs, hv with
    | [v], ⟨hv, _⟩ =>
      have hv : v = .slice (o.map fun g => ⟨g, 0, none⟩) a0.length c := hv
      subst hv
      cases o with
      | none =>
        obtain ⟨h1, h2⟩ : a0 = [] ∧ c = 0 := ho.2.1 (rows kInt 3 a0 c) (by simp)
        subst h1 h2
        refine (Any.slices_Sort_int_none Tryz.laySort none 0 p.w).mono ?_
        rintro e w' ⟨rfl, rfl⟩
        exact ⟨_, rfl, p, (), rfl, p.le_refl, (Ext.refl _).m _, fun b hb => .inl hb, ⟨[], rfl, trivial⟩, ho, fun g hg => .inr hg⟩
      | some g =>
        obtain ⟨hn, ob, hg, cs, more, rfl, hR, h1, h2, h3⟩ := ho.1 g (rows kInt 3 a0 c) (by simp)
        rw [R_int] at hR
        subst hR
        have hlt := blk_lt hg
        have hH : Holds (Value.int .i64) p.w g 0 a0.toArray := holds_of_block_i (ss := a0) hg (List.take_left' (by simp))
        have hc := Any.slices_Sort_int Tryz.laySort g 0 c a0 p.w hH hlt (by omega)
        refine Calls.mono (show Calls Tryz.prog 182 _ _ _ from hc) ?_
        rintro e w' ⟨rfl, n, os, rfl⟩
        have hgr := grownBy_sorted_i (w := p.w) (g := g) (n := n) (os := os) (a0.mergeSort fun x y => decide (x ≤ y)).toArray
        have hgn := heap_sorted_i (n := n) (os := os) (a0.mergeSort fun x y => decide (x ≤ y)).toArray hg
        rw [sortZ_eq (.refl a0)] at hgr hgn ⊢
        have hle : ∀ b, p.S b → p.S b ∧ (grow (putRow (Value.int .i64) (Sort.ahead p.w n) g 0 (sortZ a0).toArray) os).heap[b]? = p.w.heap[b]? := fun b hb => ⟨hb, hgr.block b (p.lt b hb) (fun e => hn (by injection e with e; exact e ▸ hb))⟩
        have hlen := sortZ_len a0
        have hsz : (a0.map encZ ++ more).length = c := by simpa [kInt, kNum] using h3
        have ht := take_putCells_i (a0.map encZ ++ more).toArray (sortZ a0) (by simp at hsz ⊢; omega)
        refine ⟨_, rfl, ⟨_, p.S, fun b hb => Nat.lt_of_lt_of_le (p.lt b hb) hgr.size⟩, (), rfl, hle, ⟨hgr.os, hgr.tape, hgr.output, hgr.size, fun b hb hM => hgr.block b hb (fun e => hM (by injection e with e; subst e; simp [keys]))⟩, fun b hb => .inl hb, ⟨[], rfl, trivial⟩, ⟨fun g' b hb => ?_, fun b hb => by simp at hb, by simp [keys]⟩, fun g' hg' => .inr (by simpa [keys] using hg')⟩
        obtain ⟨rfl, rfl⟩ : g' = g ∧ b = rows kInt 3 (sortZ a0) c := by simpa using hb
        refine ⟨hn, _, hgn, (sortZ a0).map encZ, (putCells encZ 0 (sortZ a0).toArray (a0.map encZ ++ more).toArray).toList.drop (sortZ a0).length, ?_, R_int.2 rfl, by omega, h2, ?_⟩
        · rw [← ht, List.take_append_drop]
        · rw [← ht, List.take_append_drop]
          have e : kInt.sz = 1 := rfl
          rw [e]
          simpa [putCells] using hsz
  · cases hr⟩
theorem grow_nil {α : Type} {k : Kd α} {e : TypeId} {f : FuncId} {ρ : Go.Shelf.Ren} (L : Lays8.n4 Tryz.prog ρ) (hf : ρ.f 4 = f) (he : ρ.t 25 = e) {t : TypeId} (hap : apB Tryz.prog t e k.sz = true) (fok : Fok Tryz.prog f) (a0 : List α) (a1 : Int) :
    Cb Tryz.prog f [nilv a0, rd kInt a1] [] (growP a0 a1) (fun r (h : (Option Nat × Nat)) => row k r h.1 h.2) (fun r h => [(h.1, rows k e r h.2)]) := ⟨fok, fun r hr p vs hgl hv ho => by
  obtain ⟨_, hk, i0, z, hi, hs, hb, hz, hzc⟩ := apB_spec hap
  unfold growP at hr
  split at hr
  · rename_i hx
    injection hr with hr
    subst hr
    match vs, hv with
    | [v, u], ⟨hv, hu, _⟩ =>
      obtain ⟨rfl, rfl⟩ := hv
      have hu : [u] = [.int .i64 a1] := hu
      injection hu with hu
      subst hu
      obtain ⟨n, rfl⟩ : ∃ n : Nat, a1 = (n : Int) := ⟨a1.toNat, by omega⟩
      subst hf he
      by_cases h0 : n = 0
      · subst h0
        have hc := Any8.slices_Grow_room L none 0 0 0 p.w (by omega) (by omega) (by omega) (by omega)
        refine hc.mono ?_
        rintro e w' ⟨rfl, rfl⟩
        exact ⟨_, rfl, p, (none, 0), rfl, p.le_refl, (Ext.refl _).m _, fun b hb => .inl hb, rfl, ⟨fun g b hb => by simp at hb, fun b hb => by
          have : b = rows k (ρ.t 25) [] 0 := by simpa using hb
          subst this; exact ⟨rfl, rfl⟩, by simp [keys]⟩, fun g hg => by simp [keys] at hg⟩
      · have hn : n ≤ 4294967296 := by omega
        have hbb : (0 + n) * i0.bytes ≤ 4294967296 * 32768 := Nat.mul_le_mul (by omega) hb
        have hc := Any8.slices_Grow_grow L i0 z hi hz (by omega) none 0 0 n [] p.w (by omega) (by omega) (by omega) (by omega) (by simp) (fun _ => rfl) (fun a e => by cases e)
        have hg1 := grownCap_ge p.w (0 + n) 0 (ρ.t 25)
        have hg2 := grownCap_le_maxLen p.w (0 + n) 0 (ρ.t 25) (by unfold maxLen; omega)
        refine hc.mono ?_
        rintro e w' ⟨rfl, rfl⟩
        have hle : ∀ b, p.S b → p.S b ∧ (p.w.drew.alloc (.cells (([] : List Value).toArray ++ Builtin.zeroCells z.cells (0 + n - 0) ++ Builtin.zeroCells z.cells (grownCap p.w (0 + n) 0 (ρ.t 25) - (0 + n))) (ρ.t 25))).heap[b]? = p.w.heap[b]? := fun b hb => ⟨hb, blk_old p.w.drew _ (p.lt b hb)⟩
        refine ⟨_, rfl, ⟨p.w.drew.alloc _, p.S, fun b hb => by rw [size_alloc]; exact Nat.lt_succ_of_lt (p.lt b hb)⟩, (some p.w.heap.size, grownCap p.w (0 + n) 0 (ρ.t 25)), rfl, hle, (((Ext.refl p.w).drew).alloc _).m _, fun b hb => .inl hb, rfl, ⟨fun g b hb => ?_, fun b hb => by simp at hb, by simp [keys]⟩, fun g hg => ?_⟩
        · obtain ⟨rfl, rfl⟩ : g = p.w.heap.size ∧ b = rows k (ρ.t 25) [] (grownCap p.w (0 + n) 0 (ρ.t 25)) := by simpa using hb
          refine ⟨fun h => Nat.lt_irrefl _ (p.lt _ h), _, blk_new p.w.drew _, [], ([].toArray ++ Builtin.zeroCells z.cells (0 + n - 0) ++ Builtin.zeroCells z.cells (grownCap p.w (0 + n) 0 (ρ.t 25) - (0 + n))).toList, by simp, rfl, Nat.zero_le _, hg2, ?_⟩
          have hz1 := zc_len z.cells (0 + n - 0)
          have hz2 := zc_len z.cells (grownCap p.w (0 + n) 0 (ρ.t 25) - (0 + n))
          rw [hzc] at hz1 hz2
          rw [List.nil_append, Array.toList_append, Array.toList_append, List.length_append, List.length_append, hz1, hz2, show ([] : List Value).toArray.toList.length = 0 from rfl, Nat.zero_add, ← Nat.add_mul, show 0 + n - 0 + (grownCap p.w (0 + n) 0 (ρ.t 25) - (0 + n)) = grownCap p.w (0 + n) 0 (ρ.t 25) by omega]
        · have : g = p.w.heap.size := by simpa [keys] using hg
          exact .inl (by omega)
  · cases hr⟩
theorem c_grow180 (a0 : List Int) (a1 : Int) : Cb Tryz.prog 180 [nilv a0, rd kInt a1] [] (growP a0 a1) (fun r (h : (Option Nat × Nat)) => row kInt r h.1 h.2) (fun r h => [(h.1, rows kInt 3 r h.2)]) :=
  grow_nil Tryz.layGrowI rfl rfl (t := 24) (by kernel_rfl) ⟨Tryz.f180, Tryz.func180, by kernel_rfl, by kernel_rfl⟩ a0 a1
theorem c_grow123 (a0 : List Block) (a1 : Int) : Cb Tryz.prog 123 [nilv a0, rd kInt a1] [] (growP a0 a1) (fun r (h : (Option Nat × Nat)) => row kBlock r h.1 h.2) (fun r h => [(h.1, rows kBlock 82 r h.2)]) :=
  grow_nil Tryz.layGrowB rfl rfl (t := 29) (by kernel_rfl) ⟨Tryz.f123, Tryz.func123, by kernel_rfl, by kernel_rfl⟩ a0 a1
end Go.Proofs.YtojgddnefopdjaaGreatDoor
namespace Go.Proofs.YtojgddnefopdjaaGreatDoor
open Go.RowKit
set_option linter.unusedVariables false
set_option maxRecDepth 20000
noncomputable def seg_Set_Least (a0 : Int) : Option Int :=
  (tz64 a0).bind (fun r1 => some r1)
theorem c_seg_Set_Least (a0 : Int) : Ct Tryz.prog 171 [rd kU64 a0] (seg_Set_Least a0) (fun r => rd kInt r) := by
  unfold seg_Set_Least
  exact enter Tryz.func171 rfl Tryz.ntmps171 rfl (by kernel_rfl) fun z => c_seq<|c_reg<|l_p (po_asg (ev_i _)) rfl<|l_nil<|x_tn<|c_seq<|c_reg<|l_p (po_mov (.t rfl)) rfl<|l_call (c_tz64 _) ⟨(.t rfl), trivial⟩ rfl fun r1 h2 => l_p (po_asg (.t rfl)) rfl<|l_nil<|x_tn<|c_ret<|x_ret1 rfl (.t rfl)
noncomputable def hl14_num (a0 : Int) : Option Int :=
  some a0
theorem c_hl14_num (a0 : Int) : Ct Tryz.prog 11 [rd kInt a0] (hl14_num a0) (fun r => rd kInt r) := by
  unfold hl14_num
  exact enter Tryz.func11 rfl Tryz.ntmps11 rfl (by kernel_rfl) fun z => c_seq<|c_reg<|l_p (po_asg (ev_i _)) rfl<|l_nil<|x_tn<|c_seq<|c_reg<|l_p (po_mov (.t rfl)) rfl<|l_p (po_asg (.t rfl)) rfl<|l_nil<|x_tn<|c_ret<|x_ret1 rfl (.t rfl)
noncomputable def hr0_EqLinks (a0 : (List Link)) (a1 : (List Link)) : Option Bool :=
  if ((a0.length : Int) != (a1.length : Int)) = true then (some false) else (rep (fun (s3 : (Bool × Int)) k2 => if (decide (s3.2 < (a0.length : Int))) = true then ((at? a0 s3.2).bind (fun u7 => (at? a1 s3.2).bind (fun u9 => if (!eqv_Link u7 u9) = true then (some false) else (k2 (s3.1, (IntKind.wrap .i64 (s3.2 + 1))))))) else (some true)) FUEL (false, 0))
theorem c_hr0_EqLinks (a0 : (List Link)) (a1 : (List Link)) : Ct Tryz.prog 255 [rd (kSl kLink) a0, rd (kSl kLink) a1] (hr0_EqLinks a0 a1) (fun r => rd kBool r) := by
  unfold hr0_EqLinks
  refine enter Tryz.func255 rfl Tryz.ntmps255 rfl (by kernel_rfl) fun z => c_seq<|c_reg<|l_p (po_asg (.b _)) rfl<|l_nil<|x_tn<|c_seq<|c_seq<|c_reg<|l_p (po_mov (.t rfl)) rfl<|l_p (po_len (ty := 0) (.t rfl) sl103) rfl<|l_p (po_mov (.t rfl)) rfl<|l_p (po_len (ty := 0) (.t rfl) sl103) rfl<|l_p (po_ne (.t rfl) (.t rfl)) rfl<|l_nil<|x_tn<|c_if rfl (fun h1 => ?_) (fun h1 => ?_)
  · exact c_seq<|c_reg<|l_p (po_asg (.b _)) rfl<|l_nil<|x_tn<|c_ret<|x_tr<|x_ret1 rfl (.t rfl)
  · refine c_skip<|x_tn<|c_seq<|c_seq<|c_reg<|l_p (po_asg (ev_i _)) rfl<|l_nil<|x_tn<|c_blk<|c_loop (fun (s3 : (Bool × Int)) (e4 : Unit) => [(0, rd (kSl kLink) a0), (1, rd (kSl kLink) a1), (4, rd kBool s3.1), (5, rd kInt s3.2)]) (fun (s3 : (Bool × Int)) (e4 : Unit) => []) () ⟨rfl, rfl, rfl, rfl, trivial⟩ (.nil _) fun s3 e4 k2 => c_seq<|c_seq<|c_reg<|l_p (po_mov (.t rfl)) rfl<|l_p (po_mov (.t rfl)) rfl<|l_p (po_len (ty := 0) (.t rfl) sl103) rfl<|l_p (po_lt (.t rfl) (.t rfl)) rfl<|l_nil<|x_tn<|c_if rfl (fun h5 => ?_) (fun h5 => ?_)
    · refine c_skip<|x_tn<|c_seq<|c_blk<|c_seq<|c_draw [0, 1, 2, 3, 4, 5, 6, 7, 8] [] [] (by kernel_rfl) (by kernel_rfl)<|w_p rfl rfl (po_mov (.t rfl)) rfl<|w_p rfl rfl (po_mov (.t rfl)) rfl<|w_bind fun u7 h6 => w_p rfl rfl (po_ia (.t rfl) (.t rfl) h6 sl103) rfl<|w_p rfl rfl (po_la (.t rfl) ty186) rfl<|w_p rfl rfl (po_mov (.t rfl)) rfl<|w_p rfl rfl (po_mov (.t rfl)) rfl<|w_bind fun u9 h8 => w_p rfl rfl (po_ia (.t rfl) (.t rfl) h8 sl103) rfl<|w_p rfl rfl (po_la (.t rfl) ty186) rfl<|w_p rfl rfl (po_qn eq186 rfl rfl eg186 (.t rfl) (.t rfl)) rfl<|w_nil<|x_tn<|c_if rfl (fun h10 => ?_) (fun h10 => ?_)
      · exact c_seq<|c_reg<|l_p (po_asg (.b _)) rfl<|l_nil<|x_tn<|c_ret<|x_br<|x_tr<|x_mr<|x_br<|x_tr<|x_ret1 rfl (.t rfl)
      · exact c_skip<|x_bn<|x_tn<|c_reg<|l_p (po_mov (.t rfl)) rfl<|l_p (po_add (.t rfl) (ev_i _)) rfl<|l_p (po_asg (.t rfl)) rfl<|l_nil<|x_mid ((s3.1, (IntKind.wrap .i64 (s3.2 + 1))), ()) rfl ⟨rfl, rfl, rfl, rfl, trivial⟩ (.nil _)
    · exact c_exit<|x_te<|x_me<|x_be<|x_tn<|c_seq<|c_reg<|l_p (po_asg (.b _)) rfl<|l_nil<|x_tn<|c_ret<|x_ret1 rfl (.t rfl)
noncomputable def hr0_EqBlocks (a0 : (List Block)) (a1 : (List Block)) : Option Bool :=
  if ((a0.length : Int) != (a1.length : Int)) = true then (some false) else (rep (fun (s3 : (Bool × Int)) k2 => if (decide (s3.2 < (a0.length : Int))) = true then ((at? a0 s3.2).bind (fun u7 => (at? a1 s3.2).bind (fun u9 => if (!eqv_Block u7 u9) = true then (some false) else (k2 (s3.1, (IntKind.wrap .i64 (s3.2 + 1))))))) else (some true)) FUEL (false, 0))
theorem c_hr0_EqBlocks (a0 : (List Block)) (a1 : (List Block)) : Ct Tryz.prog 45 [rd (kSl kBlock) a0, rd (kSl kBlock) a1] (hr0_EqBlocks a0 a1) (fun r => rd kBool r) := by
  unfold hr0_EqBlocks
  refine enter Tryz.func45 rfl Tryz.ntmps45 rfl (by kernel_rfl) fun z => c_seq<|c_reg<|l_p (po_asg (.b _)) rfl<|l_nil<|x_tn<|c_seq<|c_seq<|c_reg<|l_p (po_mov (.t rfl)) rfl<|l_p (po_len (ty := 0) (.t rfl) sl29) rfl<|l_p (po_mov (.t rfl)) rfl<|l_p (po_len (ty := 0) (.t rfl) sl29) rfl<|l_p (po_ne (.t rfl) (.t rfl)) rfl<|l_nil<|x_tn<|c_if rfl (fun h1 => ?_) (fun h1 => ?_)
  · exact c_seq<|c_reg<|l_p (po_asg (.b _)) rfl<|l_nil<|x_tn<|c_ret<|x_tr<|x_ret1 rfl (.t rfl)
  · refine c_skip<|x_tn<|c_seq<|c_seq<|c_reg<|l_p (po_asg (ev_i _)) rfl<|l_nil<|x_tn<|c_blk<|c_loop (fun (s3 : (Bool × Int)) (e4 : Unit) => [(0, rd (kSl kBlock) a0), (1, rd (kSl kBlock) a1), (4, rd kBool s3.1), (5, rd kInt s3.2)]) (fun (s3 : (Bool × Int)) (e4 : Unit) => []) () ⟨rfl, rfl, rfl, rfl, trivial⟩ (.nil _) fun s3 e4 k2 => c_seq<|c_seq<|c_reg<|l_p (po_mov (.t rfl)) rfl<|l_p (po_mov (.t rfl)) rfl<|l_p (po_len (ty := 0) (.t rfl) sl29) rfl<|l_p (po_lt (.t rfl) (.t rfl)) rfl<|l_nil<|x_tn<|c_if rfl (fun h5 => ?_) (fun h5 => ?_)
    · refine c_skip<|x_tn<|c_seq<|c_blk<|c_seq<|c_draw [0, 1, 2, 3, 4, 5, 6, 7, 8] [] [] (by kernel_rfl) (by kernel_rfl)<|w_p rfl rfl (po_mov (.t rfl)) rfl<|w_p rfl rfl (po_mov (.t rfl)) rfl<|w_bind fun u7 h6 => w_p rfl rfl (po_ia (.t rfl) (.t rfl) h6 sl29) rfl<|w_p rfl rfl (po_la (.t rfl) ty82) rfl<|w_p rfl rfl (po_mov (.t rfl)) rfl<|w_p rfl rfl (po_mov (.t rfl)) rfl<|w_bind fun u9 h8 => w_p rfl rfl (po_ia (.t rfl) (.t rfl) h8 sl29) rfl<|w_p rfl rfl (po_la (.t rfl) ty82) rfl<|w_p rfl rfl (po_qn eq82 rfl rfl eg82 (.t rfl) (.t rfl)) rfl<|w_nil<|x_tn<|c_if rfl (fun h10 => ?_) (fun h10 => ?_)
      · exact c_seq<|c_reg<|l_p (po_asg (.b _)) rfl<|l_nil<|x_tn<|c_ret<|x_br<|x_tr<|x_mr<|x_br<|x_tr<|x_ret1 rfl (.t rfl)
      · exact c_skip<|x_bn<|x_tn<|c_reg<|l_p (po_mov (.t rfl)) rfl<|l_p (po_add (.t rfl) (ev_i _)) rfl<|l_p (po_asg (.t rfl)) rfl<|l_nil<|x_mid ((s3.1, (IntKind.wrap .i64 (s3.2 + 1))), ()) rfl ⟨rfl, rfl, rfl, rfl, trivial⟩ (.nil _)
    · exact c_exit<|x_te<|x_me<|x_be<|x_tn<|c_seq<|c_reg<|l_p (po_asg (.b _)) rfl<|l_nil<|x_tn<|c_ret<|x_ret1 rfl (.t rfl)
noncomputable def hr0_EqSegs (a0 : (List Seg)) (a1 : (List Seg)) : Option Bool :=
  if ((a0.length : Int) != (a1.length : Int)) = true then (some false) else (rep (fun (s3 : (Bool × Int)) k2 => if (decide (s3.2 < (a0.length : Int))) = true then ((at? a0 s3.2).bind (fun u7 => (at? a1 s3.2).bind (fun u9 => if (!eqv_Seg u7 u9) = true then (some false) else (k2 (s3.1, (IntKind.wrap .i64 (s3.2 + 1))))))) else (some true)) FUEL (false, 0))
theorem c_hr0_EqSegs (a0 : (List Seg)) (a1 : (List Seg)) : Ct Tryz.prog 222 [rd (kSl kSeg) a0, rd (kSl kSeg) a1] (hr0_EqSegs a0 a1) (fun r => rd kBool r) := by
  unfold hr0_EqSegs
  refine enter Tryz.func222 rfl Tryz.ntmps222 rfl (by kernel_rfl) fun z => c_seq<|c_reg<|l_p (po_asg (.b _)) rfl<|l_nil<|x_tn<|c_seq<|c_seq<|c_reg<|l_p (po_mov (.t rfl)) rfl<|l_p (po_len (ty := 0) (.t rfl) sl58) rfl<|l_p (po_mov (.t rfl)) rfl<|l_p (po_len (ty := 0) (.t rfl) sl58) rfl<|l_p (po_ne (.t rfl) (.t rfl)) rfl<|l_nil<|x_tn<|c_if rfl (fun h1 => ?_) (fun h1 => ?_)
  · exact c_seq<|c_reg<|l_p (po_asg (.b _)) rfl<|l_nil<|x_tn<|c_ret<|x_tr<|x_ret1 rfl (.t rfl)
  · refine c_skip<|x_tn<|c_seq<|c_seq<|c_reg<|l_p (po_asg (ev_i _)) rfl<|l_nil<|x_tn<|c_blk<|c_loop (fun (s3 : (Bool × Int)) (e4 : Unit) => [(0, rd (kSl kSeg) a0), (1, rd (kSl kSeg) a1), (4, rd kBool s3.1), (5, rd kInt s3.2)]) (fun (s3 : (Bool × Int)) (e4 : Unit) => []) () ⟨rfl, rfl, rfl, rfl, trivial⟩ (.nil _) fun s3 e4 k2 => c_seq<|c_seq<|c_reg<|l_p (po_mov (.t rfl)) rfl<|l_p (po_mov (.t rfl)) rfl<|l_p (po_len (ty := 0) (.t rfl) sl58) rfl<|l_p (po_lt (.t rfl) (.t rfl)) rfl<|l_nil<|x_tn<|c_if rfl (fun h5 => ?_) (fun h5 => ?_)
    · refine c_skip<|x_tn<|c_seq<|c_blk<|c_seq<|c_draw [0, 1, 2, 3, 4, 5, 6, 7, 8] [] [] (by kernel_rfl) (by kernel_rfl)<|w_p rfl rfl (po_mov (.t rfl)) rfl<|w_p rfl rfl (po_mov (.t rfl)) rfl<|w_bind fun u7 h6 => w_p rfl rfl (po_ia (.t rfl) (.t rfl) h6 sl58) rfl<|w_p rfl rfl (po_la (.t rfl) ty115) rfl<|w_p rfl rfl (po_mov (.t rfl)) rfl<|w_p rfl rfl (po_mov (.t rfl)) rfl<|w_bind fun u9 h8 => w_p rfl rfl (po_ia (.t rfl) (.t rfl) h8 sl58) rfl<|w_p rfl rfl (po_la (.t rfl) ty115) rfl<|w_p rfl rfl (po_qn eq115 rfl rfl eg115 (.t rfl) (.t rfl)) rfl<|w_nil<|x_tn<|c_if rfl (fun h10 => ?_) (fun h10 => ?_)
      · exact c_seq<|c_reg<|l_p (po_asg (.b _)) rfl<|l_nil<|x_tn<|c_ret<|x_br<|x_tr<|x_mr<|x_br<|x_tr<|x_ret1 rfl (.t rfl)
      · exact c_skip<|x_bn<|x_tn<|c_reg<|l_p (po_mov (.t rfl)) rfl<|l_p (po_add (.t rfl) (ev_i _)) rfl<|l_p (po_asg (.t rfl)) rfl<|l_nil<|x_mid ((s3.1, (IntKind.wrap .i64 (s3.2 + 1))), ()) rfl ⟨rfl, rfl, rfl, rfl, trivial⟩ (.nil _)
    · exact c_exit<|x_te<|x_me<|x_be<|x_tn<|c_seq<|c_reg<|l_p (po_asg (.b _)) rfl<|l_nil<|x_tn<|c_ret<|x_ret1 rfl (.t rfl)
noncomputable def slices_IndexFunc_113 (a0 : (List ByteArray)) (a1 : (ByteArray → Option Bool)) : Option Int :=
  lfold (fun (i4 : Int) (x5 : ByteArray) (s2 : Int) k1 => (a1 x5).bind (fun r7 => if r7 = true then (some i4) else (k1 s2))) (fun (s2 : Int) => some (-1)) 0 a0 0
theorem c_slices_IndexFunc_113 (a0 : (List ByteArray)) (a1 : (ByteArray → Option Bool)) : Ct Tryz.prog 113 [rd (kSl kStr) a0, fnv Tryz.prog (fun (x : ByteArray) => [rd kStr x]) a1 (fun r => rd kBool r)] (slices_IndexFunc_113 a0 a1) (fun r => rd kInt r) := by
  unfold slices_IndexFunc_113
  refine enter Tryz.func113 rfl Tryz.ntmps113 rfl (by kernel_rfl) fun z => c_seq<|c_reg<|l_p (po_asg (ev_i _)) rfl<|l_nil<|x_tn<|c_seq<|c_seq<|c_reg<|l_p (po_mov (.t rfl)) rfl<|l_p (po_len (ty := 0) (.t rfl) sl66) rfl<|l_p (po_mov (ev_i _)) rfl<|l_nil<|x_tn<|c_blk<|c_rng (tx := 0) (fun (s2 : Int) (e3 : Unit) => [(1, fnv Tryz.prog (fun (x : ByteArray) => [rd kStr x]) a1 (fun r => rd kBool r)), (4, rd kInt s2)]) (fun (s2 : Int) (e3 : Unit) => []) () ⟨rfl, rfl, trivial⟩ (.nil _) rfl rfl rfl ⟨rfl, rfl, rfl, rfl, rfl, rfl, rfl, rfl, rfl, rfl, rfl, rfl⟩ (fun _ _ => rfl) (fun i4 x5 s2 e3 k1 h6 => ?_) (fun s2 e3 => ?_)
  · refine c_seq<|c_reg<|l_p (po_mov (.t rfl)) rfl<|l_p (po_asg (.t rfl)) rfl<|l_nil<|x_tn<|c_seq<|c_reg<|l_p (po_mov (.t rfl)) rfl<|l_p (po_mov (.t rfl)) rfl<|l_p (po_mov (.t rfl)) rfl<|l_p (po_ia (.t rfl) (.t rfl) (at_nat h6) sl66) rfl<|l_p (po_la (.t rfl) ty9) rfl<|l_callv x5 (.t rfl) ⟨(.t rfl), trivial⟩ rfl fun r7 h8 => l_nil<|x_tn<|c_if rfl (fun h9 => ?_) (fun h9 => ?_)
    · exact c_seq<|c_reg<|l_p (po_mov (.t rfl)) rfl<|l_p (po_asg (.t rfl)) rfl<|l_nil<|x_tn<|c_ret<|x_br<|x_mr<|x_br<|x_tr<|x_ret1 rfl (.t rfl)
    · exact c_skip<|x_bn<|x_mid (s2, ()) rfl ⟨rfl, rfl, rfl, rfl, rfl, trivial⟩ (.nil _)
  · exact x_be<|x_tn<|c_seq<|c_reg<|l_p (po_asg (ev_i _)) rfl<|l_nil<|x_tn<|c_ret<|x_ret1 rfl (.t rfl)
noncomputable def whole_fresh (a0 : Int) (a1 : (List ByteArray)) : Option (List Block) :=
  lfold (fun (i4 : Int) (x5 : ByteArray) (s2 : (List Block)) k1 => (app s2 [(Block.text_s (Block.iD_s kBlock.z (IntKind.wrap .i64 (a0 + i4))) x5)]).bind (fun u7 => k1 u7)) (fun (s2 : (List Block)) => some s2) 0 a1 []
theorem c_whole_fresh (a0 : Int) (a1 : (List ByteArray)) : Cb Tryz.prog 59 [rd kInt a0, rd (kSl kStr) a1] [] (whole_fresh a0 a1) (fun r (h : (Option Nat × Nat)) => row kBlock r h.1 h.2) (fun r h => [(h.1, rows kBlock 82 r h.2)]) := by
  unfold whole_fresh
  refine enterB Tryz.func59 rfl Tryz.ntmps59 rfl (by kernel_rfl) fun z => c_seq<|c_reg<|l_rnil kBlock 82 rfl rfl<|l_nil<|x_tn<|c_seq<|c_seq<|c_reg<|l_p (po_mov (.t rfl)) rfl<|l_p (po_len (ty := 0) (.t rfl) sl66) rfl<|l_p (po_mov (ev_i _)) rfl<|l_nil<|x_tn<|c_blk<|c_rng (tx := 7) (fun (s2 : (List Block)) (e3 : (Option Nat × Nat)) => [(0, rd kInt a0), (4, row kBlock s2 e3.1 e3.2)]) (fun (s2 : (List Block)) (e3 : (Option Nat × Nat)) => [(e3.1, rows kBlock 82 s2 e3.2)]) (none, 0) ⟨rfl, rfl, trivial⟩ (.c (.nil _)) rfl rfl rfl ⟨rfl, rfl, rfl, rfl, rfl, rfl, rfl, rfl, rfl, rfl, rfl, rfl⟩ (fun _ _ => rfl) (fun i4 x5 s2 e3 k1 h6 => ?_) (fun s2 e3 => ?_)
  · exact c_seq<|c_reg<|l_p (po_mov (.t rfl)) rfl<|l_p (po_ia (.t rfl) (.t rfl) (at_nat h6) sl66) rfl<|l_p (po_la (.t rfl) ty9) rfl<|l_p (po_asg (.t rfl)) rfl<|l_p (po_asg (.t rfl)) rfl<|l_nil<|x_tn<|c_reg<|l_p (po_mov (.t rfl)) rfl<|l_p (po_mov (.t rfl)) rfl<|l_p (po_mov (.t rfl)) rfl<|l_p (po_add (.t rfl) (.t rfl)) rfl<|l_p (po_mov (.t rfl)) rfl<|l_p (po_build kBlock rfl tz82 ps82 (.cons pl82_0 F_Block_iD (.t rfl) (.cons pl82_2 F_Block_text (.t rfl) (.nil _)))) rfl<|l_bsl kBlock sz29 rfl (.cons (.t rfl) (.nil _)) rfl<|l_app 0 (.t rfl) rfl (.t rfl) ap29 rfl fun u7 o8 c9 => l_p (po_asg (.t rfl)) rfl<|l_nil<|x_bn<|x_mid (u7, (o8, c9)) rfl ⟨rfl, rfl, rfl, rfl, rfl, trivial⟩ (.c (.nil _))
  · exact x_be<|x_tn<|c_seq<|c_reg<|l_p (po_mov (.t rfl)) rfl<|l_p (po_asg (.t rfl)) rfl<|l_nil<|x_tn<|c_ret<|x_rb1 (e3.1, e3.2) rfl (.t rfl) (.c (.nil _))
noncomputable def slices_Concat_117 (a0 : (List (List Int))) : Option (List Int) :=
  lfold (fun (i4 : Int) (x5 : (List Int)) (s2 : Int) k1 => if (decide ((IntKind.wrap .i64 (s2 + (x5.length : Int))) < 0)) = true then none else (k1 (IntKind.wrap .i64 (s2 + (x5.length : Int))))) (fun (s2 : Int) => (growP [] s2).bind (fun r8 => lfold (fun (i14 : Int) (x15 : (List Int)) (s12 : (List Int)) k11 => (app s12 x15).bind (fun u17 => k11 u17)) (fun (s12 : (List Int)) => some s12) 0 a0 r8)) 0 a0 0
theorem c_slices_Concat_117 (a0 : (List (List Int))) : Ct Tryz.prog 117 [rd (kSl (kSl kInt)) a0] (slices_Concat_117 a0) (fun r => rd (kSl kInt) r) := by
  unfold slices_Concat_117
  refine enter Tryz.func117 rfl Tryz.ntmps117 rfl (by kernel_rfl) fun z => c_seq<|c_reg<|l_p (po_asg (t := rd (kSl kInt) []) (.nil _)) rfl<|l_nil<|x_tn<|c_seq<|c_reg<|l_p (po_asg (ev_i _)) rfl<|l_nil<|x_tn<|c_seq<|c_seq<|c_reg<|l_p (po_mov (.t rfl)) rfl<|l_p (po_len (ty := 0) (.t rfl) sl223) rfl<|l_p (po_mov (ev_i _)) rfl<|l_nil<|x_tn<|c_blk<|c_rng (tx := 9) (fun (s2 : Int) (e3 : Unit) => [(0, rd (kSl (kSl kInt)) a0), (2, rd (kSl kInt) []), (3, rd kInt s2)]) (fun (s2 : Int) (e3 : Unit) => []) () ⟨rfl, rfl, rfl, trivial⟩ (.nil _) rfl rfl rfl ⟨rfl, rfl, rfl, rfl, rfl, rfl, rfl, rfl, rfl, rfl, rfl, rfl⟩ (fun _ _ => rfl) (fun i4 x5 s2 e3 k1 h6 => ?_) (fun s2 e3 => ?_)
  · refine c_seq<|c_reg<|l_p (po_ia (.t rfl) (.t rfl) (at_nat h6) sl223) rfl<|l_p (po_la (.t rfl) ty24) rfl<|l_p (po_asg (.t rfl)) rfl<|l_nil<|x_tn<|c_seq<|c_reg<|l_p (po_mov (.t rfl)) rfl<|l_p (po_mov (.t rfl)) rfl<|l_p (po_len (ty := 0) (.t rfl) sl24) rfl<|l_p (po_add (.t rfl) (.t rfl)) rfl<|l_p (po_asg (.t rfl)) rfl<|l_nil<|x_tn<|c_seq<|c_reg<|l_p (po_mov (.t rfl)) rfl<|l_p (po_lt (.t rfl) (ev_i _)) rfl<|l_nil<|x_tn<|c_if rfl (fun h7 => ?_) (fun h7 => ?_)
    · exact c_reg<|l_none
    · exact c_skip<|x_bn<|x_mid ((IntKind.wrap .i64 (s2 + (x5.length : Int))), ()) rfl ⟨rfl, rfl, rfl, rfl, rfl, rfl, trivial⟩ (.nil _)
  · refine x_be<|x_tn<|c_seq<|c_reg<|l_p (po_mov (.t rfl)) rfl<|l_callr (c_grow180 _ _) ⟨.nil0, (.t rfl), trivial⟩ rfl fun r8 e10 h9 => l_p (po_asg (.t rfl)) rfl<|l_nil<|x_tn<|c_seq<|c_seq<|c_reg<|l_p (po_mov (.t rfl)) rfl<|l_p (po_len (ty := 0) (.t rfl) sl223) rfl<|l_p (po_mov (ev_i _)) rfl<|l_nil<|x_tn<|c_blk<|c_rng (tx := 25) (fun (s12 : (List Int)) (e13 : (Option Nat × Nat)) => [(2, rd (kSl kInt) []), (6, row kInt s12 e13.1 e13.2)]) (fun (s12 : (List Int)) (e13 : (Option Nat × Nat)) => [(e13.1, rows kInt 3 s12 e13.2)]) (e10.1, e10.2) ⟨rfl, rfl, trivial⟩ (.c (.nil _)) rfl rfl rfl ⟨rfl, rfl, rfl, rfl, rfl, rfl, rfl, rfl, rfl, rfl, rfl, rfl⟩ (fun _ _ => rfl) (fun i14 x15 s12 e13 k11 h16 => ?_) (fun s12 e13 => ?_)
    · exact c_seq<|c_reg<|l_p (po_ia (.t rfl) (.t rfl) (at_nat h16) sl223) rfl<|l_p (po_la (.t rfl) ty24) rfl<|l_p (po_asg (.t rfl)) rfl<|l_nil<|x_tn<|c_reg<|l_p (po_mov (.t rfl)) rfl<|l_p (po_mov (.t rfl)) rfl<|l_app 0 (.t rfl) rfl (.t rfl) ap24 rfl fun u17 o18 c19 => l_p (po_asg (.t rfl)) rfl<|l_nil<|x_bn<|x_mid (u17, (o18, c19)) rfl ⟨rfl, rfl, rfl, rfl, rfl, trivial⟩ (.c (.nil _))
    · exact x_be<|x_tn<|c_seq<|c_reg<|l_p (po_mov (.t rfl)) rfl<|l_p (po_asg (.t rfl)) rfl<|l_nil<|x_tn<|c_ret<|x_frz 2 0 rfl rfl<|x_ret1 rfl (.t rfl)
end Go.Proofs.YtojgddnefopdjaaGreatDoor
namespace Go.Proofs.YtojgddnefopdjaaGreatDoor
open Go.RowKit
set_option linter.unusedVariables false
set_option maxRecDepth 20000
noncomputable def hl0_VolWeight (a0 : Vol) : Option Int :=
  rep (fun (s3 : (Int × Int)) k2 => jn (fun (b6 : Bool) => if b6 = true then ((at? (Vol.files a0) s3.2).bind (fun u11 => (at? (Vol.files a0) s3.2).bind (fun u13 => rep (fun (s15 : (Int × Int)) k14 => (at? (Vol.files a0) s3.2).bind (fun u18 => jn (fun (b20 : Bool) => if b20 = true then ((at? (Vol.files a0) s3.2).bind (fun u25 => (at? (File.list u25) s15.2).bind (fun u27 => k14 ((IntKind.wrap .i64 (s15.1 + (IntKind.wrap .i64 (Int.tdiv ((Link.name u27).size : Int) 4)))), (IntKind.wrap .i64 (s15.2 + 1)))))) else (k2 (s15.1, (IntKind.wrap .i64 (s3.2 + 1))))) (fun k19 => if (decide (s15.2 < ((File.list u18).length : Int))) = true then (k19 (decide (s15.1 < 1048576))) else (k19 false)))) FUEL ((IntKind.wrap .i64 ((IntKind.wrap .i64 (s3.1 + ((File.blocks u11).length : Int))) + ((File.list u13).length : Int))), 0)))) else (some s3.1)) (fun k5 => if (decide (s3.2 < ((Vol.files a0).length : Int))) = true then (k5 (decide (s3.1 < 1048576))) else (k5 false))) FUEL (((Vol.files a0).length : Int), 0)
theorem c_hl0_VolWeight (a0 : Vol) : Ct Tryz.prog 68 [rd kVol a0] (hl0_VolWeight a0) (fun r => rd kInt r) := by
  unfold hl0_VolWeight
  refine enter Tryz.func68 rfl Tryz.ntmps68 rfl (by kernel_rfl) fun z => c_seq<|c_reg<|l_box (.t rfl) rfl fun g1 => l_p (po_asg (ev_i _)) rfl<|l_nil<|x_tn<|c_seq<|c_reg<|l_p (po_fo (.t rfl) fs108_3) rfl<|l_p (po_lo 0 (.t rfl) rfl F_Vol_files ty106) rfl<|l_p (po_len (ty := 0) (.t rfl) sl106) rfl<|l_p (po_asg (.t rfl)) rfl<|l_nil<|x_tn<|c_seq<|c_seq<|c_reg<|l_p (po_asg (ev_i _)) rfl<|l_nil<|x_tn<|c_blk<|c_loop (fun (s3 : (Int × Int)) (e4 : Unit) => [(1, own g1 0), (2, rd kInt 0), (3, rd kInt s3.1), (4, rd kInt s3.2)]) (fun (s3 : (Int × Int)) (e4 : Unit) => [(some g1, box kVol a0)]) () ⟨rfl, rfl, rfl, rfl, trivial⟩ (.c (.nil _)) fun s3 e4 k2 => c_seq<|c_seq<|c_reg<|l_p (po_mov (.t rfl)) rfl<|l_p (po_fo (.t rfl) fs108_3) rfl<|l_p (po_lo 0 (.t rfl) rfl F_Vol_files ty106) rfl<|l_p (po_len (ty := 0) (.t rfl) sl106) rfl<|l_p (po_lt (.t rfl) (.t rfl)) rfl<|l_p (po_mov (.t rfl)) rfl<|l_jn 3 (fun (b6 : Bool) (e7 : Unit) => [(1, own g1 0), (2, rd kInt 0), (3, rd kInt s3.1), (4, rd kInt s3.2), (17, rd kBool b6)]) (fun (b6 : Bool) (e7 : Unit) => [(some g1, box kVol a0)]) (fun k5 => ?_) (fun b6 e7 => ?_)
  · refine l_if (fun h8 => ?_) (fun h8 => ?_)
    · exact l_po ⟨_, rfl, _, rfl, h8⟩ (po_mov (.t rfl)) rfl<|l_po ⟨_, rfl, _, rfl, h8⟩ (po_lt (.t rfl) (ev_i _)) rfl<|l_p (po_pickt (t := rd kBool (decide (s3.1 < 1048576))) (.t rfl) h8 (.t rfl)) rfl<|l_nil<|x_mid ((decide (s3.1 < 1048576)), ()) rfl ⟨rfl, rfl, rfl, rfl, rfl, trivial⟩ (.c (.nil _))
    · exact l_skipn 2 5 true ⟨_, rfl, _, rfl, ne_t h8⟩ rfl<|l_p (po_pickf (t := rd kBool false) (.t rfl) h8 (.b _)) rfl<|l_nil<|x_mid (false, ()) rfl ⟨rfl, rfl, rfl, rfl, rfl, trivial⟩ (.c (.nil _))
  · refine l_nil<|x_tn<|c_if rfl (fun h9 => ?_) (fun h9 => ?_)
    · refine c_skip<|x_tn<|c_seq<|c_blk<|c_seq<|c_draw [0, 1, 2, 3, 4, 5, 6, 7, 8, 9, 10, 11, 12, 13, 14, 15, 16, 17] [] [] (by kernel_rfl) (by kernel_rfl)<|w_p rfl rfl (po_mov (.t rfl)) rfl<|w_p rfl rfl (po_fo (.t rfl) fs108_3) rfl<|w_p rfl rfl (po_lo 0 (.t rfl) rfl F_Vol_files ty106) rfl<|w_p rfl rfl (po_mov (.t rfl)) rfl<|w_bind fun u11 h10 => w_p rfl rfl (po_ia (.t rfl) (.t rfl) h10 sl106) rfl<|w_p rfl rfl (po_fa (.t rfl) fs105_3 F_File_blocks) rfl<|w_p rfl rfl (po_la (.t rfl) ty24) rfl<|w_p rfl rfl (po_len (ty := 0) (.t rfl) sl24) rfl<|w_p rfl rfl (po_add (.t rfl) (.t rfl)) rfl<|w_p rfl rfl (po_fo (.t rfl) fs108_3) rfl<|w_p rfl rfl (po_lo 0 (.t rfl) rfl F_Vol_files ty106) rfl<|w_p rfl rfl (po_mov (.t rfl)) rfl<|w_bind fun u13 h12 => w_p rfl rfl (po_ia (.t rfl) (.t rfl) h12 sl106) rfl<|w_p rfl rfl (po_fa (.t rfl) fs105_4 F_File_list) rfl<|w_p rfl rfl (po_la (.t rfl) ty103) rfl<|w_p rfl rfl (po_len (ty := 0) (.t rfl) sl103) rfl<|w_p rfl rfl (po_add (.t rfl) (.t rfl)) rfl<|w_p rfl rfl (po_asg (.t rfl)) rfl<|w_nil<|x_tn<|c_seq<|c_reg<|l_p (po_asg (ev_i _)) rfl<|l_nil<|x_tn<|c_blk<|c_loop (fun (s15 : (Int × Int)) (e16 : Unit) => [(1, own g1 0), (2, rd kInt 0), (3, rd kInt s15.1), (4, rd kInt s3.2), (5, rd kInt s15.2)]) (fun (s15 : (Int × Int)) (e16 : Unit) => [(some g1, box kVol a0)]) () ⟨rfl, rfl, rfl, rfl, rfl, trivial⟩ (.c (.nil _)) fun s15 e16 k14 => c_seq<|c_seq<|c_reg<|l_p (po_mov (.t rfl)) rfl<|l_p (po_fo (.t rfl) fs108_3) rfl ?_
      refine l_p (po_lo 0 (.t rfl) rfl F_Vol_files ty106) rfl<|l_p (po_mov (.t rfl)) rfl<|l_bind fun u18 h17 => l_p (po_ia (.t rfl) (.t rfl) h17 sl106) rfl<|l_p (po_fa (.t rfl) fs105_4 F_File_list) rfl<|l_p (po_la (.t rfl) ty103) rfl<|l_p (po_len (ty := 0) (.t rfl) sl103) rfl<|l_p (po_lt (.t rfl) (.t rfl)) rfl<|l_p (po_mov (.t rfl)) rfl<|l_jn 3 (fun (b20 : Bool) (e21 : Unit) => [(1, own g1 0), (2, rd kInt 0), (3, rd kInt s15.1), (4, rd kInt s3.2), (5, rd kInt s15.2), (49, rd kBool b20)]) (fun (b20 : Bool) (e21 : Unit) => [(some g1, box kVol a0)]) (fun k19 => ?_) (fun b20 e21 => ?_)
      · refine l_if (fun h22 => ?_) (fun h22 => ?_)
        · exact l_po ⟨_, rfl, _, rfl, h22⟩ (po_mov (.t rfl)) rfl<|l_po ⟨_, rfl, _, rfl, h22⟩ (po_lt (.t rfl) (ev_i _)) rfl<|l_p (po_pickt (t := rd kBool (decide (s15.1 < 1048576))) (.t rfl) h22 (.t rfl)) rfl<|l_nil<|x_mid ((decide (s15.1 < 1048576)), ()) rfl ⟨rfl, rfl, rfl, rfl, rfl, rfl, trivial⟩ (.c (.nil _))
        · exact l_skipn 2 9 true ⟨_, rfl, _, rfl, ne_t h22⟩ rfl<|l_p (po_pickf (t := rd kBool false) (.t rfl) h22 (.b _)) rfl<|l_nil<|x_mid (false, ()) rfl ⟨rfl, rfl, rfl, rfl, rfl, rfl, trivial⟩ (.c (.nil _))
      · refine l_nil<|x_tn<|c_if rfl (fun h23 => ?_) (fun h23 => ?_)
        · exact c_skip<|x_tn<|c_seq<|c_blk<|c_reg<|l_p (po_mov (.t rfl)) rfl<|l_p (po_fo (.t rfl) fs108_3) rfl<|l_p (po_lo 0 (.t rfl) rfl F_Vol_files ty106) rfl<|l_p (po_mov (.t rfl)) rfl<|l_bind fun u25 h24 => l_p (po_ia (.t rfl) (.t rfl) h24 sl106) rfl<|l_p (po_fa (.t rfl) fs105_4 F_File_list) rfl<|l_p (po_la (.t rfl) ty103) rfl<|l_p (po_mov (.t rfl)) rfl<|l_bind fun u27 h26 => l_p (po_ia (.t rfl) (.t rfl) h26 sl103) rfl<|l_p (po_fa (.t rfl) fs186_0 F_Link_name) rfl<|l_p (po_la (.t rfl) ty9) rfl<|l_p (po_lens (.t rfl) un9) rfl<|l_p (po_quo (.t rfl) (ev_i _) (by decide)) rfl<|l_p (po_add (.t rfl) (.t rfl)) rfl<|l_p (po_asg (.t rfl)) rfl<|l_nil<|x_bn<|x_tn<|c_reg<|l_p (po_mov (.t rfl)) rfl<|l_p (po_add (.t rfl) (ev_i _)) rfl<|l_p (po_asg (.t rfl)) rfl<|l_nil<|x_mid (((IntKind.wrap .i64 (s15.1 + (IntKind.wrap .i64 (Int.tdiv ((Link.name u27).size : Int) 4)))), (IntKind.wrap .i64 (s15.2 + 1))), ()) rfl ⟨rfl, rfl, rfl, rfl, rfl, trivial⟩ (.c (.nil _))
        · exact c_exit<|x_te<|x_me<|x_be<|x_bn<|x_tn<|c_reg<|l_p (po_mov (.t rfl)) rfl<|l_p (po_add (.t rfl) (ev_i _)) rfl<|l_p (po_asg (.t rfl)) rfl<|l_nil<|x_mid ((s15.1, (IntKind.wrap .i64 (s3.2 + 1))), ()) rfl ⟨rfl, rfl, rfl, rfl, trivial⟩ (.c (.nil _))
    · exact c_exit<|x_te<|x_me<|x_be<|x_tn<|c_seq<|c_reg<|l_p (po_mov (.t rfl)) rfl<|l_p (po_asg (.t rfl)) rfl<|l_nil<|x_tn<|c_ret<|x_ret1 rfl (.t rfl)
noncomputable def hl0_BlocksWeight (a0 : (List Block)) : Option Int :=
  rep (fun (s2 : (Int × Int)) k1 => jn (fun (b5 : Bool) => if b5 = true then ((at? a0 s2.2).bind (fun u10 => k1 ((IntKind.wrap .i64 (s2.1 + (IntKind.wrap .i64 (Int.tdiv ((Block.text u10).size : Int) 8)))), (IntKind.wrap .i64 (s2.2 + 1))))) else (some s2.1)) (fun k4 => if (decide (s2.2 < (a0.length : Int))) = true then (k4 (decide (s2.1 < 1048576))) else (k4 false))) FUEL ((a0.length : Int), 0)
theorem c_hl0_BlocksWeight (a0 : (List Block)) : Ct Tryz.prog 66 [rd (kSl kBlock) a0] (hl0_BlocksWeight a0) (fun r => rd kInt r) := by
  unfold hl0_BlocksWeight
  refine enter Tryz.func66 rfl Tryz.ntmps66 rfl (by kernel_rfl) fun z => c_seq<|c_reg<|l_p (po_asg (ev_i _)) rfl<|l_nil<|x_tn<|c_seq<|c_reg<|l_p (po_mov (.t rfl)) rfl<|l_p (po_len (ty := 0) (.t rfl) sl29) rfl<|l_p (po_asg (.t rfl)) rfl<|l_nil<|x_tn<|c_seq<|c_seq<|c_reg<|l_p (po_asg (ev_i _)) rfl<|l_nil<|x_tn<|c_blk<|c_loop (fun (s2 : (Int × Int)) (e3 : Unit) => [(0, rd (kSl kBlock) a0), (2, rd kInt 0), (3, rd kInt s2.1), (4, rd kInt s2.2)]) (fun (s2 : (Int × Int)) (e3 : Unit) => []) () ⟨rfl, rfl, rfl, rfl, trivial⟩ (.nil _) fun s2 e3 k1 => c_seq<|c_seq<|c_reg<|l_p (po_mov (.t rfl)) rfl<|l_p (po_mov (.t rfl)) rfl<|l_p (po_len (ty := 0) (.t rfl) sl29) rfl<|l_p (po_lt (.t rfl) (.t rfl)) rfl<|l_p (po_mov (.t rfl)) rfl<|l_jn 3 (fun (b5 : Bool) (e6 : Unit) => [(0, rd (kSl kBlock) a0), (2, rd kInt 0), (3, rd kInt s2.1), (4, rd kInt s2.2), (14, rd kBool b5)]) (fun (b5 : Bool) (e6 : Unit) => []) (fun k4 => ?_) (fun b5 e6 => ?_)
  · refine l_if (fun h7 => ?_) (fun h7 => ?_)
    · exact l_po ⟨_, rfl, _, rfl, h7⟩ (po_mov (.t rfl)) rfl<|l_po ⟨_, rfl, _, rfl, h7⟩ (po_lt (.t rfl) (ev_i _)) rfl<|l_p (po_pickt (t := rd kBool (decide (s2.1 < 1048576))) (.t rfl) h7 (.t rfl)) rfl<|l_nil<|x_mid ((decide (s2.1 < 1048576)), ()) rfl ⟨rfl, rfl, rfl, rfl, rfl, trivial⟩ (.nil _)
    · exact l_skipn 2 4 true ⟨_, rfl, _, rfl, ne_t h7⟩ rfl<|l_p (po_pickf (t := rd kBool false) (.t rfl) h7 (.b _)) rfl<|l_nil<|x_mid (false, ()) rfl ⟨rfl, rfl, rfl, rfl, rfl, trivial⟩ (.nil _)
  · refine l_nil<|x_tn<|c_if rfl (fun h8 => ?_) (fun h8 => ?_)
    · exact c_skip<|x_tn<|c_seq<|c_blk<|c_reg<|l_p (po_mov (.t rfl)) rfl<|l_p (po_mov (.t rfl)) rfl<|l_p (po_mov (.t rfl)) rfl<|l_bind fun u10 h9 => l_p (po_ia (.t rfl) (.t rfl) h9 sl29) rfl<|l_p (po_fa (.t rfl) fs82_2 F_Block_text) rfl<|l_p (po_la (.t rfl) ty9) rfl<|l_p (po_lens (.t rfl) un9) rfl<|l_p (po_quo (.t rfl) (ev_i _) (by decide)) rfl<|l_p (po_add (.t rfl) (.t rfl)) rfl<|l_p (po_asg (.t rfl)) rfl<|l_nil<|x_bn<|x_tn<|c_reg<|l_p (po_mov (.t rfl)) rfl<|l_p (po_add (.t rfl) (ev_i _)) rfl<|l_p (po_asg (.t rfl)) rfl<|l_nil<|x_mid (((IntKind.wrap .i64 (s2.1 + (IntKind.wrap .i64 (Int.tdiv ((Block.text u10).size : Int) 8)))), (IntKind.wrap .i64 (s2.2 + 1))), ()) rfl ⟨rfl, rfl, rfl, rfl, trivial⟩ (.nil _)
    · exact c_exit<|x_te<|x_me<|x_be<|x_tn<|c_seq<|c_reg<|l_p (po_mov (.t rfl)) rfl<|l_p (po_asg (.t rfl)) rfl<|l_nil<|x_tn<|c_ret<|x_ret1 rfl (.t rfl)
noncomputable def hl0_DevicesWeight (a0 : (List Device)) : Option Int :=
  rep (fun (s2 : (Int × Int)) k1 => jn (fun (b5 : Bool) => if b5 = true then ((at? a0 s2.2).bind (fun u10 => (at? a0 s2.2).bind (fun u12 => k1 ((IntKind.wrap .i64 ((IntKind.wrap .i64 (s2.1 + ((Device.free u10).length : Int))) + ((Device.late u12).length : Int))), (IntKind.wrap .i64 (s2.2 + 1)))))) else (some s2.1)) (fun k4 => if (decide (s2.2 < (a0.length : Int))) = true then (k4 (decide (s2.1 < 1048576))) else (k4 false))) FUEL ((a0.length : Int), 0)
theorem c_hl0_DevicesWeight (a0 : (List Device)) : Ct Tryz.prog 128 [rd (kSl kDevice) a0] (hl0_DevicesWeight a0) (fun r => rd kInt r) := by
  unfold hl0_DevicesWeight
  refine enter Tryz.func128 rfl Tryz.ntmps128 rfl (by kernel_rfl) fun z => c_seq<|c_reg<|l_p (po_asg (ev_i _)) rfl<|l_nil<|x_tn<|c_seq<|c_reg<|l_p (po_mov (.t rfl)) rfl<|l_p (po_len (ty := 0) (.t rfl) sl30) rfl<|l_p (po_asg (.t rfl)) rfl<|l_nil<|x_tn<|c_seq<|c_seq<|c_reg<|l_p (po_asg (ev_i _)) rfl<|l_nil<|x_tn<|c_blk<|c_loop (fun (s2 : (Int × Int)) (e3 : Unit) => [(0, rd (kSl kDevice) a0), (2, rd kInt 0), (3, rd kInt s2.1), (4, rd kInt s2.2)]) (fun (s2 : (Int × Int)) (e3 : Unit) => []) () ⟨rfl, rfl, rfl, rfl, trivial⟩ (.nil _) fun s2 e3 k1 => c_seq<|c_seq<|c_reg<|l_p (po_mov (.t rfl)) rfl<|l_p (po_mov (.t rfl)) rfl<|l_p (po_len (ty := 0) (.t rfl) sl30) rfl<|l_p (po_lt (.t rfl) (.t rfl)) rfl<|l_p (po_mov (.t rfl)) rfl<|l_jn 3 (fun (b5 : Bool) (e6 : Unit) => [(0, rd (kSl kDevice) a0), (2, rd kInt 0), (3, rd kInt s2.1), (4, rd kInt s2.2), (14, rd kBool b5)]) (fun (b5 : Bool) (e6 : Unit) => []) (fun k4 => ?_) (fun b5 e6 => ?_)
  · refine l_if (fun h7 => ?_) (fun h7 => ?_)
    · exact l_po ⟨_, rfl, _, rfl, h7⟩ (po_mov (.t rfl)) rfl<|l_po ⟨_, rfl, _, rfl, h7⟩ (po_lt (.t rfl) (ev_i _)) rfl<|l_p (po_pickt (t := rd kBool (decide (s2.1 < 1048576))) (.t rfl) h7 (.t rfl)) rfl<|l_nil<|x_mid ((decide (s2.1 < 1048576)), ()) rfl ⟨rfl, rfl, rfl, rfl, rfl, trivial⟩ (.nil _)
    · exact l_skipn 2 4 true ⟨_, rfl, _, rfl, ne_t h7⟩ rfl<|l_p (po_pickf (t := rd kBool false) (.t rfl) h7 (.b _)) rfl<|l_nil<|x_mid (false, ()) rfl ⟨rfl, rfl, rfl, rfl, rfl, trivial⟩ (.nil _)
  · refine l_nil<|x_tn<|c_if rfl (fun h8 => ?_) (fun h8 => ?_)
    · exact c_skip<|x_tn<|c_seq<|c_blk<|c_draw [0, 1, 2, 3, 4, 5, 6, 7, 8, 9, 10, 11, 12, 13, 14, 15] [] [] (by kernel_rfl) (by kernel_rfl)<|w_p rfl rfl (po_mov (.t rfl)) rfl<|w_p rfl rfl (po_mov (.t rfl)) rfl<|w_p rfl rfl (po_mov (.t rfl)) rfl<|w_bind fun u10 h9 => w_p rfl rfl (po_ia (.t rfl) (.t rfl) h9 sl30) rfl<|w_p rfl rfl (po_fa (.t rfl) fs60_2 F_Device_free) rfl<|w_p rfl rfl (po_la (.t rfl) ty58) rfl<|w_p rfl rfl (po_len (ty := 0) (.t rfl) sl58) rfl<|w_p rfl rfl (po_add (.t rfl) (.t rfl)) rfl<|w_p rfl rfl (po_mov (.t rfl)) rfl<|w_p rfl rfl (po_mov (.t rfl)) rfl<|w_bind fun u12 h11 => w_p rfl rfl (po_ia (.t rfl) (.t rfl) h11 sl30) rfl<|w_p rfl rfl (po_fa (.t rfl) fs60_3 F_Device_late) rfl<|w_p rfl rfl (po_la (.t rfl) ty58) rfl<|w_p rfl rfl (po_len (ty := 0) (.t rfl) sl58) rfl<|w_p rfl rfl (po_add (.t rfl) (.t rfl)) rfl<|w_p rfl rfl (po_asg (.t rfl)) rfl<|w_nil<|x_bn<|x_tn<|c_reg<|l_p (po_mov (.t rfl)) rfl<|l_p (po_add (.t rfl) (ev_i _)) rfl<|l_p (po_asg (.t rfl)) rfl<|l_nil<|x_mid (((IntKind.wrap .i64 ((IntKind.wrap .i64 (s2.1 + ((Device.free u10).length : Int))) + ((Device.late u12).length : Int))), (IntKind.wrap .i64 (s2.2 + 1))), ()) rfl ⟨rfl, rfl, rfl, rfl, trivial⟩ (.nil _)
    · exact c_exit<|x_te<|x_me<|x_be<|x_tn<|c_seq<|c_reg<|l_p (po_mov (.t rfl)) rfl<|l_p (po_asg (.t rfl)) rfl<|l_nil<|x_tn<|c_ret<|x_ret1 rfl (.t rfl)
noncomputable def hl0_Texts (a0 : (List ByteArray)) : Option Int :=
  rep (fun (s2 : (Int × Int)) k1 => jn (fun (b5 : Bool) => if b5 = true then ((at? a0 s2.2).bind (fun u10 => k1 ((IntKind.wrap .i64 (s2.1 + (u10.size : Int))), (IntKind.wrap .i64 (s2.2 + 1))))) else (some s2.1)) (fun k4 => if (decide (s2.2 < (a0.length : Int))) = true then (k4 (decide (s2.1 < 1048576))) else (k4 false))) FUEL ((a0.length : Int), 0)
theorem c_hl0_Texts (a0 : (List ByteArray)) : Ct Tryz.prog 27 [rd (kSl kStr) a0] (hl0_Texts a0) (fun r => rd kInt r) := by
  unfold hl0_Texts
  refine enter Tryz.func27 rfl Tryz.ntmps27 rfl (by kernel_rfl) fun z => c_seq<|c_reg<|l_p (po_asg (ev_i _)) rfl<|l_nil<|x_tn<|c_seq<|c_reg<|l_p (po_mov (.t rfl)) rfl<|l_p (po_len (ty := 0) (.t rfl) sl66) rfl<|l_p (po_asg (.t rfl)) rfl<|l_nil<|x_tn<|c_seq<|c_seq<|c_reg<|l_p (po_asg (ev_i _)) rfl<|l_nil<|x_tn<|c_blk<|c_loop (fun (s2 : (Int × Int)) (e3 : Unit) => [(0, rd (kSl kStr) a0), (2, rd kInt 0), (3, rd kInt s2.1), (4, rd kInt s2.2)]) (fun (s2 : (Int × Int)) (e3 : Unit) => []) () ⟨rfl, rfl, rfl, rfl, trivial⟩ (.nil _) fun s2 e3 k1 => c_seq<|c_seq<|c_reg<|l_p (po_mov (.t rfl)) rfl<|l_p (po_mov (.t rfl)) rfl<|l_p (po_len (ty := 0) (.t rfl) sl66) rfl<|l_p (po_lt (.t rfl) (.t rfl)) rfl<|l_p (po_mov (.t rfl)) rfl<|l_jn 3 (fun (b5 : Bool) (e6 : Unit) => [(0, rd (kSl kStr) a0), (2, rd kInt 0), (3, rd kInt s2.1), (4, rd kInt s2.2), (14, rd kBool b5)]) (fun (b5 : Bool) (e6 : Unit) => []) (fun k4 => ?_) (fun b5 e6 => ?_)
  · refine l_if (fun h7 => ?_) (fun h7 => ?_)
    · exact l_po ⟨_, rfl, _, rfl, h7⟩ (po_mov (.t rfl)) rfl<|l_po ⟨_, rfl, _, rfl, h7⟩ (po_lt (.t rfl) (ev_i _)) rfl<|l_p (po_pickt (t := rd kBool (decide (s2.1 < 1048576))) (.t rfl) h7 (.t rfl)) rfl<|l_nil<|x_mid ((decide (s2.1 < 1048576)), ()) rfl ⟨rfl, rfl, rfl, rfl, rfl, trivial⟩ (.nil _)
    · exact l_skipn 2 4 true ⟨_, rfl, _, rfl, ne_t h7⟩ rfl<|l_p (po_pickf (t := rd kBool false) (.t rfl) h7 (.b _)) rfl<|l_nil<|x_mid (false, ()) rfl ⟨rfl, rfl, rfl, rfl, rfl, trivial⟩ (.nil _)
  · refine l_nil<|x_tn<|c_if rfl (fun h8 => ?_) (fun h8 => ?_)
    · exact c_skip<|x_tn<|c_seq<|c_blk<|c_reg<|l_p (po_mov (.t rfl)) rfl<|l_p (po_mov (.t rfl)) rfl<|l_p (po_mov (.t rfl)) rfl<|l_bind fun u10 h9 => l_p (po_ia (.t rfl) (.t rfl) h9 sl66) rfl<|l_p (po_la (.t rfl) ty9) rfl<|l_p (po_lens (.t rfl) un9) rfl<|l_p (po_add (.t rfl) (.t rfl)) rfl<|l_p (po_asg (.t rfl)) rfl<|l_nil<|x_bn<|x_tn<|c_reg<|l_p (po_mov (.t rfl)) rfl<|l_p (po_add (.t rfl) (ev_i _)) rfl<|l_p (po_asg (.t rfl)) rfl<|l_nil<|x_mid (((IntKind.wrap .i64 (s2.1 + (u10.size : Int))), (IntKind.wrap .i64 (s2.2 + 1))), ()) rfl ⟨rfl, rfl, rfl, rfl, trivial⟩ (.nil _)
    · exact c_exit<|x_te<|x_me<|x_be<|x_tn<|c_seq<|c_reg<|l_p (po_mov (.t rfl)) rfl<|l_p (po_asg (.t rfl)) rfl<|l_nil<|x_tn<|c_ret<|x_ret1 rfl (.t rfl)
noncomputable def hr0_Between (a0 : Int) (a1 : Int) (a2 : Int) : Option Bool :=
  jn (fun (b2 : Bool) => some b2) (fun k1 => if (decide (a0 ≥ a1)) = true then (k1 (decide (a0 ≤ a2))) else (k1 false))
theorem c_hr0_Between (a0 : Int) (a1 : Int) (a2 : Int) : Ct Tryz.prog 18 [rd kInt a0, rd kInt a1, rd kInt a2] (hr0_Between a0 a1 a2) (fun r => rd kBool r) := by
  unfold hr0_Between
  refine enter Tryz.func18 rfl Tryz.ntmps18 rfl (by kernel_rfl) fun z => c_seq<|c_reg<|l_p (po_asg (.b _)) rfl<|l_nil<|x_tn<|c_seq<|c_reg<|l_p (po_mov (.t rfl)) rfl<|l_p (po_mov (.t rfl)) rfl<|l_p (po_ge (.t rfl) (.t rfl)) rfl<|l_p (po_mov (.t rfl)) rfl<|l_jn 4 (fun (b2 : Bool) (e3 : Unit) => [(6, rd kBool false), (14, rd kBool b2)]) (fun (b2 : Bool) (e3 : Unit) => []) (fun k1 => ?_) (fun b2 e3 => ?_)
  · refine l_if (fun h4 => ?_) (fun h4 => ?_)
    · exact l_po ⟨_, rfl, _, rfl, h4⟩ (po_mov (.t rfl)) rfl<|l_po ⟨_, rfl, _, rfl, h4⟩ (po_mov (.t rfl)) rfl<|l_po ⟨_, rfl, _, rfl, h4⟩ (po_le (.t rfl) (.t rfl)) rfl<|l_p (po_pickt (t := rd kBool (decide (a0 ≤ a2))) (.t rfl) h4 (.t rfl)) rfl<|l_nil<|x_mid ((decide (a0 ≤ a2)), ()) rfl ⟨rfl, rfl, trivial⟩ (.nil _)
    · exact l_skipn 3 3 true ⟨_, rfl, _, rfl, ne_t h4⟩ rfl<|l_p (po_pickf (t := rd kBool false) (.t rfl) h4 (.b _)) rfl<|l_nil<|x_mid (false, ()) rfl ⟨rfl, rfl, trivial⟩ (.nil _)
  · exact l_p (po_asg (.t rfl)) rfl<|l_nil<|x_tn<|c_ret<|x_ret1 rfl (.t rfl)
noncomputable def hr0_Num (a0 : Int) (a1 : Int) : Option Bool :=
  jn (fun (b2 : Bool) => some b2) (fun k1 => if (decide (a0 ≥ 0)) = true then (k1 (decide (a0 ≤ a1))) else (k1 false))
theorem c_hr0_Num (a0 : Int) (a1 : Int) : Ct Tryz.prog 75 [rd kInt a0, rd kInt a1] (hr0_Num a0 a1) (fun r => rd kBool r) := by
  unfold hr0_Num
  refine enter Tryz.func75 rfl Tryz.ntmps75 rfl (by kernel_rfl) fun z => c_seq<|c_reg<|l_p (po_asg (.b _)) rfl<|l_nil<|x_tn<|c_seq<|c_reg<|l_p (po_mov (.t rfl)) rfl<|l_p (po_ge (.t rfl) (ev_i _)) rfl<|l_p (po_mov (.t rfl)) rfl<|l_jn 4 (fun (b2 : Bool) (e3 : Unit) => [(4, rd kBool false), (11, rd kBool b2)]) (fun (b2 : Bool) (e3 : Unit) => []) (fun k1 => ?_) (fun b2 e3 => ?_)
  · refine l_if (fun h4 => ?_) (fun h4 => ?_)
    · exact l_po ⟨_, rfl, _, rfl, h4⟩ (po_mov (.t rfl)) rfl<|l_po ⟨_, rfl, _, rfl, h4⟩ (po_mov (.t rfl)) rfl<|l_po ⟨_, rfl, _, rfl, h4⟩ (po_le (.t rfl) (.t rfl)) rfl<|l_p (po_pickt (t := rd kBool (decide (a0 ≤ a1))) (.t rfl) h4 (.t rfl)) rfl<|l_nil<|x_mid ((decide (a0 ≤ a1)), ()) rfl ⟨rfl, rfl, trivial⟩ (.nil _)
    · exact l_skipn 3 2 true ⟨_, rfl, _, rfl, ne_t h4⟩ rfl<|l_p (po_pickf (t := rd kBool false) (.t rfl) h4 (.b _)) rfl<|l_nil<|x_mid (false, ()) rfl ⟨rfl, rfl, trivial⟩ (.nil _)
  · exact l_p (po_asg (.t rfl)) rfl<|l_nil<|x_tn<|c_ret<|x_ret1 rfl (.t rfl)
noncomputable def hr4_Many (a0 : Int) : Option Int :=
  some (IntKind.wrap .i64 (Int.tdiv (IntKind.wrap .i64 ((IntKind.wrap .i64 (a0 + 32)) - 1)) 32))
theorem c_hr4_Many (a0 : Int) : Ct Tryz.prog 201 [rd kInt a0] (hr4_Many a0) (fun r => rd kInt r) := by
  unfold hr4_Many
  exact enter Tryz.func201 rfl Tryz.ntmps201 rfl (by kernel_rfl) fun z => c_seq<|c_reg<|l_p (po_asg (ev_i _)) rfl<|l_nil<|x_tn<|c_seq<|c_reg<|l_p (po_mov (.t rfl)) rfl<|l_p (po_add (.t rfl) (ev_i _)) rfl<|l_p (po_sub (.t rfl) (ev_i _)) rfl<|l_p (po_quo (.t rfl) (ev_i _) (by decide)) rfl<|l_p (po_asg (.t rfl)) rfl<|l_nil<|x_tn<|c_ret<|x_ret1 rfl (.t rfl)
noncomputable def hr2_Name (a0 : ByteArray) : Option Bool :=
  jn (fun (b2 : Bool) => jn (fun (b6 : Bool) => jn (fun (b10 : Bool) => if b10 = true then (some false) else (rep (fun (s15 : (Bool × Int)) k14 => if (decide (s15.2 < (a0.size : Int))) = true then ((sAt a0 s15.2).bind (fun u19 => jn (fun (b21 : Bool) => jn (fun (b25 : Bool) => jn (fun (b33 : Bool) => jn (fun (b37 : Bool) => jn (fun (b41 : Bool) => if (!b41) = true then (some false) else (k14 (s15.1, (IntKind.wrap .i64 (s15.2 + 1))))) (fun k40 => if b37 = true then (k40 true) else (k40 (u19 == 45)))) (fun k36 => if b33 = true then (k36 true) else (k36 (u19 == 95)))) (fun k32 => if b25 = true then (k32 true) else (k32 (u19 == 46)))) (fun k24 => if b21 = true then (k24 true) else (jn (fun (b29 : Bool) => k24 b29) (fun k28 => if (decide (u19 ≥ 48)) = true then (k28 (decide (u19 ≤ 57))) else (k28 false))))) (fun k20 => if (decide (u19 ≥ 97)) = true then (k20 (decide (u19 ≤ 122))) else (k20 false)))) else (some true)) FUEL (false, 0))) (fun k9 => if b6 = true then (k9 true) else (k9 (sEq a0 (ByteArray.mk #[46, 46]))))) (fun k5 => if b2 = true then (k5 true) else (k5 (sEq a0 (ByteArray.mk #[46]))))) (fun k1 => if ((a0.size : Int) == 0) = true then (k1 true) else (k1 (decide ((a0.size : Int) > 8))))
theorem c_hr2_Name (a0 : ByteArray) : Ct Tryz.prog 249 [rd kStr a0] (hr2_Name a0) (fun r => rd kBool r) := by
  unfold hr2_Name
  refine enter Tryz.func249 rfl Tryz.ntmps249 rfl (by kernel_rfl) fun z => c_seq<|c_reg<|l_p (po_asg (.b _)) rfl<|l_nil<|x_tn<|c_seq<|c_seq<|c_reg<|l_p (po_mov (.t rfl)) rfl<|l_p (po_lens (.t rfl) un9) rfl<|l_p (po_eq (.t rfl) (ev_i _)) rfl<|l_p (po_mov (.t rfl)) rfl<|l_jn 4 (fun (b2 : Bool) (e3 : Unit) => [(0, rd kStr a0), (2, rd kBool false), (12, rd kBool b2)]) (fun (b2 : Bool) (e3 : Unit) => []) (fun k1 => ?_) (fun b2 e3 => ?_)
  · refine l_if (fun h4 => ?_) (fun h4 => ?_)
    · exact l_skipn 3 3 false ⟨_, rfl, _, rfl, ne_f h4⟩ rfl<|l_p (po_pickt (t := rd kBool true) (.t rfl) h4 (.b _)) rfl<|l_nil<|x_mid (true, ()) rfl ⟨rfl, rfl, rfl, trivial⟩ (.nil _)
    · exact l_po ⟨_, rfl, _, rfl, h4⟩ (po_mov (.t rfl)) rfl<|l_po ⟨_, rfl, _, rfl, h4⟩ (po_lens (.t rfl) un9) rfl<|l_po ⟨_, rfl, _, rfl, h4⟩ (po_gt (.t rfl) (ev_i _)) rfl<|l_p (po_pickf (t := rd kBool (decide ((a0.size : Int) > 8))) (.t rfl) h4 (.t rfl)) rfl<|l_nil<|x_mid ((decide ((a0.size : Int) > 8)), ()) rfl ⟨rfl, rfl, rfl, trivial⟩ (.nil _)
  · refine l_p (po_mov (.t rfl)) rfl<|l_jn 3 (fun (b6 : Bool) (e7 : Unit) => [(0, rd kStr a0), (2, rd kBool false), (16, rd kBool b6)]) (fun (b6 : Bool) (e7 : Unit) => []) (fun k5 => ?_) (fun b6 e7 => ?_)
    · refine l_if (fun h8 => ?_) (fun h8 => ?_)
      · exact l_skipn 2 8 false ⟨_, rfl, _, rfl, ne_f h8⟩ rfl<|l_p (po_pickt (t := rd kBool true) (.t rfl) h8 (.b _)) rfl<|l_nil<|x_mid (true, ()) rfl ⟨rfl, rfl, rfl, trivial⟩ (.nil _)
      · exact l_po ⟨_, rfl, _, rfl, h8⟩ (po_mov (.t rfl)) rfl<|l_po ⟨_, rfl, _, rfl, h8⟩ (po_seq (.t rfl) (.s _)) rfl<|l_p (po_pickf (t := rd kBool (sEq a0 (ByteArray.mk #[46]))) (.t rfl) h8 (.t rfl)) rfl<|l_nil<|x_mid ((sEq a0 (ByteArray.mk #[46])), ()) rfl ⟨rfl, rfl, rfl, trivial⟩ (.nil _)
    · refine l_p (po_mov (.t rfl)) rfl<|l_jn 3 (fun (b10 : Bool) (e11 : Unit) => [(0, rd kStr a0), (2, rd kBool false), (20, rd kBool b10)]) (fun (b10 : Bool) (e11 : Unit) => []) (fun k9 => ?_) (fun b10 e11 => ?_)
      · refine l_if (fun h12 => ?_) (fun h12 => ?_)
        · exact l_skipn 2 12 false ⟨_, rfl, _, rfl, ne_f h12⟩ rfl<|l_p (po_pickt (t := rd kBool true) (.t rfl) h12 (.b _)) rfl<|l_nil<|x_mid (true, ()) rfl ⟨rfl, rfl, rfl, trivial⟩ (.nil _)
        · exact l_po ⟨_, rfl, _, rfl, h12⟩ (po_mov (.t rfl)) rfl<|l_po ⟨_, rfl, _, rfl, h12⟩ (po_seq (.t rfl) (.s _)) rfl<|l_p (po_pickf (t := rd kBool (sEq a0 (ByteArray.mk #[46, 46]))) (.t rfl) h12 (.t rfl)) rfl<|l_nil<|x_mid ((sEq a0 (ByteArray.mk #[46, 46])), ()) rfl ⟨rfl, rfl, rfl, trivial⟩ (.nil _)
      · refine l_nil<|x_tn<|c_if rfl (fun h13 => ?_) (fun h13 => ?_)
        · exact c_seq<|c_reg<|l_p (po_asg (.b _)) rfl<|l_nil<|x_tn<|c_ret<|x_tr<|x_ret1 rfl (.t rfl)
        · refine c_skip<|x_tn<|c_seq<|c_seq<|c_reg<|l_p (po_asg (ev_i _)) rfl<|l_nil<|x_tn<|c_blk<|c_loop (fun (s15 : (Bool × Int)) (e16 : Unit) => [(0, rd kStr a0), (2, rd kBool s15.1), (3, rd kInt s15.2)]) (fun (s15 : (Bool × Int)) (e16 : Unit) => []) () ⟨rfl, rfl, rfl, trivial⟩ (.nil _) fun s15 e16 k14 => c_seq<|c_seq<|c_reg<|l_p (po_mov (.t rfl)) rfl<|l_p (po_mov (.t rfl)) rfl<|l_p (po_lens (.t rfl) un9) rfl<|l_p (po_lt (.t rfl) (.t rfl)) rfl<|l_nil<|x_tn<|c_if rfl (fun h17 => ?_) (fun h17 => ?_)
          · refine c_skip<|x_tn<|c_seq<|c_blk<|c_seq<|c_reg<|l_p (po_mov (.t rfl)) rfl<|l_p (po_mov (.t rfl)) rfl<|l_bind fun u19 h18 => l_p (po_six (.t rfl) (.t rfl) h18 un9) rfl<|l_p (po_asg (.t rfl)) rfl<|l_nil<|x_tn<|c_seq<|c_reg<|l_p (po_mov (.t rfl)) rfl<|l_p (po_ge (.t rfl) (ev_y _)) rfl<|l_p (po_mov (.t rfl)) rfl<|l_jn 3 (fun (b21 : Bool) (e22 : Unit) => [(0, rd kStr a0), (2, rd kBool s15.1), (3, rd kInt s15.2), (4, rd kByte u19), (35, rd kBool b21)]) (fun (b21 : Bool) (e22 : Unit) => []) (fun k20 => ?_) (fun b21 e22 => ?_)
            · refine l_if (fun h23 => ?_) (fun h23 => ?_)
              · exact l_po ⟨_, rfl, _, rfl, h23⟩ (po_mov (.t rfl)) rfl<|l_po ⟨_, rfl, _, rfl, h23⟩ (po_le (.t rfl) (ev_y _)) rfl<|l_p (po_pickt (t := rd kBool (decide (u19 ≤ 122))) (.t rfl) h23 (.t rfl)) rfl<|l_nil<|x_mid ((decide (u19 ≤ 122)), ()) rfl ⟨rfl, rfl, rfl, rfl, rfl, trivial⟩ (.nil _)
              · exact l_skipn 2 2 true ⟨_, rfl, _, rfl, ne_t h23⟩ rfl<|l_p (po_pickf (t := rd kBool false) (.t rfl) h23 (.b _)) rfl<|l_nil<|x_mid (false, ()) rfl ⟨rfl, rfl, rfl, rfl, rfl, trivial⟩ (.nil _)
            · refine l_p (po_mov (.t rfl)) rfl<|l_jn 7 (fun (b25 : Bool) (e26 : Unit) => [(0, rd kStr a0), (2, rd kBool s15.1), (3, rd kInt s15.2), (4, rd kByte u19), (43, rd kBool b25)]) (fun (b25 : Bool) (e26 : Unit) => []) (fun k24 => ?_) (fun b25 e26 => ?_)
              · refine l_if (fun h27 => ?_) (fun h27 => ?_)
                · exact l_skipn 6 6 false ⟨_, rfl, _, rfl, ne_f h27⟩ rfl<|l_p (po_pickt (t := rd kBool true) (.t rfl) h27 (.b _)) rfl<|l_nil<|x_mid (true, ()) rfl ⟨rfl, rfl, rfl, rfl, rfl, trivial⟩ (.nil _)
                · refine l_po ⟨_, rfl, _, rfl, h27⟩ (po_mov (.t rfl)) rfl<|l_po ⟨_, rfl, _, rfl, h27⟩ (po_ge (.t rfl) (ev_y _)) rfl<|l_po ⟨_, rfl, _, rfl, h27⟩ (po_mov (.t rfl)) rfl<|l_jn 3 (fun (b29 : Bool) (e30 : Unit) => [(0, rd kStr a0), (2, rd kBool s15.1), (3, rd kInt s15.2), (4, rd kByte u19), (36, rd kBool b21), (42, rd kBool b29)]) (fun (b29 : Bool) (e30 : Unit) => []) (fun k28 => ?_) (fun b29 e30 => ?_)
                  · refine l_if (fun h31 => ?_) (fun h31 => ?_)
                    · exact l_po ⟨_, rfl, _, rfl, h31⟩ (po_mov (.t rfl)) rfl<|l_po ⟨_, rfl, _, rfl, h31⟩ (po_le (.t rfl) (ev_y _)) rfl<|l_po ⟨_, rfl, _, rfl, h27⟩ (po_pickt (t := rd kBool (decide (u19 ≤ 57))) (.t rfl) h31 (.t rfl)) rfl<|l_nil<|x_mid ((decide (u19 ≤ 57)), ()) rfl ⟨rfl, rfl, rfl, rfl, rfl, rfl, trivial⟩ (.nil _)
                    · exact l_skipn 2 9 true ⟨_, rfl, _, rfl, ne_t h31⟩ rfl<|l_po ⟨_, rfl, _, rfl, h27⟩ (po_pickf (t := rd kBool false) (.t rfl) h31 (.b _)) rfl<|l_nil<|x_mid (false, ()) rfl ⟨rfl, rfl, rfl, rfl, rfl, rfl, trivial⟩ (.nil _)
                  · exact l_p (po_pickf (t := rd kBool b29) (.t rfl) h27 (.t rfl)) rfl<|l_nil<|x_mid (b29, ()) rfl ⟨rfl, rfl, rfl, rfl, rfl, trivial⟩ (.nil _)
              · refine l_p (po_mov (.t rfl)) rfl<|l_jn 3 (fun (b33 : Bool) (e34 : Unit) => [(0, rd kStr a0), (2, rd kBool s15.1), (3, rd kInt s15.2), (4, rd kByte u19), (47, rd kBool b33)]) (fun (b33 : Bool) (e34 : Unit) => []) (fun k32 => ?_) (fun b33 e34 => ?_)
                · refine l_if (fun h35 => ?_) (fun h35 => ?_)
                  · exact l_skipn 2 14 false ⟨_, rfl, _, rfl, ne_f h35⟩ rfl<|l_p (po_pickt (t := rd kBool true) (.t rfl) h35 (.b _)) rfl<|l_nil<|x_mid (true, ()) rfl ⟨rfl, rfl, rfl, rfl, rfl, trivial⟩ (.nil _)
                  · exact l_po ⟨_, rfl, _, rfl, h35⟩ (po_mov (.t rfl)) rfl<|l_po ⟨_, rfl, _, rfl, h35⟩ (po_eq (.t rfl) (ev_y _)) rfl<|l_p (po_pickf (t := rd kBool (u19 == 46)) (.t rfl) h35 (.t rfl)) rfl<|l_nil<|x_mid ((u19 == 46), ()) rfl ⟨rfl, rfl, rfl, rfl, rfl, trivial⟩ (.nil _)
                · refine l_p (po_mov (.t rfl)) rfl<|l_jn 3 (fun (b37 : Bool) (e38 : Unit) => [(0, rd kStr a0), (2, rd kBool s15.1), (3, rd kInt s15.2), (4, rd kByte u19), (51, rd kBool b37)]) (fun (b37 : Bool) (e38 : Unit) => []) (fun k36 => ?_) (fun b37 e38 => ?_)
                  · refine l_if (fun h39 => ?_) (fun h39 => ?_)
                    · exact l_skipn 2 18 false ⟨_, rfl, _, rfl, ne_f h39⟩ rfl<|l_p (po_pickt (t := rd kBool true) (.t rfl) h39 (.b _)) rfl<|l_nil<|x_mid (true, ()) rfl ⟨rfl, rfl, rfl, rfl, rfl, trivial⟩ (.nil _)
                    · exact l_po ⟨_, rfl, _, rfl, h39⟩ (po_mov (.t rfl)) rfl<|l_po ⟨_, rfl, _, rfl, h39⟩ (po_eq (.t rfl) (ev_y _)) rfl<|l_p (po_pickf (t := rd kBool (u19 == 95)) (.t rfl) h39 (.t rfl)) rfl<|l_nil<|x_mid ((u19 == 95), ()) rfl ⟨rfl, rfl, rfl, rfl, rfl, trivial⟩ (.nil _)
                  · refine l_p (po_mov (.t rfl)) rfl<|l_jn 3 (fun (b41 : Bool) (e42 : Unit) => [(0, rd kStr a0), (2, rd kBool s15.1), (3, rd kInt s15.2), (55, rd kBool b41)]) (fun (b41 : Bool) (e42 : Unit) => []) (fun k40 => ?_) (fun b41 e42 => ?_)
                    · refine l_if (fun h43 => ?_) (fun h43 => ?_)
                      · exact l_skipn 2 22 false ⟨_, rfl, _, rfl, ne_f h43⟩ rfl<|l_p (po_pickt (t := rd kBool true) (.t rfl) h43 (.b _)) rfl<|l_nil<|x_mid (true, ()) rfl ⟨rfl, rfl, rfl, rfl, trivial⟩ (.nil _)
                      · exact l_po ⟨_, rfl, _, rfl, h43⟩ (po_mov (.t rfl)) rfl<|l_po ⟨_, rfl, _, rfl, h43⟩ (po_eq (.t rfl) (ev_y _)) rfl<|l_p (po_pickf (t := rd kBool (u19 == 45)) (.t rfl) h43 (.t rfl)) rfl<|l_nil<|x_mid ((u19 == 45), ()) rfl ⟨rfl, rfl, rfl, rfl, trivial⟩ (.nil _)
                    · refine l_p (po_not (.t rfl)) rfl<|l_nil<|x_tn<|c_if rfl (fun h44 => ?_) (fun h44 => ?_)
                      · exact c_seq<|c_reg<|l_p (po_asg (.b _)) rfl<|l_nil<|x_tn<|c_ret<|x_br<|x_tr<|x_mr<|x_br<|x_tr<|x_ret1 rfl (.t rfl)
                      · exact c_skip<|x_bn<|x_tn<|c_reg<|l_p (po_mov (.t rfl)) rfl<|l_p (po_add (.t rfl) (ev_i _)) rfl<|l_p (po_asg (.t rfl)) rfl<|l_nil<|x_mid ((s15.1, (IntKind.wrap .i64 (s15.2 + 1))), ()) rfl ⟨rfl, rfl, rfl, trivial⟩ (.nil _)
          · exact c_exit<|x_te<|x_me<|x_be<|x_tn<|c_seq<|c_reg<|l_p (po_asg (.b _)) rfl<|l_nil<|x_tn<|c_ret<|x_ret1 rfl (.t rfl)
end Go.Proofs.YtojgddnefopdjaaGreatDoor
namespace Go.Proofs.YtojgddnefopdjaaGreatDoor
open Go.RowKit
set_option linter.unusedVariables false
set_option maxRecDepth 20000
noncomputable def hr2_At (a0 : Vol) (a1 : Int) : Option Int :=
  rep (fun (s3 : (Int × Int)) k2 => if (decide (s3.2 < ((Vol.files a0).length : Int))) = true then ((at? (Vol.files a0) s3.2).bind (fun u7 => if ((File.iD u7) == a1) = true then (some s3.2) else (k2 (s3.1, (IntKind.wrap .i64 (s3.2 + 1)))))) else (some (-1))) FUEL (0, 0)
theorem c_hr2_At (a0 : Vol) (a1 : Int) : Ct Tryz.prog 250 [rd kVol a0, rd kInt a1] (hr2_At a0 a1) (fun r => rd kInt r) := by
  unfold hr2_At
  refine enter Tryz.func250 rfl Tryz.ntmps250 rfl (by kernel_rfl) fun z => c_seq<|c_reg<|l_box (.t rfl) rfl fun g1 => l_p (po_asg (ev_i _)) rfl<|l_nil<|x_tn<|c_seq<|c_seq<|c_reg<|l_p (po_asg (ev_i _)) rfl<|l_nil<|x_tn<|c_blk<|c_loop (fun (s3 : (Int × Int)) (e4 : Unit) => [(1, rd kInt a1), (2, own g1 0), (4, rd kInt s3.1), (5, rd kInt s3.2)]) (fun (s3 : (Int × Int)) (e4 : Unit) => [(some g1, box kVol a0)]) () ⟨rfl, rfl, rfl, rfl, trivial⟩ (.c (.nil _)) fun s3 e4 k2 => c_seq<|c_seq<|c_reg<|l_p (po_mov (.t rfl)) rfl<|l_p (po_fo (.t rfl) fs108_3) rfl<|l_p (po_lo 0 (.t rfl) rfl F_Vol_files ty106) rfl<|l_p (po_len (ty := 0) (.t rfl) sl106) rfl<|l_p (po_lt (.t rfl) (.t rfl)) rfl<|l_nil<|x_tn<|c_if rfl (fun h5 => ?_) (fun h5 => ?_)
  · refine c_skip<|x_tn<|c_seq<|c_blk<|c_seq<|c_reg<|l_p (po_fo (.t rfl) fs108_3) rfl<|l_p (po_lo 0 (.t rfl) rfl F_Vol_files ty106) rfl<|l_p (po_mov (.t rfl)) rfl<|l_bind fun u7 h6 => l_p (po_ia (.t rfl) (.t rfl) h6 sl106) rfl<|l_p (po_fa (.t rfl) fs105_0 F_File_iD) rfl<|l_p (po_la (.t rfl) ty3) rfl<|l_p (po_mov (.t rfl)) rfl<|l_p (po_eq (.t rfl) (.t rfl)) rfl<|l_nil<|x_tn<|c_if rfl (fun h8 => ?_) (fun h8 => ?_)
    · exact c_seq<|c_reg<|l_p (po_mov (.t rfl)) rfl<|l_p (po_asg (.t rfl)) rfl<|l_nil<|x_tn<|c_ret<|x_br<|x_tr<|x_mr<|x_br<|x_tr<|x_ret1 rfl (.t rfl)
    · exact c_skip<|x_bn<|x_tn<|c_reg<|l_p (po_mov (.t rfl)) rfl<|l_p (po_add (.t rfl) (ev_i _)) rfl<|l_p (po_asg (.t rfl)) rfl<|l_nil<|x_mid ((s3.1, (IntKind.wrap .i64 (s3.2 + 1))), ()) rfl ⟨rfl, rfl, rfl, rfl, trivial⟩ (.c (.nil _))
  · exact c_exit<|x_te<|x_me<|x_be<|x_tn<|c_seq<|c_reg<|l_p (po_asg (ev_i _)) rfl<|l_nil<|x_tn<|c_ret<|x_ret1 rfl (.t rfl)
noncomputable def hr2_Links (a0 : Vol) (a1 : Int) : Option Int :=
  rep (fun (s3 : (Int × Int)) k2 => if (decide (s3.2 < ((Vol.files a0).length : Int))) = true then (rep (fun (s7 : (Int × Int)) k6 => (at? (Vol.files a0) s3.2).bind (fun u10 => if (decide (s7.2 < ((File.list u10).length : Int))) = true then (jn (fun (s13 : Int) => k6 (s13, (IntKind.wrap .i64 (s7.2 + 1)))) (fun k12 => (at? (Vol.files a0) s3.2).bind (fun u16 => (at? (File.list u16) s7.2).bind (fun u18 => if ((Link.iD u18) == a1) = true then (k12 (IntKind.wrap .i64 (s7.1 + 1))) else (k12 s7.1))))) else (k2 (s7.1, (IntKind.wrap .i64 (s3.2 + 1)))))) FUEL (s3.1, 0)) else (some s3.1)) FUEL (0, 0)
theorem c_hr2_Links (a0 : Vol) (a1 : Int) : Ct Tryz.prog 198 [rd kVol a0, rd kInt a1] (hr2_Links a0 a1) (fun r => rd kInt r) := by
  unfold hr2_Links
  refine enter Tryz.func198 rfl Tryz.ntmps198 rfl (by kernel_rfl) fun z => c_seq<|c_reg<|l_box (.t rfl) rfl fun g1 => l_p (po_asg (ev_i _)) rfl<|l_nil<|x_tn<|c_seq<|c_reg<|l_p (po_asg (ev_i _)) rfl<|l_nil<|x_tn<|c_seq<|c_seq<|c_reg<|l_p (po_asg (ev_i _)) rfl<|l_nil<|x_tn<|c_blk<|c_loop (fun (s3 : (Int × Int)) (e4 : Unit) => [(1, rd kInt a1), (2, own g1 0), (4, rd kInt 0), (5, rd kInt s3.1), (6, rd kInt s3.2)]) (fun (s3 : (Int × Int)) (e4 : Unit) => [(some g1, box kVol a0)]) () ⟨rfl, rfl, rfl, rfl, rfl, trivial⟩ (.c (.nil _)) fun s3 e4 k2 => c_seq<|c_seq<|c_reg<|l_p (po_mov (.t rfl)) rfl<|l_p (po_fo (.t rfl) fs108_3) rfl<|l_p (po_lo 0 (.t rfl) rfl F_Vol_files ty106) rfl<|l_p (po_len (ty := 0) (.t rfl) sl106) rfl<|l_p (po_lt (.t rfl) (.t rfl)) rfl<|l_nil<|x_tn<|c_if rfl (fun h5 => ?_) (fun h5 => ?_)
  · refine c_skip<|x_tn<|c_seq<|c_blk<|c_seq<|c_reg<|l_p (po_asg (ev_i _)) rfl<|l_nil<|x_tn<|c_blk<|c_loop (fun (s7 : (Int × Int)) (e8 : Unit) => [(1, rd kInt a1), (2, own g1 0), (4, rd kInt 0), (5, rd kInt s7.1), (6, rd kInt s3.2), (7, rd kInt s7.2)]) (fun (s7 : (Int × Int)) (e8 : Unit) => [(some g1, box kVol a0)]) () ⟨rfl, rfl, rfl, rfl, rfl, rfl, trivial⟩ (.c (.nil _)) fun s7 e8 k6 => c_seq<|c_seq<|c_reg<|l_p (po_mov (.t rfl)) rfl<|l_p (po_fo (.t rfl) fs108_3) rfl<|l_p (po_lo 0 (.t rfl) rfl F_Vol_files ty106) rfl<|l_p (po_mov (.t rfl)) rfl<|l_bind fun u10 h9 => l_p (po_ia (.t rfl) (.t rfl) h9 sl106) rfl<|l_p (po_fa (.t rfl) fs105_4 F_File_list) rfl<|l_p (po_la (.t rfl) ty103) rfl<|l_p (po_len (ty := 0) (.t rfl) sl103) rfl<|l_p (po_lt (.t rfl) (.t rfl)) rfl<|l_nil<|x_tn<|c_if rfl (fun h11 => ?_) (fun h11 => ?_)
    · refine c_skip<|x_tn<|c_jn (fun (s13 : Int) (e14 : Unit) => [(1, rd kInt a1), (2, own g1 0), (4, rd kInt 0), (6, rd kInt s3.2), (7, rd kInt s7.2), (5, rd kInt s13)]) (fun (s13 : Int) (e14 : Unit) => [(some g1, box kVol a0)]) (fun k12 => ?_) (fun s13 e14 => ?_)
      · refine c_blk<|c_seq<|c_reg<|l_p (po_fo (.t rfl) fs108_3) rfl<|l_p (po_lo 0 (.t rfl) rfl F_Vol_files ty106) rfl<|l_p (po_mov (.t rfl)) rfl<|l_bind fun u16 h15 => l_p (po_ia (.t rfl) (.t rfl) h15 sl106) rfl<|l_p (po_fa (.t rfl) fs105_4 F_File_list) rfl<|l_p (po_la (.t rfl) ty103) rfl<|l_p (po_mov (.t rfl)) rfl<|l_bind fun u18 h17 => l_p (po_ia (.t rfl) (.t rfl) h17 sl103) rfl<|l_p (po_fa (.t rfl) fs186_1 F_Link_iD) rfl<|l_p (po_la (.t rfl) ty3) rfl<|l_p (po_mov (.t rfl)) rfl<|l_p (po_eq (.t rfl) (.t rfl)) rfl<|l_nil<|x_tn<|c_if rfl (fun h19 => ?_) (fun h19 => ?_)
        · exact c_reg<|l_p (po_mov (.t rfl)) rfl<|l_p (po_add (.t rfl) (ev_i _)) rfl<|l_p (po_asg (.t rfl)) rfl<|l_nil<|x_bn<|x_mid ((IntKind.wrap .i64 (s7.1 + 1)), ()) rfl ⟨rfl, rfl, rfl, rfl, rfl, rfl, trivial⟩ (.c (.nil _))
        · exact c_skip<|x_bn<|x_mid (s7.1, ()) rfl ⟨rfl, rfl, rfl, rfl, rfl, rfl, trivial⟩ (.c (.nil _))
      · exact c_reg<|l_p (po_mov (.t rfl)) rfl<|l_p (po_add (.t rfl) (ev_i _)) rfl<|l_p (po_asg (.t rfl)) rfl<|l_nil<|x_mid ((s13, (IntKind.wrap .i64 (s7.2 + 1))), ()) rfl ⟨rfl, rfl, rfl, rfl, rfl, rfl, trivial⟩ (.c (.nil _))
    · exact c_exit<|x_te<|x_me<|x_be<|x_bn<|x_tn<|c_reg<|l_p (po_mov (.t rfl)) rfl<|l_p (po_add (.t rfl) (ev_i _)) rfl<|l_p (po_asg (.t rfl)) rfl<|l_nil<|x_mid ((s7.1, (IntKind.wrap .i64 (s3.2 + 1))), ()) rfl ⟨rfl, rfl, rfl, rfl, rfl, trivial⟩ (.c (.nil _))
  · exact c_exit<|x_te<|x_me<|x_be<|x_tn<|c_seq<|c_reg<|l_p (po_mov (.t rfl)) rfl<|l_p (po_asg (.t rfl)) rfl<|l_nil<|x_tn<|c_ret<|x_ret1 rfl (.t rfl)
noncomputable def hr5_At (a0 : (List Vol)) (a1 : Int) : Option Int :=
  rep (fun (s2 : (Int × Int)) k1 => if (decide (s2.2 < (a0.length : Int))) = true then ((at? a0 s2.2).bind (fun u6 => if ((Vol.iD u6) == a1) = true then (some s2.2) else (k1 (s2.1, (IntKind.wrap .i64 (s2.2 + 1)))))) else (some (-1))) FUEL (0, 0)
theorem c_hr5_At (a0 : (List Vol)) (a1 : Int) : Ct Tryz.prog 133 [rd (kSl kVol) a0, rd kInt a1] (hr5_At a0 a1) (fun r => rd kInt r) := by
  unfold hr5_At
  refine enter Tryz.func133 rfl Tryz.ntmps133 rfl (by kernel_rfl) fun z => c_seq<|c_reg<|l_p (po_asg (ev_i _)) rfl<|l_nil<|x_tn<|c_seq<|c_seq<|c_reg<|l_p (po_asg (ev_i _)) rfl<|l_nil<|x_tn<|c_blk<|c_loop (fun (s2 : (Int × Int)) (e3 : Unit) => [(0, rd (kSl kVol) a0), (1, rd kInt a1), (4, rd kInt s2.1), (5, rd kInt s2.2)]) (fun (s2 : (Int × Int)) (e3 : Unit) => []) () ⟨rfl, rfl, rfl, rfl, trivial⟩ (.nil _) fun s2 e3 k1 => c_seq<|c_seq<|c_reg<|l_p (po_mov (.t rfl)) rfl<|l_p (po_mov (.t rfl)) rfl<|l_p (po_len (ty := 0) (.t rfl) sl28) rfl<|l_p (po_lt (.t rfl) (.t rfl)) rfl<|l_nil<|x_tn<|c_if rfl (fun h4 => ?_) (fun h4 => ?_)
  · refine c_skip<|x_tn<|c_seq<|c_blk<|c_seq<|c_reg<|l_p (po_mov (.t rfl)) rfl<|l_p (po_mov (.t rfl)) rfl<|l_bind fun u6 h5 => l_p (po_ia (.t rfl) (.t rfl) h5 sl28) rfl<|l_p (po_fa (.t rfl) fs108_0 F_Vol_iD) rfl<|l_p (po_la (.t rfl) ty3) rfl<|l_p (po_mov (.t rfl)) rfl<|l_p (po_eq (.t rfl) (.t rfl)) rfl<|l_nil<|x_tn<|c_if rfl (fun h7 => ?_) (fun h7 => ?_)
    · exact c_seq<|c_reg<|l_p (po_mov (.t rfl)) rfl<|l_p (po_asg (.t rfl)) rfl<|l_nil<|x_tn<|c_ret<|x_br<|x_tr<|x_mr<|x_br<|x_tr<|x_ret1 rfl (.t rfl)
    · exact c_skip<|x_bn<|x_tn<|c_reg<|l_p (po_mov (.t rfl)) rfl<|l_p (po_add (.t rfl) (ev_i _)) rfl<|l_p (po_asg (.t rfl)) rfl<|l_nil<|x_mid ((s2.1, (IntKind.wrap .i64 (s2.2 + 1))), ()) rfl ⟨rfl, rfl, rfl, rfl, trivial⟩ (.nil _)
  · exact c_exit<|x_te<|x_me<|x_be<|x_tn<|c_seq<|c_reg<|l_p (po_asg (ev_i _)) rfl<|l_nil<|x_tn<|c_ret<|x_ret1 rfl (.t rfl)
noncomputable def hr12_Blocks (a0 : (List Block)) : Option Bool :=
  rep (fun (s2 : (Bool × Int)) k1 => if (decide (s2.2 < (a0.length : Int))) = true then ((at? a0 s2.2).bind (fun u6 => jn (fun (b8 : Bool) => jn (fun (b20 : Bool) => if b20 = true then (some false) else (k1 (s2.1, (IntKind.wrap .i64 (s2.2 + 1))))) (fun k19 => if b8 = true then (k19 true) else ((at? a0 s2.2).bind (fun u24 => k19 (((Block.text u24).size : Int) != 32))))) (fun k7 => if (decide ((Block.iD u6) < 0)) = true then (k7 true) else (jn (fun (b12 : Bool) => k7 b12) (fun k11 => if (decide (s2.2 > 0)) = true then ((at? a0 (IntKind.wrap .i64 (s2.2 - 1))).bind (fun u16 => (at? a0 s2.2).bind (fun u18 => k11 (decide ((Block.iD u16) ≥ (Block.iD u18)))))) else (k11 false)))))) else (some true)) FUEL (false, 0)
theorem c_hr12_Blocks (a0 : (List Block)) : Ct Tryz.prog 74 [rd (kSl kBlock) a0] (hr12_Blocks a0) (fun r => rd kBool r) := by
  unfold hr12_Blocks
  refine enter Tryz.func74 rfl Tryz.ntmps74 rfl (by kernel_rfl) fun z => c_seq<|c_reg<|l_p (po_asg (.b _)) rfl<|l_nil<|x_tn<|c_seq<|c_seq<|c_reg<|l_p (po_asg (ev_i _)) rfl<|l_nil<|x_tn<|c_blk<|c_loop (fun (s2 : (Bool × Int)) (e3 : Unit) => [(0, rd (kSl kBlock) a0), (2, rd kBool s2.1), (3, rd kInt s2.2)]) (fun (s2 : (Bool × Int)) (e3 : Unit) => []) () ⟨rfl, rfl, rfl, trivial⟩ (.nil _) fun s2 e3 k1 => c_seq<|c_seq<|c_reg<|l_p (po_mov (.t rfl)) rfl<|l_p (po_mov (.t rfl)) rfl<|l_p (po_len (ty := 0) (.t rfl) sl29) rfl<|l_p (po_lt (.t rfl) (.t rfl)) rfl<|l_nil<|x_tn<|c_if rfl (fun h4 => ?_) (fun h4 => ?_)
  · refine c_skip<|x_tn<|c_seq<|c_blk<|c_seq<|c_draw [0, 1, 2, 3, 4, 5, 6, 7, 8, 9, 10, 11, 12, 13, 14, 15, 16, 17, 18, 19, 20, 21, 22, 23, 24, 25, 26, 27, 28, 29, 30, 31, 32] [] [] (by kernel_rfl) (by kernel_rfl)<|w_p rfl rfl (po_mov (.t rfl)) rfl<|w_p rfl rfl (po_mov (.t rfl)) rfl<|w_bind fun u6 h5 => w_p rfl rfl (po_ia (.t rfl) (.t rfl) h5 sl29) rfl<|w_p rfl rfl (po_fa (.t rfl) fs82_0 F_Block_iD) rfl<|w_p rfl rfl (po_la (.t rfl) ty3) rfl<|w_p rfl rfl (po_lt (.t rfl) (ev_i _)) rfl<|w_p rfl rfl (po_mov (.t rfl)) rfl<|w_jn 17 (fun (b8 : Bool) (e9 : Unit) => [(0, rd (kSl kBlock) a0), (2, rd kBool s2.1), (3, rd kInt s2.2), (33, rd kBool b8)]) (fun (b8 : Bool) (e9 : Unit) => []) (fun k7 => ?_) (fun b8 e9 => ?_)
    · refine w_if (fun h10 => ?_) (fun h10 => ?_)
      · exact w_skip rfl ⟨_, rfl, .inl ⟨_, rfl, ne_f h10⟩⟩ rfl<|w_skip rfl ⟨_, rfl, .inl ⟨_, rfl, ne_f h10⟩⟩ rfl<|w_skip rfl ⟨_, rfl, .inl ⟨_, rfl, ne_f h10⟩⟩ rfl<|w_skip rfl ⟨_, rfl, .inr rfl⟩ rfl<|w_skip rfl ⟨_, rfl, .inr rfl⟩ rfl<|w_skip rfl ⟨_, rfl, .inr rfl⟩ rfl<|w_skip rfl ⟨_, rfl, .inr rfl⟩ rfl<|w_skip rfl ⟨_, rfl, .inr rfl⟩ rfl<|w_skip rfl ⟨_, rfl, .inr rfl⟩ rfl<|w_skip rfl ⟨_, rfl, .inr rfl⟩ rfl<|w_skip rfl ⟨_, rfl, .inr rfl⟩ rfl<|w_skip rfl ⟨_, rfl, .inr rfl⟩ rfl<|w_skip rfl ⟨_, rfl, .inr rfl⟩ rfl<|w_skip rfl ⟨_, rfl, .inr rfl⟩ rfl<|w_skip rfl ⟨_, rfl, .inr rfl⟩ rfl<|w_skip rfl ⟨_, rfl, .inl ⟨_, rfl, ne_f h10⟩⟩ rfl<|w_p rfl rfl (po_pickt (t := rd kBool true) (.t rfl) h10 (.b _)) rfl<|w_nil<|x_mid (true, ()) rfl ⟨rfl, rfl, rfl, rfl, trivial⟩ (.nil _)
      · refine w_po rfl rfl ⟨_, rfl, _, rfl, h10⟩ (po_mov (.t rfl)) rfl<|w_po rfl rfl ⟨_, rfl, _, rfl, h10⟩ (po_gt (.t rfl) (ev_i _)) rfl<|w_po rfl rfl ⟨_, rfl, _, rfl, h10⟩ (po_mov (.t rfl)) rfl<|w_jn 13 (fun (b12 : Bool) (e13 : Unit) => [(0, rd (kSl kBlock) a0), (2, rd kBool s2.1), (3, rd kInt s2.2), (16, rd kBool (decide ((Block.iD u6) < 0))), (32, rd kBool b12)]) (fun (b12 : Bool) (e13 : Unit) => []) (fun k11 => ?_) (fun b12 e13 => ?_)
        · refine w_if (fun h14 => ?_) (fun h14 => ?_)
          · exact w_po rfl rfl ⟨_, rfl, _, rfl, h14⟩ (po_mov (.t rfl)) rfl<|w_po rfl rfl ⟨_, rfl, _, rfl, h14⟩ (po_mov (.t rfl)) rfl<|w_po rfl rfl ⟨_, rfl, _, rfl, h14⟩ (po_sub (.t rfl) (ev_i _)) rfl<|w_bind fun u16 h15 => w_po rfl rfl ⟨_, rfl, _, rfl, h14⟩ (po_ia (.t rfl) (.t rfl) h15 sl29) rfl<|w_po rfl rfl ⟨_, rfl, _, rfl, h14⟩ (po_fa (.t rfl) fs82_0 F_Block_iD) rfl<|w_po rfl rfl ⟨_, rfl, _, rfl, h14⟩ (po_la (.t rfl) ty3) rfl<|w_po rfl rfl ⟨_, rfl, _, rfl, h14⟩ (po_mov (.t rfl)) rfl<|w_po rfl rfl ⟨_, rfl, _, rfl, h14⟩ (po_mov (.t rfl)) rfl<|w_bind fun u18 h17 => w_po rfl rfl ⟨_, rfl, _, rfl, h14⟩ (po_ia (.t rfl) (.t rfl) h17 sl29) rfl<|w_po rfl rfl ⟨_, rfl, _, rfl, h14⟩ (po_fa (.t rfl) fs82_0 F_Block_iD) rfl<|w_po rfl rfl ⟨_, rfl, _, rfl, h14⟩ (po_la (.t rfl) ty3) rfl<|w_po rfl rfl ⟨_, rfl, _, rfl, h14⟩ (po_ge (.t rfl) (.t rfl)) rfl<|w_po rfl rfl ⟨_, rfl, _, rfl, h10⟩ (po_pickt (t := rd kBool (decide ((Block.iD u16) ≥ (Block.iD u18)))) (.t rfl) h14 (.t rfl)) rfl<|w_nil<|x_mid ((decide ((Block.iD u16) ≥ (Block.iD u18))), ()) rfl ⟨rfl, rfl, rfl, rfl, rfl, trivial⟩ (.nil _)
          · exact w_skip rfl ⟨_, rfl, .inl ⟨_, rfl, ne_t h14⟩⟩ rfl<|w_skip rfl ⟨_, rfl, .inl ⟨_, rfl, ne_t h14⟩⟩ rfl<|w_skip rfl ⟨_, rfl, .inl ⟨_, rfl, ne_t h14⟩⟩ rfl<|w_skip rfl ⟨_, rfl, .inl ⟨_, rfl, ne_t h14⟩⟩ rfl<|w_skip rfl ⟨_, rfl, .inl ⟨_, rfl, ne_t h14⟩⟩ rfl<|w_skip rfl ⟨_, rfl, .inl ⟨_, rfl, ne_t h14⟩⟩ rfl<|w_skip rfl ⟨_, rfl, .inl ⟨_, rfl, ne_t h14⟩⟩ rfl<|w_skip rfl ⟨_, rfl, .inl ⟨_, rfl, ne_t h14⟩⟩ rfl<|w_skip rfl ⟨_, rfl, .inl ⟨_, rfl, ne_t h14⟩⟩ rfl<|w_skip rfl ⟨_, rfl, .inl ⟨_, rfl, ne_t h14⟩⟩ rfl<|w_skip rfl ⟨_, rfl, .inl ⟨_, rfl, ne_t h14⟩⟩ rfl<|w_skip rfl ⟨_, rfl, .inl ⟨_, rfl, ne_t h14⟩⟩ rfl<|w_po rfl rfl ⟨_, rfl, _, rfl, h10⟩ (po_pickf (t := rd kBool false) (.t rfl) h14 (.b _)) rfl<|w_nil<|x_mid (false, ()) rfl ⟨rfl, rfl, rfl, rfl, rfl, trivial⟩ (.nil _)
        · exact w_p rfl rfl (po_pickf (t := rd kBool b12) (.t rfl) h10 (.t rfl)) rfl<|w_nil<|x_mid (b12, ()) rfl ⟨rfl, rfl, rfl, rfl, trivial⟩ (.nil _)
    · refine w_p rfl rfl (po_mov (.t rfl)) rfl<|w_jn 8 (fun (b20 : Bool) (e21 : Unit) => [(0, rd (kSl kBlock) a0), (2, rd kBool s2.1), (3, rd kInt s2.2), (42, rd kBool b20)]) (fun (b20 : Bool) (e21 : Unit) => []) (fun k19 => ?_) (fun b20 e21 => ?_)
      · refine w_if (fun h22 => ?_) (fun h22 => ?_)
        · exact w_skip rfl ⟨_, rfl, .inl ⟨_, rfl, ne_f h22⟩⟩ rfl<|w_skip rfl ⟨_, rfl, .inl ⟨_, rfl, ne_f h22⟩⟩ rfl<|w_skip rfl ⟨_, rfl, .inl ⟨_, rfl, ne_f h22⟩⟩ rfl<|w_skip rfl ⟨_, rfl, .inl ⟨_, rfl, ne_f h22⟩⟩ rfl<|w_skip rfl ⟨_, rfl, .inl ⟨_, rfl, ne_f h22⟩⟩ rfl<|w_skip rfl ⟨_, rfl, .inl ⟨_, rfl, ne_f h22⟩⟩ rfl<|w_skip rfl ⟨_, rfl, .inl ⟨_, rfl, ne_f h22⟩⟩ rfl<|w_p rfl rfl (po_pickt (t := rd kBool true) (.t rfl) h22 (.b _)) rfl<|w_nil<|x_mid (true, ()) rfl ⟨rfl, rfl, rfl, rfl, trivial⟩ (.nil _)
        · exact w_po rfl rfl ⟨_, rfl, _, rfl, h22⟩ (po_mov (.t rfl)) rfl<|w_po rfl rfl ⟨_, rfl, _, rfl, h22⟩ (po_mov (.t rfl)) rfl<|w_bind fun u24 h23 => w_po rfl rfl ⟨_, rfl, _, rfl, h22⟩ (po_ia (.t rfl) (.t rfl) h23 sl29) rfl<|w_po rfl rfl ⟨_, rfl, _, rfl, h22⟩ (po_fa (.t rfl) fs82_2 F_Block_text) rfl<|w_po rfl rfl ⟨_, rfl, _, rfl, h22⟩ (po_la (.t rfl) ty9) rfl<|w_po rfl rfl ⟨_, rfl, _, rfl, h22⟩ (po_lens (.t rfl) un9) rfl<|w_po rfl rfl ⟨_, rfl, _, rfl, h22⟩ (po_ne (.t rfl) (ev_i _)) rfl<|w_p rfl rfl (po_pickf (t := rd kBool (((Block.text u24).size : Int) != 32)) (.t rfl) h22 (.t rfl)) rfl<|w_nil<|x_mid ((((Block.text u24).size : Int) != 32), ()) rfl ⟨rfl, rfl, rfl, rfl, trivial⟩ (.nil _)
      · refine w_nil<|x_tn<|c_if rfl (fun h25 => ?_) (fun h25 => ?_)
        · exact c_seq<|c_reg<|l_p (po_asg (.b _)) rfl<|l_nil<|x_tn<|c_ret<|x_br<|x_tr<|x_mr<|x_br<|x_tr<|x_ret1 rfl (.t rfl)
        · exact c_skip<|x_bn<|x_tn<|c_reg<|l_p (po_mov (.t rfl)) rfl<|l_p (po_add (.t rfl) (ev_i _)) rfl<|l_p (po_asg (.t rfl)) rfl<|l_nil<|x_mid ((s2.1, (IntKind.wrap .i64 (s2.2 + 1))), ()) rfl ⟨rfl, rfl, rfl, trivial⟩ (.nil _)
  · exact c_exit<|x_te<|x_me<|x_be<|x_tn<|c_seq<|c_reg<|l_p (po_asg (.b _)) rfl<|l_nil<|x_tn<|c_ret<|x_ret1 rfl (.t rfl)
noncomputable def hr0_EqNumbers (a0 : (List Int)) (a1 : (List Int)) : Option Bool :=
  if ((a0.length : Int) != (a1.length : Int)) = true then (some false) else (rep (fun (s3 : (Bool × Int)) k2 => if (decide (s3.2 < (a0.length : Int))) = true then ((at? a0 s3.2).bind (fun u7 => (at? a1 s3.2).bind (fun u9 => if (u7 != u9) = true then (some false) else (k2 (s3.1, (IntKind.wrap .i64 (s3.2 + 1))))))) else (some true)) FUEL (false, 0))
theorem c_hr0_EqNumbers (a0 : (List Int)) (a1 : (List Int)) : Ct Tryz.prog 76 [rd (kSl kInt) a0, rd (kSl kInt) a1] (hr0_EqNumbers a0 a1) (fun r => rd kBool r) := by
  unfold hr0_EqNumbers
  refine enter Tryz.func76 rfl Tryz.ntmps76 rfl (by kernel_rfl) fun z => c_seq<|c_reg<|l_p (po_asg (.b _)) rfl<|l_nil<|x_tn<|c_seq<|c_seq<|c_reg<|l_p (po_mov (.t rfl)) rfl<|l_p (po_len (ty := 0) (.t rfl) sl24) rfl<|l_p (po_mov (.t rfl)) rfl<|l_p (po_len (ty := 0) (.t rfl) sl24) rfl<|l_p (po_ne (.t rfl) (.t rfl)) rfl<|l_nil<|x_tn<|c_if rfl (fun h1 => ?_) (fun h1 => ?_)
  · exact c_seq<|c_reg<|l_p (po_asg (.b _)) rfl<|l_nil<|x_tn<|c_ret<|x_tr<|x_ret1 rfl (.t rfl)
  · refine c_skip<|x_tn<|c_seq<|c_seq<|c_reg<|l_p (po_asg (ev_i _)) rfl<|l_nil<|x_tn<|c_blk<|c_loop (fun (s3 : (Bool × Int)) (e4 : Unit) => [(0, rd (kSl kInt) a0), (1, rd (kSl kInt) a1), (4, rd kBool s3.1), (5, rd kInt s3.2)]) (fun (s3 : (Bool × Int)) (e4 : Unit) => []) () ⟨rfl, rfl, rfl, rfl, trivial⟩ (.nil _) fun s3 e4 k2 => c_seq<|c_seq<|c_reg<|l_p (po_mov (.t rfl)) rfl<|l_p (po_mov (.t rfl)) rfl<|l_p (po_len (ty := 0) (.t rfl) sl24) rfl<|l_p (po_lt (.t rfl) (.t rfl)) rfl<|l_nil<|x_tn<|c_if rfl (fun h5 => ?_) (fun h5 => ?_)
    · refine c_skip<|x_tn<|c_seq<|c_blk<|c_seq<|c_draw [0, 1, 2, 3, 4, 5, 6, 7, 8] [] [] (by kernel_rfl) (by kernel_rfl)<|w_p rfl rfl (po_mov (.t rfl)) rfl<|w_p rfl rfl (po_mov (.t rfl)) rfl<|w_bind fun u7 h6 => w_p rfl rfl (po_ia (.t rfl) (.t rfl) h6 sl24) rfl<|w_p rfl rfl (po_la (.t rfl) ty3) rfl<|w_p rfl rfl (po_mov (.t rfl)) rfl<|w_p rfl rfl (po_mov (.t rfl)) rfl<|w_bind fun u9 h8 => w_p rfl rfl (po_ia (.t rfl) (.t rfl) h8 sl24) rfl<|w_p rfl rfl (po_la (.t rfl) ty3) rfl<|w_p rfl rfl (po_ne (.t rfl) (.t rfl)) rfl<|w_nil<|x_tn<|c_if rfl (fun h10 => ?_) (fun h10 => ?_)
      · exact c_seq<|c_reg<|l_p (po_asg (.b _)) rfl<|l_nil<|x_tn<|c_ret<|x_br<|x_tr<|x_mr<|x_br<|x_tr<|x_ret1 rfl (.t rfl)
      · exact c_skip<|x_bn<|x_tn<|c_reg<|l_p (po_mov (.t rfl)) rfl<|l_p (po_add (.t rfl) (ev_i _)) rfl<|l_p (po_asg (.t rfl)) rfl<|l_nil<|x_mid ((s3.1, (IntKind.wrap .i64 (s3.2 + 1))), ()) rfl ⟨rfl, rfl, rfl, rfl, trivial⟩ (.nil _)
    · exact c_exit<|x_te<|x_me<|x_be<|x_tn<|c_seq<|c_reg<|l_p (po_asg (.b _)) rfl<|l_nil<|x_tn<|c_ret<|x_ret1 rfl (.t rfl)
noncomputable def hr14_ids (a0 : (List Block)) : Option (List Int) :=
  rep (fun (s2 : (Int × (List Int))) k1 => if (decide (s2.1 < (a0.length : Int))) = true then ((at? a0 s2.1).bind (fun u6 => (app s2.2 [(Block.iD u6)]).bind (fun u7 => k1 ((IntKind.wrap .i64 (s2.1 + 1)), u7)))) else (some s2.2)) FUEL (0, [])
theorem c_hr14_ids (a0 : (List Block)) : Ct Tryz.prog 77 [rd (kSl kBlock) a0] (hr14_ids a0) (fun r => rd (kSl kInt) r) := by
  unfold hr14_ids
  refine enter Tryz.func77 rfl Tryz.ntmps77 rfl (by kernel_rfl) fun z => c_seq<|c_reg<|l_p (po_asg (t := rd (kSl kInt) []) (.nil _)) rfl<|l_nil<|x_tn<|c_seq<|c_reg<|l_rnil kInt 3 rfl rfl<|l_nil<|x_tn<|c_seq<|c_seq<|c_reg<|l_p (po_asg (ev_i _)) rfl<|l_nil<|x_tn<|c_blk<|c_loop (fun (s2 : (Int × (List Int))) (e3 : (Option Nat × Nat)) => [(0, rd (kSl kBlock) a0), (2, rd (kSl kInt) []), (3, row kInt s2.2 e3.1 e3.2), (4, rd kInt s2.1)]) (fun (s2 : (Int × (List Int))) (e3 : (Option Nat × Nat)) => [(e3.1, rows kInt 3 s2.2 e3.2)]) (none, 0) ⟨rfl, rfl, rfl, rfl, trivial⟩ (.c (.nil _)) fun s2 e3 k1 => c_seq<|c_seq<|c_reg<|l_p (po_mov (.t rfl)) rfl<|l_p (po_mov (.t rfl)) rfl<|l_p (po_len (ty := 0) (.t rfl) sl29) rfl<|l_p (po_lt (.t rfl) (.t rfl)) rfl<|l_nil<|x_tn<|c_if rfl (fun h4 => ?_) (fun h4 => ?_)
  · exact c_skip<|x_tn<|c_seq<|c_blk<|c_reg<|l_p (po_mov (.t rfl)) rfl<|l_p (po_mov (.t rfl)) rfl<|l_p (po_mov (.t rfl)) rfl<|l_bind fun u6 h5 => l_p (po_ia (.t rfl) (.t rfl) h5 sl29) rfl<|l_p (po_fa (.t rfl) fs82_0 F_Block_iD) rfl<|l_p (po_la (.t rfl) ty3) rfl<|l_bsl kInt sz24 rfl (.cons (.t rfl) (.nil _)) rfl<|l_app 0 (.t rfl) rfl (.t rfl) ap24 rfl fun u7 o8 c9 => l_p (po_asg (.t rfl)) rfl<|l_nil<|x_bn<|x_tn<|c_reg<|l_p (po_mov (.t rfl)) rfl<|l_p (po_add (.t rfl) (ev_i _)) rfl<|l_p (po_asg (.t rfl)) rfl<|l_nil<|x_mid (((IntKind.wrap .i64 (s2.1 + 1)), u7), (o8, c9)) rfl ⟨rfl, rfl, rfl, rfl, trivial⟩ (.c (.nil _))
  · exact c_exit<|x_te<|x_me<|x_be<|x_tn<|c_seq<|c_reg<|l_p (po_mov (.t rfl)) rfl<|l_p (po_asg (.t rfl)) rfl<|l_nil<|x_tn<|c_ret<|x_frz 2 0 rfl rfl<|x_ret1 rfl (.t rfl)
noncomputable def hr5_Places (a0 : Vol) : Option (List Int) :=
  rep (fun (s3 : (Int × (List Int))) k2 => if (decide (s3.1 < ((Vol.files a0).length : Int))) = true then ((at? (Vol.files a0) s3.1).bind (fun u7 => (app s3.2 (File.blocks u7)).bind (fun u8 => k2 ((IntKind.wrap .i64 (s3.1 + 1)), u8)))) else (some s3.2)) FUEL (0, [])
theorem c_hr5_Places (a0 : Vol) : Ct Tryz.prog 134 [rd kVol a0] (hr5_Places a0) (fun r => rd (kSl kInt) r) := by
  unfold hr5_Places
  refine enter Tryz.func134 rfl Tryz.ntmps134 rfl (by kernel_rfl) fun z => c_seq<|c_reg<|l_box (.t rfl) rfl fun g1 => l_p (po_asg (t := rd (kSl kInt) []) (.nil _)) rfl<|l_nil<|x_tn<|c_seq<|c_reg<|l_rnil kInt 3 rfl rfl<|l_nil<|x_tn<|c_seq<|c_seq<|c_reg<|l_p (po_asg (ev_i _)) rfl<|l_nil<|x_tn<|c_blk<|c_loop (fun (s3 : (Int × (List Int))) (e4 : (Option Nat × Nat)) => [(1, own g1 0), (2, rd (kSl kInt) []), (3, row kInt s3.2 e4.1 e4.2), (4, rd kInt s3.1)]) (fun (s3 : (Int × (List Int))) (e4 : (Option Nat × Nat)) => [(e4.1, rows kInt 3 s3.2 e4.2), (some g1, box kVol a0)]) (none, 0) ⟨rfl, rfl, rfl, rfl, trivial⟩ (.c (.c (.nil _))) fun s3 e4 k2 => c_seq<|c_seq<|c_reg<|l_p (po_mov (.t rfl)) rfl<|l_p (po_fo (.t rfl) fs108_3) rfl<|l_p (po_lo 1 (.t rfl) rfl F_Vol_files ty106) rfl<|l_p (po_len (ty := 0) (.t rfl) sl106) rfl<|l_p (po_lt (.t rfl) (.t rfl)) rfl<|l_nil<|x_tn<|c_if rfl (fun h5 => ?_) (fun h5 => ?_)
  · exact c_skip<|x_tn<|c_seq<|c_blk<|c_reg<|l_p (po_mov (.t rfl)) rfl<|l_p (po_fo (.t rfl) fs108_3) rfl<|l_p (po_lo 1 (.t rfl) rfl F_Vol_files ty106) rfl<|l_p (po_mov (.t rfl)) rfl<|l_bind fun u7 h6 => l_p (po_ia (.t rfl) (.t rfl) h6 sl106) rfl<|l_p (po_fa (.t rfl) fs105_3 F_File_blocks) rfl<|l_p (po_la (.t rfl) ty24) rfl<|l_app 0 (.t rfl) rfl (.t rfl) ap24 rfl fun u8 o9 c10 => l_p (po_asg (.t rfl)) rfl<|l_nil<|x_bn<|x_tn<|c_reg<|l_p (po_mov (.t rfl)) rfl<|l_p (po_add (.t rfl) (ev_i _)) rfl<|l_p (po_asg (.t rfl)) rfl<|l_nil<|x_mid (((IntKind.wrap .i64 (s3.1 + 1)), u8), (o9, c10)) rfl ⟨rfl, rfl, rfl, rfl, trivial⟩ (.c (.c (.nil _)))
  · exact c_exit<|x_te<|x_me<|x_be<|x_tn<|c_seq<|c_reg<|l_p (po_mov (.t rfl)) rfl<|l_p (po_asg (.t rfl)) rfl<|l_nil<|x_tn<|c_ret<|x_frz 2 0 rfl rfl<|x_ret1 rfl (.t rfl)
noncomputable def hr0_Rising (a0 : (List Int)) : Option (List Int) :=
  rep (fun (s2 : (Int × (List Int))) k1 => if (decide (s2.1 < (a0.length : Int))) = true then (jn (fun (s6 : (List Int)) => k1 ((IntKind.wrap .i64 (s2.1 + 1)), s6)) (fun k5 => rep (fun (s9 : Int) k8 => jn (fun (b12 : Bool) => if b12 = true then (k8 (IntKind.wrap .i64 (s9 + 1))) else (jn (fun (b21 : Bool) => if b21 = true then (k5 s2.2) else ((app s2.2 [0]).bind (fun u29 => rep (fun (s33 : (Int × (List Int))) k32 => if (decide (s33.1 > s9)) = true then ((at? s33.2 (IntKind.wrap .i64 (s33.1 - 1))).bind (fun u37 => (at? s33.2 s33.1).bind (fun u39 => k32 ((IntKind.wrap .i64 (s33.1 - 1)), (List.modify s33.2 (Int.toNat s33.1) (fun _ => u37)))))) else ((at? a0 s2.1).bind (fun u41 => (at? s33.2 s9).bind (fun u43 => k5 (List.modify s33.2 (Int.toNat s9) (fun _ => u41)))))) FUEL ((IntKind.wrap .i64 ((u29.length : Int) - 1)), u29)))) (fun k20 => if (decide (s9 < (s2.2.length : Int))) = true then ((at? s2.2 s9).bind (fun u25 => (at? a0 s2.1).bind (fun u27 => k20 (u25 == u27)))) else (k20 false)))) (fun k11 => if (decide (s9 < (s2.2.length : Int))) = true then ((at? s2.2 s9).bind (fun u16 => (at? a0 s2.1).bind (fun u18 => k11 (decide (u16 < u18))))) else (k11 false))) FUEL 0)) else (some s2.2)) FUEL (0, [])
theorem c_hr0_Rising (a0 : (List Int)) : Ct Tryz.prog 135 [rd (kSl kInt) a0] (hr0_Rising a0) (fun r => rd (kSl kInt) r) := by
  unfold hr0_Rising
  refine enter Tryz.func135 rfl Tryz.ntmps135 rfl (by kernel_rfl) fun z => c_seq<|c_reg<|l_p (po_asg (t := rd (kSl kInt) []) (.nil _)) rfl<|l_nil<|x_tn<|c_seq<|c_reg<|l_rnil kInt 3 rfl rfl<|l_nil<|x_tn<|c_seq<|c_seq<|c_reg<|l_p (po_asg (ev_i _)) rfl<|l_nil<|x_tn<|c_blk<|c_loop (fun (s2 : (Int × (List Int))) (e3 : (Option Nat × Nat)) => [(0, rd (kSl kInt) a0), (2, rd (kSl kInt) []), (3, row kInt s2.2 e3.1 e3.2), (4, rd kInt s2.1)]) (fun (s2 : (Int × (List Int))) (e3 : (Option Nat × Nat)) => [(e3.1, rows kInt 3 s2.2 e3.2)]) (none, 0) ⟨rfl, rfl, rfl, rfl, trivial⟩ (.c (.nil _)) fun s2 e3 k1 => c_seq<|c_seq<|c_reg<|l_p (po_mov (.t rfl)) rfl<|l_p (po_mov (.t rfl)) rfl<|l_p (po_len (ty := 0) (.t rfl) sl24) rfl<|l_p (po_lt (.t rfl) (.t rfl)) rfl<|l_nil<|x_tn<|c_if rfl (fun h4 => ?_) (fun h4 => ?_)
  · refine c_skip<|x_tn<|c_jn (fun (s6 : (List Int)) (e7 : (Option Nat × Nat)) => [(0, rd (kSl kInt) a0), (2, rd (kSl kInt) []), (3, row kInt s6 e7.1 e7.2), (4, rd kInt s2.1)]) (fun (s6 : (List Int)) (e7 : (Option Nat × Nat)) => [(e7.1, rows kInt 3 s6 e7.2)]) (fun k5 => ?_) (fun s6 e7 => ?_)
    · refine c_blk<|c_seq<|c_reg<|l_p (po_asg (ev_i _)) rfl<|l_nil<|x_tn<|c_seq<|c_blk<|c_loop (fun (s9 : Int) (e10 : Unit) => [(0, rd (kSl kInt) a0), (2, rd (kSl kInt) []), (3, row kInt s2.2 e3.1 e3.2), (4, rd kInt s2.1), (5, rd kInt s9)]) (fun (s9 : Int) (e10 : Unit) => [(e3.1, rows kInt 3 s2.2 e3.2)]) () ⟨rfl, rfl, rfl, rfl, rfl, trivial⟩ (.c (.nil _)) fun s9 e10 k8 => c_seq<|c_seq<|c_draw [0, 1, 2, 3, 4, 5, 6, 7, 8, 9, 10, 11, 12, 13, 14] [] [] (by kernel_rfl) (by kernel_rfl)<|w_p rfl rfl (po_mov (.t rfl)) rfl<|w_p rfl rfl (po_mov (.t rfl)) rfl<|w_p rfl rfl (po_lenr (.t rfl) sl24) rfl<|w_p rfl rfl (po_lt (.t rfl) (.t rfl)) rfl<|w_p rfl rfl (po_mov (.t rfl)) rfl<|w_jn 10 (fun (b12 : Bool) (e13 : Unit) => [(0, rd (kSl kInt) a0), (2, rd (kSl kInt) []), (3, row kInt s2.2 e3.1 e3.2), (4, rd kInt s2.1), (5, rd kInt s9), (27, rd kBool b12)]) (fun (b12 : Bool) (e13 : Unit) => [(e3.1, rows kInt 3 s2.2 e3.2)]) (fun k11 => ?_) (fun b12 e13 => ?_)
      · refine w_if (fun h14 => ?_) (fun h14 => ?_)
        · exact w_po rfl rfl ⟨_, rfl, _, rfl, h14⟩ (po_mov (.t rfl)) rfl<|w_po rfl rfl ⟨_, rfl, _, rfl, h14⟩ (po_mov (.t rfl)) rfl<|w_bind fun u16 h15 => w_po rfl rfl ⟨_, rfl, _, rfl, h14⟩ (po_iar 0 (.t rfl) rfl (.t rfl) h15 sl24) rfl<|w_po rfl rfl ⟨_, rfl, _, rfl, h14⟩ (po_lor (i := s9) (off := 0) 0 (.t rfl) rfl h15 (Fld.me _) ty3) rfl<|w_po rfl rfl ⟨_, rfl, _, rfl, h14⟩ (po_mov (.t rfl)) rfl<|w_po rfl rfl ⟨_, rfl, _, rfl, h14⟩ (po_mov (.t rfl)) rfl<|w_bind fun u18 h17 => w_po rfl rfl ⟨_, rfl, _, rfl, h14⟩ (po_ia (.t rfl) (.t rfl) h17 sl24) rfl<|w_po rfl rfl ⟨_, rfl, _, rfl, h14⟩ (po_la (.t rfl) ty3) rfl<|w_po rfl rfl ⟨_, rfl, _, rfl, h14⟩ (po_lt (.t rfl) (.t rfl)) rfl<|w_p rfl rfl (po_pickt (t := rd kBool (decide (u16 < u18))) (.t rfl) h14 (.t rfl)) rfl<|w_nil<|x_mid ((decide (u16 < u18)), ()) rfl ⟨rfl, rfl, rfl, rfl, rfl, rfl, trivial⟩ (.c (.nil _))
        · exact w_skip rfl ⟨_, rfl, .inl ⟨_, rfl, ne_t h14⟩⟩ rfl<|w_skip rfl ⟨_, rfl, .inl ⟨_, rfl, ne_t h14⟩⟩ rfl<|w_skip rfl ⟨_, rfl, .inl ⟨_, rfl, ne_t h14⟩⟩ rfl<|w_skip rfl ⟨_, rfl, .inl ⟨_, rfl, ne_t h14⟩⟩ rfl<|w_skip rfl ⟨_, rfl, .inl ⟨_, rfl, ne_t h14⟩⟩ rfl<|w_skip rfl ⟨_, rfl, .inl ⟨_, rfl, ne_t h14⟩⟩ rfl<|w_skip rfl ⟨_, rfl, .inl ⟨_, rfl, ne_t h14⟩⟩ rfl<|w_skip rfl ⟨_, rfl, .inl ⟨_, rfl, ne_t h14⟩⟩ rfl<|w_skip rfl ⟨_, rfl, .inl ⟨_, rfl, ne_t h14⟩⟩ rfl<|w_p rfl rfl (po_pickf (t := rd kBool false) (.t rfl) h14 (.b _)) rfl<|w_nil<|x_mid (false, ()) rfl ⟨rfl, rfl, rfl, rfl, rfl, rfl, trivial⟩ (.c (.nil _))
      · refine w_nil<|x_tn<|c_if rfl (fun h19 => ?_) (fun h19 => ?_)
        · exact c_skip<|x_tn<|c_blk<|c_reg<|l_p (po_mov (.t rfl)) rfl<|l_p (po_add (.t rfl) (ev_i _)) rfl<|l_p (po_asg (.t rfl)) rfl<|l_nil<|x_bn<|x_mid ((IntKind.wrap .i64 (s9 + 1)), ()) rfl ⟨rfl, rfl, rfl, rfl, rfl, trivial⟩ (.c (.nil _))
        · refine c_exit<|x_te<|x_me<|x_be<|x_tn<|c_seq<|c_seq<|c_draw [0, 1, 2, 3, 4, 5, 6, 7, 8, 9, 10, 11, 12, 13, 14] [] [] (by kernel_rfl) (by kernel_rfl)<|w_p rfl rfl (po_mov (.t rfl)) rfl<|w_p rfl rfl (po_mov (.t rfl)) rfl<|w_p rfl rfl (po_lenr (.t rfl) sl24) rfl<|w_p rfl rfl (po_lt (.t rfl) (.t rfl)) rfl<|w_p rfl rfl (po_mov (.t rfl)) rfl<|w_jn 10 (fun (b21 : Bool) (e22 : Unit) => [(0, rd (kSl kInt) a0), (2, rd (kSl kInt) []), (3, row kInt s2.2 e3.1 e3.2), (4, rd kInt s2.1), (5, rd kInt s9), (44, rd kBool b21)]) (fun (b21 : Bool) (e22 : Unit) => [(e3.1, rows kInt 3 s2.2 e3.2)]) (fun k20 => ?_) (fun b21 e22 => ?_)
          · refine w_if (fun h23 => ?_) (fun h23 => ?_)
            · exact w_po rfl rfl ⟨_, rfl, _, rfl, h23⟩ (po_mov (.t rfl)) rfl<|w_po rfl rfl ⟨_, rfl, _, rfl, h23⟩ (po_mov (.t rfl)) rfl<|w_bind fun u25 h24 => w_po rfl rfl ⟨_, rfl, _, rfl, h23⟩ (po_iar 0 (.t rfl) rfl (.t rfl) h24 sl24) rfl<|w_po rfl rfl ⟨_, rfl, _, rfl, h23⟩ (po_lor (i := s9) (off := 0) 0 (.t rfl) rfl h24 (Fld.me _) ty3) rfl<|w_po rfl rfl ⟨_, rfl, _, rfl, h23⟩ (po_mov (.t rfl)) rfl<|w_po rfl rfl ⟨_, rfl, _, rfl, h23⟩ (po_mov (.t rfl)) rfl<|w_bind fun u27 h26 => w_po rfl rfl ⟨_, rfl, _, rfl, h23⟩ (po_ia (.t rfl) (.t rfl) h26 sl24) rfl<|w_po rfl rfl ⟨_, rfl, _, rfl, h23⟩ (po_la (.t rfl) ty3) rfl<|w_po rfl rfl ⟨_, rfl, _, rfl, h23⟩ (po_eq (.t rfl) (.t rfl)) rfl<|w_p rfl rfl (po_pickt (t := rd kBool (u25 == u27)) (.t rfl) h23 (.t rfl)) rfl<|w_nil<|x_mid ((u25 == u27), ()) rfl ⟨rfl, rfl, rfl, rfl, rfl, rfl, trivial⟩ (.c (.nil _))
            · exact w_skip rfl ⟨_, rfl, .inl ⟨_, rfl, ne_t h23⟩⟩ rfl<|w_skip rfl ⟨_, rfl, .inl ⟨_, rfl, ne_t h23⟩⟩ rfl<|w_skip rfl ⟨_, rfl, .inl ⟨_, rfl, ne_t h23⟩⟩ rfl<|w_skip rfl ⟨_, rfl, .inl ⟨_, rfl, ne_t h23⟩⟩ rfl<|w_skip rfl ⟨_, rfl, .inl ⟨_, rfl, ne_t h23⟩⟩ rfl<|w_skip rfl ⟨_, rfl, .inl ⟨_, rfl, ne_t h23⟩⟩ rfl<|w_skip rfl ⟨_, rfl, .inl ⟨_, rfl, ne_t h23⟩⟩ rfl<|w_skip rfl ⟨_, rfl, .inl ⟨_, rfl, ne_t h23⟩⟩ rfl<|w_skip rfl ⟨_, rfl, .inl ⟨_, rfl, ne_t h23⟩⟩ rfl<|w_p rfl rfl (po_pickf (t := rd kBool false) (.t rfl) h23 (.b _)) rfl<|w_nil<|x_mid (false, ()) rfl ⟨rfl, rfl, rfl, rfl, rfl, rfl, trivial⟩ (.c (.nil _))
          · refine w_nil<|x_tn<|c_if rfl (fun h28 => ?_) (fun h28 => ?_)
            · exact c_exit<|x_te<|x_be<|x_mid (s2.2, (e3.1, e3.2)) rfl ⟨rfl, rfl, rfl, rfl, trivial⟩ (.c (.nil _))
            · refine c_skip<|x_tn<|c_seq<|c_reg<|l_p (po_mov (.t rfl)) rfl<|l_bsl kInt sz24 rfl (.cons (ev_i _) (.nil _)) rfl<|l_app 0 (.t rfl) rfl (.t rfl) ap24 rfl fun u29 o30 c31 => l_p (po_asg (.t rfl)) rfl<|l_nil<|x_tn<|c_seq<|c_seq<|c_reg<|l_p (po_mov (.t rfl)) rfl<|l_p (po_lenr (.t rfl) sl24) rfl<|l_p (po_sub (.t rfl) (ev_i _)) rfl<|l_p (po_asg (.t rfl)) rfl<|l_nil<|x_tn<|c_blk<|c_loop (fun (s33 : (Int × (List Int))) (e34 : Unit) => [(0, rd (kSl kInt) a0), (2, rd (kSl kInt) []), (3, row kInt s33.2 o30 c31), (4, rd kInt s2.1), (5, rd kInt s9), (6, rd kInt s33.1)]) (fun (s33 : (Int × (List Int))) (e34 : Unit) => [(o30, rows kInt 3 s33.2 c31)]) () ⟨rfl, rfl, rfl, rfl, rfl, rfl, trivial⟩ (.c (.nil _)) fun s33 e34 k32 => c_seq<|c_seq<|c_reg<|l_p (po_mov (.t rfl)) rfl<|l_p (po_mov (.t rfl)) rfl<|l_p (po_gt (.t rfl) (.t rfl)) rfl<|l_nil<|x_tn<|c_if rfl (fun h35 => ?_) (fun h35 => ?_)
              · exact c_skip<|x_tn<|c_seq<|c_blk<|c_reg<|l_p (po_mov (.t rfl)) rfl<|l_p (po_mov (.t rfl)) rfl<|l_p (po_mov (.t rfl)) rfl<|l_p (po_mov (.t rfl)) rfl<|l_p (po_sub (.t rfl) (ev_i _)) rfl<|l_bind fun u37 h36 => l_p (po_iar 0 (.t rfl) rfl (.t rfl) h36 sl24) rfl<|l_p (po_lor (i := (IntKind.wrap .i64 (s33.1 - 1))) (off := 0) 0 (.t rfl) rfl h36 (Fld.me _) ty3) rfl<|l_bind fun u39 h38 => l_p (po_iar 0 (.t rfl) rfl (.t rfl) h38 sl24) rfl<|l_str (i := s33.1) (off := 0) 0 (.t rfl) (.t rfl) rfl h38 rfl (Fld.me _) ty3<|l_rlen 3 (xs := s33.2) (ys := (List.modify s33.2 (Int.toNat s33.1) (fun _ => u37))) rfl (by simp)<|l_rlen 56 (xs := s33.2) (ys := (List.modify s33.2 (Int.toNat s33.1) (fun _ => u37))) rfl (by simp)<|l_rlen 58 (xs := s33.2) (ys := (List.modify s33.2 (Int.toNat s33.1) (fun _ => u37))) rfl (by simp)<|l_nil<|x_bn<|x_tn<|c_reg<|l_p (po_mov (.t rfl)) rfl<|l_p (po_sub (.t rfl) (ev_i _)) rfl<|l_p (po_asg (.t rfl)) rfl<|l_nil<|x_mid (((IntKind.wrap .i64 (s33.1 - 1)), (List.modify s33.2 (Int.toNat s33.1) (fun _ => u37))), ()) rfl ⟨rfl, rfl, rfl, rfl, rfl, rfl, trivial⟩ (.c (.nil _))
              · exact c_exit<|x_te<|x_me<|x_be<|x_tn<|c_reg<|l_p (po_mov (.t rfl)) rfl<|l_p (po_mov (.t rfl)) rfl<|l_p (po_mov (.t rfl)) rfl<|l_p (po_mov (.t rfl)) rfl<|l_bind fun u41 h40 => l_p (po_ia (.t rfl) (.t rfl) h40 sl24) rfl<|l_p (po_la (.t rfl) ty3) rfl<|l_bind fun u43 h42 => l_p (po_iar 0 (.t rfl) rfl (.t rfl) h42 sl24) rfl<|l_str (i := s9) (off := 0) 0 (.t rfl) (.t rfl) rfl h42 rfl (Fld.me _) ty3<|l_rlen 3 (xs := s33.2) (ys := (List.modify s33.2 (Int.toNat s9) (fun _ => u41))) rfl (by simp)<|l_rlen 64 (xs := s33.2) (ys := (List.modify s33.2 (Int.toNat s9) (fun _ => u41))) rfl (by simp)<|l_nil<|x_bn<|x_mid ((List.modify s33.2 (Int.toNat s9) (fun _ => u41)), (o30, c31)) rfl ⟨rfl, rfl, rfl, rfl, trivial⟩ (.c (.nil _))
    · exact c_reg<|l_p (po_mov (.t rfl)) rfl<|l_p (po_add (.t rfl) (ev_i _)) rfl<|l_p (po_asg (.t rfl)) rfl<|l_nil<|x_mid (((IntKind.wrap .i64 (s2.1 + 1)), s6), (e7.1, e7.2)) rfl ⟨rfl, rfl, rfl, rfl, trivial⟩ (.c (.nil _))
  · exact c_exit<|x_te<|x_me<|x_be<|x_tn<|c_seq<|c_reg<|l_p (po_mov (.t rfl)) rfl<|l_p (po_asg (.t rfl)) rfl<|l_nil<|x_tn<|c_ret<|x_frz 2 0 rfl rfl<|x_ret1 rfl (.t rfl)
end Go.Proofs.YtojgddnefopdjaaGreatDoor
namespace Go.Proofs.YtojgddnefopdjaaGreatDoor
open Go.RowKit
set_option linter.unusedVariables false
set_option maxRecDepth 20000
noncomputable def hr12_At (a0 : (List Block)) (a1 : Int) : Option Int :=
  rep (fun (s2 : (Int × Int)) k1 => if (decide (s2.2 < (a0.length : Int))) = true then ((at? a0 s2.2).bind (fun u6 => if ((Block.iD u6) == a1) = true then (some s2.2) else (k1 (s2.1, (IntKind.wrap .i64 (s2.2 + 1)))))) else (some (-1))) FUEL (0, 0)
theorem c_hr12_At (a0 : (List Block)) (a1 : Int) : Ct Tryz.prog 202 [rd (kSl kBlock) a0, rd kInt a1] (hr12_At a0 a1) (fun r => rd kInt r) := by
  unfold hr12_At
  refine enter Tryz.func202 rfl Tryz.ntmps202 rfl (by kernel_rfl) fun z => c_seq<|c_reg<|l_p (po_asg (ev_i _)) rfl<|l_nil<|x_tn<|c_seq<|c_seq<|c_reg<|l_p (po_asg (ev_i _)) rfl<|l_nil<|x_tn<|c_blk<|c_loop (fun (s2 : (Int × Int)) (e3 : Unit) => [(0, rd (kSl kBlock) a0), (1, rd kInt a1), (4, rd kInt s2.1), (5, rd kInt s2.2)]) (fun (s2 : (Int × Int)) (e3 : Unit) => []) () ⟨rfl, rfl, rfl, rfl, trivial⟩ (.nil _) fun s2 e3 k1 => c_seq<|c_seq<|c_reg<|l_p (po_mov (.t rfl)) rfl<|l_p (po_mov (.t rfl)) rfl<|l_p (po_len (ty := 0) (.t rfl) sl29) rfl<|l_p (po_lt (.t rfl) (.t rfl)) rfl<|l_nil<|x_tn<|c_if rfl (fun h4 => ?_) (fun h4 => ?_)
  · refine c_skip<|x_tn<|c_seq<|c_blk<|c_seq<|c_reg<|l_p (po_mov (.t rfl)) rfl<|l_p (po_mov (.t rfl)) rfl<|l_bind fun u6 h5 => l_p (po_ia (.t rfl) (.t rfl) h5 sl29) rfl<|l_p (po_fa (.t rfl) fs82_0 F_Block_iD) rfl<|l_p (po_la (.t rfl) ty3) rfl<|l_p (po_mov (.t rfl)) rfl<|l_p (po_eq (.t rfl) (.t rfl)) rfl<|l_nil<|x_tn<|c_if rfl (fun h7 => ?_) (fun h7 => ?_)
    · exact c_seq<|c_reg<|l_p (po_mov (.t rfl)) rfl<|l_p (po_asg (.t rfl)) rfl<|l_nil<|x_tn<|c_ret<|x_br<|x_tr<|x_mr<|x_br<|x_tr<|x_ret1 rfl (.t rfl)
    · exact c_skip<|x_bn<|x_tn<|c_reg<|l_p (po_mov (.t rfl)) rfl<|l_p (po_add (.t rfl) (ev_i _)) rfl<|l_p (po_asg (.t rfl)) rfl<|l_nil<|x_mid ((s2.1, (IntKind.wrap .i64 (s2.2 + 1))), ()) rfl ⟨rfl, rfl, rfl, rfl, trivial⟩ (.nil _)
  · exact c_exit<|x_te<|x_me<|x_be<|x_tn<|c_seq<|c_reg<|l_p (po_asg (ev_i _)) rfl<|l_nil<|x_tn<|c_ret<|x_ret1 rfl (.t rfl)
noncomputable def hr4_Join (a0 : Int) (a1 : (List ByteArray)) : Option ByteArray :=
  rep (fun (s2 : (ByteArray × Int)) k1 => if (decide (s2.2 < (a1.length : Int))) = true then ((at? a1 s2.2).bind (fun u6 => (cat s2.1 u6).bind (fun u8 => k1 (u8, (IntKind.wrap .i64 (s2.2 + 1)))))) else ((sSub s2.1 0 a0).bind (fun u10 => some u10))) FUEL ((ByteArray.mk #[]), 0)
theorem c_hr4_Join (a0 : Int) (a1 : (List ByteArray)) : Ct Tryz.prog 204 [rd kInt a0, rd (kSl kStr) a1] (hr4_Join a0 a1) (fun r => rd kStr r) := by
  unfold hr4_Join
  refine enter Tryz.func204 rfl Tryz.ntmps204 rfl (by kernel_rfl) fun z => c_seq<|c_reg<|l_p (po_asg (.s _)) rfl<|l_nil<|x_tn<|c_seq<|c_reg<|l_p (po_asg (.s _)) rfl<|l_nil<|x_tn<|c_seq<|c_seq<|c_reg<|l_p (po_asg (ev_i _)) rfl<|l_nil<|x_tn<|c_blk<|c_loop (fun (s2 : (ByteArray × Int)) (e3 : Unit) => [(0, rd kInt a0), (1, rd (kSl kStr) a1), (4, rd kStr (ByteArray.mk #[])), (5, rd kStr s2.1), (6, rd kInt s2.2)]) (fun (s2 : (ByteArray × Int)) (e3 : Unit) => []) () ⟨rfl, rfl, rfl, rfl, rfl, trivial⟩ (.nil _) fun s2 e3 k1 => c_seq<|c_seq<|c_reg<|l_p (po_mov (.t rfl)) rfl<|l_p (po_mov (.t rfl)) rfl<|l_p (po_len (ty := 0) (.t rfl) sl66) rfl<|l_p (po_lt (.t rfl) (.t rfl)) rfl<|l_nil<|x_tn<|c_if rfl (fun h4 => ?_) (fun h4 => ?_)
  · exact c_skip<|x_tn<|c_seq<|c_blk<|c_reg<|l_p (po_mov (.t rfl)) rfl<|l_p (po_mov (.t rfl)) rfl<|l_p (po_mov (.t rfl)) rfl<|l_bind fun u6 h5 => l_p (po_ia (.t rfl) (.t rfl) h5 sl66) rfl<|l_p (po_la (.t rfl) ty9) rfl<|l_bind fun u8 h7 => l_p (po_cat (.t rfl) (.t rfl) h7) rfl<|l_p (po_asg (.t rfl)) rfl<|l_nil<|x_bn<|x_tn<|c_reg<|l_p (po_mov (.t rfl)) rfl<|l_p (po_add (.t rfl) (ev_i _)) rfl<|l_p (po_asg (.t rfl)) rfl<|l_nil<|x_mid ((u8, (IntKind.wrap .i64 (s2.2 + 1))), ()) rfl ⟨rfl, rfl, rfl, rfl, rfl, trivial⟩ (.nil _)
  · exact c_exit<|x_te<|x_me<|x_be<|x_tn<|c_seq<|c_reg<|l_p (po_mov (.t rfl)) rfl<|l_p (po_mov (.t rfl)) rfl<|l_bind fun u10 h9 => l_p (po_ssub (.t rfl) .no (.so (.t rfl)) h9 un9) rfl<|l_p (po_asg (.t rfl)) rfl<|l_nil<|x_tn<|c_ret<|x_ret1 rfl (.t rfl)
noncomputable def hr7_At (a0 : (List Device)) (a1 : Int) : Option Int :=
  rep (fun (s2 : (Int × Int)) k1 => if (decide (s2.2 < (a0.length : Int))) = true then ((at? a0 s2.2).bind (fun u6 => if ((Device.iD u6) == a1) = true then (some s2.2) else (k1 (s2.1, (IntKind.wrap .i64 (s2.2 + 1)))))) else (some (-1))) FUEL (0, 0)
theorem c_hr7_At (a0 : (List Device)) (a1 : Int) : Ct Tryz.prog 34 [rd (kSl kDevice) a0, rd kInt a1] (hr7_At a0 a1) (fun r => rd kInt r) := by
  unfold hr7_At
  refine enter Tryz.func34 rfl Tryz.ntmps34 rfl (by kernel_rfl) fun z => c_seq<|c_reg<|l_p (po_asg (ev_i _)) rfl<|l_nil<|x_tn<|c_seq<|c_seq<|c_reg<|l_p (po_asg (ev_i _)) rfl<|l_nil<|x_tn<|c_blk<|c_loop (fun (s2 : (Int × Int)) (e3 : Unit) => [(0, rd (kSl kDevice) a0), (1, rd kInt a1), (4, rd kInt s2.1), (5, rd kInt s2.2)]) (fun (s2 : (Int × Int)) (e3 : Unit) => []) () ⟨rfl, rfl, rfl, rfl, trivial⟩ (.nil _) fun s2 e3 k1 => c_seq<|c_seq<|c_reg<|l_p (po_mov (.t rfl)) rfl<|l_p (po_mov (.t rfl)) rfl<|l_p (po_len (ty := 0) (.t rfl) sl30) rfl<|l_p (po_lt (.t rfl) (.t rfl)) rfl<|l_nil<|x_tn<|c_if rfl (fun h4 => ?_) (fun h4 => ?_)
  · refine c_skip<|x_tn<|c_seq<|c_blk<|c_seq<|c_reg<|l_p (po_mov (.t rfl)) rfl<|l_p (po_mov (.t rfl)) rfl<|l_bind fun u6 h5 => l_p (po_ia (.t rfl) (.t rfl) h5 sl30) rfl<|l_p (po_fa (.t rfl) fs60_0 F_Device_iD) rfl<|l_p (po_la (.t rfl) ty3) rfl<|l_p (po_mov (.t rfl)) rfl<|l_p (po_eq (.t rfl) (.t rfl)) rfl<|l_nil<|x_tn<|c_if rfl (fun h7 => ?_) (fun h7 => ?_)
    · exact c_seq<|c_reg<|l_p (po_mov (.t rfl)) rfl<|l_p (po_asg (.t rfl)) rfl<|l_nil<|x_tn<|c_ret<|x_br<|x_tr<|x_mr<|x_br<|x_tr<|x_ret1 rfl (.t rfl)
    · exact c_skip<|x_bn<|x_tn<|c_reg<|l_p (po_mov (.t rfl)) rfl<|l_p (po_add (.t rfl) (ev_i _)) rfl<|l_p (po_asg (.t rfl)) rfl<|l_nil<|x_mid ((s2.1, (IntKind.wrap .i64 (s2.2 + 1))), ()) rfl ⟨rfl, rfl, rfl, rfl, trivial⟩ (.nil _)
  · exact c_exit<|x_te<|x_me<|x_be<|x_tn<|c_seq<|c_reg<|l_p (po_asg (ev_i _)) rfl<|l_nil<|x_tn<|c_ret<|x_ret1 rfl (.t rfl)
noncomputable def hr9_Table (a0 : Pool) (a1 : Int) : Option Int :=
  rep (fun (s3 : (Int × Int)) k2 => if (decide (s3.2 < ((Pool.tables a0).length : Int))) = true then ((at? (Pool.tables a0) s3.2).bind (fun u7 => if ((Table.dev u7) == a1) = true then (some s3.2) else (k2 (s3.1, (IntKind.wrap .i64 (s3.2 + 1)))))) else (some (-1))) FUEL (0, 0)
theorem c_hr9_Table (a0 : Pool) (a1 : Int) : Ct Tryz.prog 65 [rd kPool a0, rd kInt a1] (hr9_Table a0 a1) (fun r => rd kInt r) := by
  unfold hr9_Table
  refine enter Tryz.func65 rfl Tryz.ntmps65 rfl (by kernel_rfl) fun z => c_seq<|c_reg<|l_box (.t rfl) rfl fun g1 => l_p (po_asg (ev_i _)) rfl<|l_nil<|x_tn<|c_seq<|c_seq<|c_reg<|l_p (po_asg (ev_i _)) rfl<|l_nil<|x_tn<|c_blk<|c_loop (fun (s3 : (Int × Int)) (e4 : Unit) => [(1, rd kInt a1), (2, own g1 0), (4, rd kInt s3.1), (5, rd kInt s3.2)]) (fun (s3 : (Int × Int)) (e4 : Unit) => [(some g1, box kPool a0)]) () ⟨rfl, rfl, rfl, rfl, trivial⟩ (.c (.nil _)) fun s3 e4 k2 => c_seq<|c_seq<|c_reg<|l_p (po_mov (.t rfl)) rfl<|l_p (po_fo (.t rfl) fs38_1) rfl<|l_p (po_lo 0 (.t rfl) rfl F_Pool_tables ty31) rfl<|l_p (po_len (ty := 0) (.t rfl) sl31) rfl<|l_p (po_lt (.t rfl) (.t rfl)) rfl<|l_nil<|x_tn<|c_if rfl (fun h5 => ?_) (fun h5 => ?_)
  · refine c_skip<|x_tn<|c_seq<|c_blk<|c_seq<|c_reg<|l_p (po_fo (.t rfl) fs38_1) rfl<|l_p (po_lo 0 (.t rfl) rfl F_Pool_tables ty31) rfl<|l_p (po_mov (.t rfl)) rfl<|l_bind fun u7 h6 => l_p (po_ia (.t rfl) (.t rfl) h6 sl31) rfl<|l_p (po_fa (.t rfl) fs34_0 F_Table_dev) rfl<|l_p (po_la (.t rfl) ty3) rfl<|l_p (po_mov (.t rfl)) rfl<|l_p (po_eq (.t rfl) (.t rfl)) rfl<|l_nil<|x_tn<|c_if rfl (fun h8 => ?_) (fun h8 => ?_)
    · exact c_seq<|c_reg<|l_p (po_mov (.t rfl)) rfl<|l_p (po_asg (.t rfl)) rfl<|l_nil<|x_tn<|c_ret<|x_br<|x_tr<|x_mr<|x_br<|x_tr<|x_ret1 rfl (.t rfl)
    · exact c_skip<|x_bn<|x_tn<|c_reg<|l_p (po_mov (.t rfl)) rfl<|l_p (po_add (.t rfl) (ev_i _)) rfl<|l_p (po_asg (.t rfl)) rfl<|l_nil<|x_mid ((s3.1, (IntKind.wrap .i64 (s3.2 + 1))), ()) rfl ⟨rfl, rfl, rfl, rfl, trivial⟩ (.c (.nil _))
  · exact c_exit<|x_te<|x_me<|x_be<|x_tn<|c_seq<|c_reg<|l_p (po_asg (ev_i _)) rfl<|l_nil<|x_tn<|c_ret<|x_ret1 rfl (.t rfl)
noncomputable def hr1_Set (a0 : (List Seg)) : Option (List Bool) :=
  rep (fun (s4 : (Int × (List Bool))) k3 => if (decide (s4.1 < (a0.length : Int))) = true then ((at? a0 s4.1).bind (fun u8 => rep (fun (s10 : (Int × (List Bool))) k9 => (at? a0 s4.1).bind (fun u13 => (at? a0 s4.1).bind (fun u15 => if (decide (s10.1 < (IntKind.wrap .i64 ((Seg.at_ u13) + (Seg.len u15))))) = true then ((inA 64 s10.1).bind (fun u18 => k9 ((IntKind.wrap .i64 (s10.1 + 1)), (aset s10.2 s10.1 true)))) else (k3 ((IntKind.wrap .i64 (s4.1 + 1)), s10.2))))) FUEL ((Seg.at_ u8), s4.2))) else (some s4.2)) FUEL (0, (kArr kBool 64 64).z)
theorem c_hr1_Set (a0 : (List Seg)) : Ct Tryz.prog 36 [rd (kSl kSeg) a0] (hr1_Set a0) (fun r => rd (kArr kBool 64 64) r) := by
  unfold hr1_Set
  refine enter Tryz.func36 rfl Tryz.ntmps36 rfl (by kernel_rfl) fun z => c_seq<|c_reg<|l_new (kArr kBool 64 64) tz74 rfl fun g1 => l_nil<|x_tn<|c_seq<|c_reg<|l_new (kArr kBool 64 64) tz74 rfl fun g2 => l_nil<|x_tn<|c_seq<|c_seq<|c_reg<|l_p (po_asg (ev_i _)) rfl<|l_nil<|x_tn<|c_blk<|c_loop (fun (s4 : (Int × (List Bool))) (e5 : Unit) => [(0, rd (kSl kSeg) a0), (2, own g1 0), (3, own g2 0), (4, rd kInt s4.1)]) (fun (s4 : (Int × (List Bool))) (e5 : Unit) => [(some g2, box (kArr kBool 64 64) s4.2), (some g1, box (kArr kBool 64 64) ((kArr kBool 64 64).z))]) () ⟨rfl, rfl, rfl, rfl, trivial⟩ (.c (.c (.nil _))) fun s4 e5 k3 => c_seq<|c_seq<|c_reg<|l_p (po_mov (.t rfl)) rfl<|l_p (po_mov (.t rfl)) rfl<|l_p (po_len (ty := 0) (.t rfl) sl58) rfl<|l_p (po_lt (.t rfl) (.t rfl)) rfl<|l_nil<|x_tn<|c_if rfl (fun h6 => ?_) (fun h6 => ?_)
  · refine c_skip<|x_tn<|c_seq<|c_blk<|c_seq<|c_reg<|l_p (po_mov (.t rfl)) rfl<|l_p (po_mov (.t rfl)) rfl<|l_bind fun u8 h7 => l_p (po_ia (.t rfl) (.t rfl) h7 sl58) rfl<|l_p (po_fa (.t rfl) fs115_0 F_Seg_at_) rfl<|l_p (po_la (.t rfl) ty3) rfl<|l_p (po_asg (.t rfl)) rfl<|l_nil<|x_tn<|c_blk<|c_loop (fun (s10 : (Int × (List Bool))) (e11 : Unit) => [(0, rd (kSl kSeg) a0), (2, own g1 0), (3, own g2 0), (4, rd kInt s4.1), (5, rd kInt s10.1)]) (fun (s10 : (Int × (List Bool))) (e11 : Unit) => [(some g2, box (kArr kBool 64 64) s10.2), (some g1, box (kArr kBool 64 64) ((kArr kBool 64 64).z))]) () ⟨rfl, rfl, rfl, rfl, rfl, trivial⟩ (.c (.c (.nil _))) fun s10 e11 k9 => c_seq<|c_seq<|c_draw [0, 1, 2, 3, 4, 5, 6, 7, 8, 9, 10, 11, 12] [] [] (by kernel_rfl) (by kernel_rfl)<|w_p rfl rfl (po_mov (.t rfl)) rfl<|w_p rfl rfl (po_mov (.t rfl)) rfl<|w_p rfl rfl (po_mov (.t rfl)) rfl<|w_bind fun u13 h12 => w_p rfl rfl (po_ia (.t rfl) (.t rfl) h12 sl58) rfl<|w_p rfl rfl (po_fa (.t rfl) fs115_0 F_Seg_at_) rfl<|w_p rfl rfl (po_la (.t rfl) ty3) rfl<|w_p rfl rfl (po_mov (.t rfl)) rfl<|w_p rfl rfl (po_mov (.t rfl)) rfl<|w_bind fun u15 h14 => w_p rfl rfl (po_ia (.t rfl) (.t rfl) h14 sl58) rfl<|w_p rfl rfl (po_fa (.t rfl) fs115_1 F_Seg_len) rfl<|w_p rfl rfl (po_la (.t rfl) ty3) rfl<|w_p rfl rfl (po_add (.t rfl) (.t rfl)) rfl<|w_p rfl rfl (po_lt (.t rfl) (.t rfl)) rfl<|w_nil<|x_tn<|c_if rfl (fun h16 => ?_) (fun h16 => ?_)
    · exact c_skip<|x_tn<|c_seq<|c_blk<|c_reg<|l_p (po_mov (.t rfl)) rfl<|l_bind fun u18 h17 => l_p (po_io0 (k := kBool) (.t rfl) (.t rfl) h17 ar74) rfl<|l_st 0 (.t rfl) (.b _) rfl (F_arr h17) ty4<|l_nil<|x_bn<|x_tn<|c_reg<|l_p (po_mov (.t rfl)) rfl<|l_p (po_add (.t rfl) (ev_i _)) rfl<|l_p (po_asg (.t rfl)) rfl<|l_nil<|x_mid (((IntKind.wrap .i64 (s10.1 + 1)), (aset s10.2 s10.1 true)), ()) rfl ⟨rfl, rfl, rfl, rfl, rfl, trivial⟩ (.c (.c (.nil _)))
    · exact c_exit<|x_te<|x_me<|x_be<|x_bn<|x_tn<|c_reg<|l_p (po_mov (.t rfl)) rfl<|l_p (po_add (.t rfl) (ev_i _)) rfl<|l_p (po_asg (.t rfl)) rfl<|l_nil<|x_mid (((IntKind.wrap .i64 (s4.1 + 1)), s10.2), ()) rfl ⟨rfl, rfl, rfl, rfl, trivial⟩ (.c (.c (.nil _)))
  · exact c_exit<|x_te<|x_me<|x_be<|x_tn<|c_seq<|c_reg<|l_p (po_lo 0 (.t rfl) rfl (Fld.me _) ty74) rfl<|l_st 1 (.t rfl) (.t rfl) rfl (Fld.me _) ty74<|l_nil<|x_tn<|c_ret<|x_ret1 rfl (.c 1 rfl rfl ty74)
noncomputable def hr1_Of (a0 : (List Bool)) : Option (List Seg) :=
  rep (fun (s3 : (Int × (List Seg))) k2 => if (decide (s3.1 < 64)) = true then (jn (fun (s7 : (List Seg)) => k2 ((IntKind.wrap .i64 (s3.1 + 1)), s7)) (fun k6 => (inA 64 s3.1).bind (fun u10 => if (!(agt kBool.z a0 s3.1)) = true then (k6 s3.2) else (jn (fun (b13 : Bool) => if b13 = true then ((at? s3.2 (IntKind.wrap .i64 ((s3.2.length : Int) - 1))).bind (fun u22 => (at? s3.2 (IntKind.wrap .i64 ((s3.2.length : Int) - 1))).bind (fun u24 => k6 (List.modify s3.2 (Int.toNat (IntKind.wrap .i64 ((s3.2.length : Int) - 1))) (fun y => (Seg.len_s y (IntKind.wrap .i64 ((Seg.len u22) + 1)))))))) else ((app s3.2 [(Seg.len_s (Seg.at__s kSeg.z s3.1) 1)]).bind (fun u25 => k6 u25))) (fun k12 => if (decide ((s3.2.length : Int) > 0)) = true then ((at? s3.2 (IntKind.wrap .i64 ((s3.2.length : Int) - 1))).bind (fun u17 => (at? s3.2 (IntKind.wrap .i64 ((s3.2.length : Int) - 1))).bind (fun u19 => k12 ((IntKind.wrap .i64 ((Seg.at_ u17) + (Seg.len u19))) == s3.1)))) else (k12 false)))))) else (some s3.2)) FUEL (0, [])
theorem c_hr1_Of (a0 : (List Bool)) : Ct Tryz.prog 85 [rd (kArr kBool 64 64) a0] (hr1_Of a0) (fun r => rd (kSl kSeg) r) := by
  unfold hr1_Of
  refine enter Tryz.func85 rfl Tryz.ntmps85 rfl (by kernel_rfl) fun z => c_seq<|c_reg<|l_box (.t rfl) rfl fun g1 => l_p (po_asg (t := rd (kSl kSeg) []) (.nil _)) rfl<|l_nil<|x_tn<|c_seq<|c_reg<|l_rnil kSeg 115 rfl rfl<|l_nil<|x_tn<|c_seq<|c_seq<|c_reg<|l_p (po_asg (ev_i _)) rfl<|l_nil<|x_tn<|c_blk<|c_loop (fun (s3 : (Int × (List Seg))) (e4 : (Option Nat × Nat)) => [(1, own g1 0), (2, rd (kSl kSeg) []), (3, row kSeg s3.2 e4.1 e4.2), (4, rd kInt s3.1)]) (fun (s3 : (Int × (List Seg))) (e4 : (Option Nat × Nat)) => [(e4.1, rows kSeg 115 s3.2 e4.2), (some g1, box (kArr kBool 64 64) a0)]) (none, 0) ⟨rfl, rfl, rfl, rfl, trivial⟩ (.c (.c (.nil _))) fun s3 e4 k2 => c_seq<|c_seq<|c_reg<|l_p (po_mov (.t rfl)) rfl<|l_p (po_lt (.t rfl) (ev_i _)) rfl<|l_nil<|x_tn<|c_if rfl (fun h5 => ?_) (fun h5 => ?_)
  · refine c_skip<|x_tn<|c_jn (fun (s7 : (List Seg)) (e8 : (Option Nat × Nat)) => [(1, own g1 0), (2, rd (kSl kSeg) []), (3, row kSeg s7 e8.1 e8.2), (4, rd kInt s3.1)]) (fun (s7 : (List Seg)) (e8 : (Option Nat × Nat)) => [(e8.1, rows kSeg 115 s7 e8.2), (some g1, box (kArr kBool 64 64) a0)]) (fun k6 => ?_) (fun s7 e8 => ?_)
    · refine c_blk<|c_seq<|c_seq<|c_reg<|l_p (po_mov (.t rfl)) rfl<|l_bind fun u10 h9 => l_p (po_io0 (k := kBool) (.t rfl) (.t rfl) h9 ar74) rfl<|l_p (po_lo 1 (.t rfl) rfl (F_arr h9) ty4) rfl<|l_p (po_not (.t rfl)) rfl<|l_nil<|x_tn<|c_if rfl (fun h11 => ?_) (fun h11 => ?_)
      · exact c_exit<|x_te<|x_be<|x_mid (s3.2, (e4.1, e4.2)) rfl ⟨rfl, rfl, rfl, rfl, trivial⟩ (.c (.c (.nil _)))
      · refine c_skip<|x_tn<|c_seq<|c_draw [0, 1, 2, 3, 4, 5, 6, 7, 8, 9, 10, 11, 12, 13, 14, 15, 16, 17, 18, 19, 20, 21] [] [] (by kernel_rfl) (by kernel_rfl)<|w_p rfl rfl (po_mov (.t rfl)) rfl<|w_p rfl rfl (po_lenr (.t rfl) sl58) rfl<|w_p rfl rfl (po_gt (.t rfl) (ev_i _)) rfl<|w_p rfl rfl (po_mov (.t rfl)) rfl<|w_jn 18 (fun (b13 : Bool) (e14 : Unit) => [(1, own g1 0), (2, rd (kSl kSeg) []), (3, row kSeg s3.2 e4.1 e4.2), (4, rd kInt s3.1), (34, rd kBool b13)]) (fun (b13 : Bool) (e14 : Unit) => [(e4.1, rows kSeg 115 s3.2 e4.2), (some g1, box (kArr kBool 64 64) a0)]) (fun k12 => ?_) (fun b13 e14 => ?_)
        · refine w_if (fun h15 => ?_) (fun h15 => ?_)
          · exact w_po rfl rfl ⟨_, rfl, _, rfl, h15⟩ (po_mov (.t rfl)) rfl<|w_po rfl rfl ⟨_, rfl, _, rfl, h15⟩ (po_mov (.t rfl)) rfl<|w_po rfl rfl ⟨_, rfl, _, rfl, h15⟩ (po_lenr (.t rfl) sl58) rfl<|w_po rfl rfl ⟨_, rfl, _, rfl, h15⟩ (po_sub (.t rfl) (ev_i _)) rfl<|w_bind fun u17 h16 => w_po rfl rfl ⟨_, rfl, _, rfl, h15⟩ (po_iar 0 (.t rfl) rfl (.t rfl) h16 sl58) rfl<|w_po rfl rfl ⟨_, rfl, _, rfl, h15⟩ (po_fr (.t rfl) fs115_0) rfl<|w_po rfl rfl ⟨_, rfl, _, rfl, h15⟩ (po_lor (i := (IntKind.wrap .i64 ((s3.2.length : Int) - 1))) (off := 0) 0 (.t rfl) rfl h16 F_Seg_at_ ty3) rfl<|w_po rfl rfl ⟨_, rfl, _, rfl, h15⟩ (po_mov (.t rfl)) rfl<|w_po rfl rfl ⟨_, rfl, _, rfl, h15⟩ (po_mov (.t rfl)) rfl<|w_po rfl rfl ⟨_, rfl, _, rfl, h15⟩ (po_lenr (.t rfl) sl58) rfl<|w_po rfl rfl ⟨_, rfl, _, rfl, h15⟩ (po_sub (.t rfl) (ev_i _)) rfl<|w_bind fun u19 h18 => w_po rfl rfl ⟨_, rfl, _, rfl, h15⟩ (po_iar 0 (.t rfl) rfl (.t rfl) h18 sl58) rfl<|w_po rfl rfl ⟨_, rfl, _, rfl, h15⟩ (po_fr (.t rfl) fs115_1) rfl<|w_po rfl rfl ⟨_, rfl, _, rfl, h15⟩ (po_lor (i := (IntKind.wrap .i64 ((s3.2.length : Int) - 1))) (off := 1) 0 (.t rfl) rfl h18 F_Seg_len ty3) rfl<|w_po rfl rfl ⟨_, rfl, _, rfl, h15⟩ (po_add (.t rfl) (.t rfl)) rfl<|w_po rfl rfl ⟨_, rfl, _, rfl, h15⟩ (po_mov (.t rfl)) rfl<|w_po rfl rfl ⟨_, rfl, _, rfl, h15⟩ (po_eq (.t rfl) (.t rfl)) rfl<|w_p rfl rfl (po_pickt (t := rd kBool ((IntKind.wrap .i64 ((Seg.at_ u17) + (Seg.len u19))) == s3.1)) (.t rfl) h15 (.t rfl)) rfl<|w_nil<|x_mid (((IntKind.wrap .i64 ((Seg.at_ u17) + (Seg.len u19))) == s3.1), ()) rfl ⟨rfl, rfl, rfl, rfl, rfl, trivial⟩ (.c (.c (.nil _)))
          · exact w_skip rfl ⟨_, rfl, .inl ⟨_, rfl, ne_t h15⟩⟩ rfl<|w_skip rfl ⟨_, rfl, .inl ⟨_, rfl, ne_t h15⟩⟩ rfl<|w_skip rfl ⟨_, rfl, .inl ⟨_, rfl, ne_t h15⟩⟩ rfl<|w_skip rfl ⟨_, rfl, .inl ⟨_, rfl, ne_t h15⟩⟩ rfl<|w_skip rfl ⟨_, rfl, .inl ⟨_, rfl, ne_t h15⟩⟩ rfl<|w_skip rfl ⟨_, rfl, .inl ⟨_, rfl, ne_t h15⟩⟩ rfl<|w_skip rfl ⟨_, rfl, .inl ⟨_, rfl, ne_t h15⟩⟩ rfl<|w_skip rfl ⟨_, rfl, .inl ⟨_, rfl, ne_t h15⟩⟩ rfl<|w_skip rfl ⟨_, rfl, .inl ⟨_, rfl, ne_t h15⟩⟩ rfl<|w_skip rfl ⟨_, rfl, .inl ⟨_, rfl, ne_t h15⟩⟩ rfl<|w_skip rfl ⟨_, rfl, .inl ⟨_, rfl, ne_t h15⟩⟩ rfl<|w_skip rfl ⟨_, rfl, .inl ⟨_, rfl, ne_t h15⟩⟩ rfl<|w_skip rfl ⟨_, rfl, .inl ⟨_, rfl, ne_t h15⟩⟩ rfl<|w_skip rfl ⟨_, rfl, .inl ⟨_, rfl, ne_t h15⟩⟩ rfl<|w_skip rfl ⟨_, rfl, .inl ⟨_, rfl, ne_t h15⟩⟩ rfl<|w_skip rfl ⟨_, rfl, .inl ⟨_, rfl, ne_t h15⟩⟩ rfl<|w_skip rfl ⟨_, rfl, .inl ⟨_, rfl, ne_t h15⟩⟩ rfl<|w_p rfl rfl (po_pickf (t := rd kBool false) (.t rfl) h15 (.b _)) rfl<|w_nil<|x_mid (false, ()) rfl ⟨rfl, rfl, rfl, rfl, rfl, trivial⟩ (.c (.c (.nil _)))
        · refine w_nil<|x_tn<|c_if rfl (fun h20 => ?_) (fun h20 => ?_)
          · exact c_reg<|l_p (po_mov (.t rfl)) rfl<|l_p (po_mov (.t rfl)) rfl<|l_p (po_lenr (.t rfl) sl58) rfl<|l_p (po_sub (.t rfl) (ev_i _)) rfl<|l_bind fun u22 h21 => l_p (po_iar 0 (.t rfl) rfl (.t rfl) h21 sl58) rfl<|l_p (po_fr (.t rfl) fs115_1) rfl<|l_p (po_lor (i := (IntKind.wrap .i64 ((s3.2.length : Int) - 1))) (off := 1) 0 (.t rfl) rfl h21 F_Seg_len ty3) rfl<|l_p (po_add (.t rfl) (ev_i _)) rfl<|l_bind fun u24 h23 => l_p (po_iar 0 (.t rfl) rfl (.t rfl) h23 sl58) rfl<|l_p (po_fr (.t rfl) fs115_1) rfl<|l_str (i := (IntKind.wrap .i64 ((s3.2.length : Int) - 1))) (off := 1) 0 (.t rfl) (.t rfl) rfl h23 rfl F_Seg_len ty3<|l_rlen 3 (xs := s3.2) (ys := (List.modify s3.2 (Int.toNat (IntKind.wrap .i64 ((s3.2.length : Int) - 1))) (fun y => (Seg.len_s y (IntKind.wrap .i64 ((Seg.len u22) + 1)))))) rfl (by simp)<|l_rlen 35 (xs := s3.2) (ys := (List.modify s3.2 (Int.toNat (IntKind.wrap .i64 ((s3.2.length : Int) - 1))) (fun y => (Seg.len_s y (IntKind.wrap .i64 ((Seg.len u22) + 1)))))) rfl (by simp)<|l_rlen 36 (xs := s3.2) (ys := (List.modify s3.2 (Int.toNat (IntKind.wrap .i64 ((s3.2.length : Int) - 1))) (fun y => (Seg.len_s y (IntKind.wrap .i64 ((Seg.len u22) + 1)))))) rfl (by simp)<|l_nil<|x_bn<|x_mid ((List.modify s3.2 (Int.toNat (IntKind.wrap .i64 ((s3.2.length : Int) - 1))) (fun y => (Seg.len_s y (IntKind.wrap .i64 ((Seg.len u22) + 1))))), (e4.1, e4.2)) rfl ⟨rfl, rfl, rfl, rfl, trivial⟩ (.c (.c (.nil _)))
          · exact c_reg<|l_p (po_mov (.t rfl)) rfl<|l_p (po_mov (.t rfl)) rfl<|l_p (po_build kSeg rfl tz115 ps115 (.cons pl115_0 F_Seg_at_ (.t rfl) (.cons pl115_1 F_Seg_len (ev_i _) (.nil _)))) rfl<|l_bsl kSeg sz58 rfl (.cons (.t rfl) (.nil _)) rfl<|l_app 0 (.t rfl) rfl (.t rfl) ap58 rfl fun u25 o26 c27 => l_p (po_asg (.t rfl)) rfl<|l_nil<|x_bn<|x_mid (u25, (o26, c27)) rfl ⟨rfl, rfl, rfl, rfl, trivial⟩ (.c (.c (.nil _)))
    · exact c_reg<|l_p (po_mov (.t rfl)) rfl<|l_p (po_add (.t rfl) (ev_i _)) rfl<|l_p (po_asg (.t rfl)) rfl<|l_nil<|x_mid (((IntKind.wrap .i64 (s3.1 + 1)), s7), (e8.1, e8.2)) rfl ⟨rfl, rfl, rfl, rfl, trivial⟩ (.c (.c (.nil _)))
  · exact c_exit<|x_te<|x_me<|x_be<|x_tn<|c_seq<|c_reg<|l_p (po_mov (.t rfl)) rfl<|l_p (po_asg (.t rfl)) rfl<|l_nil<|x_tn<|c_ret<|x_frz 2 0 rfl rfl<|x_ret1 rfl (.t rfl)
noncomputable def hr1_Segs (a0 : (List Seg)) : Option Bool :=
  rep (fun (s2 : (Bool × Int)) k1 => if (decide (s2.2 < (a0.length : Int))) = true then ((at? a0 s2.2).bind (fun u6 => jn (fun (b8 : Bool) => jn (fun (b14 : Bool) => jn (fun (b20 : Bool) => jn (fun (b28 : Bool) => if b28 = true then (some false) else (k1 (s2.1, (IntKind.wrap .i64 (s2.2 + 1))))) (fun k27 => if b20 = true then (k27 true) else (jn (fun (b32 : Bool) => k27 b32) (fun k31 => if (decide (s2.2 > 0)) = true then ((at? a0 (IntKind.wrap .i64 (s2.2 - 1))).bind (fun u36 => (at? a0 (IntKind.wrap .i64 (s2.2 - 1))).bind (fun u38 => (at? a0 s2.2).bind (fun u40 => k31 (decide ((IntKind.wrap .i64 ((Seg.at_ u36) + (Seg.len u38))) ≥ (Seg.at_ u40))))))) else (k31 false))))) (fun k19 => if b14 = true then (k19 true) else ((at? a0 s2.2).bind (fun u24 => (at? a0 s2.2).bind (fun u26 => k19 (decide ((Seg.len u24) > (IntKind.wrap .i64 (64 - (Seg.at_ u26)))))))))) (fun k13 => if b8 = true then (k13 true) else ((at? a0 s2.2).bind (fun u18 => k13 (decide ((Seg.at_ u18) > 64)))))) (fun k7 => if (decide ((Seg.at_ u6) < 0)) = true then (k7 true) else ((at? a0 s2.2).bind (fun u12 => k7 (decide ((Seg.len u12) < 1))))))) else (some true)) FUEL (false, 0)
theorem c_hr1_Segs (a0 : (List Seg)) : Ct Tryz.prog 205 [rd (kSl kSeg) a0] (hr1_Segs a0) (fun r => rd kBool r) := by
  unfold hr1_Segs
  refine enter Tryz.func205 rfl Tryz.ntmps205 rfl (by kernel_rfl) fun z => c_seq<|c_reg<|l_p (po_asg (.b _)) rfl<|l_nil<|x_tn<|c_seq<|c_seq<|c_reg<|l_p (po_asg (ev_i _)) rfl<|l_nil<|x_tn<|c_blk<|c_loop (fun (s2 : (Bool × Int)) (e3 : Unit) => [(0, rd (kSl kSeg) a0), (2, rd kBool s2.1), (3, rd kInt s2.2)]) (fun (s2 : (Bool × Int)) (e3 : Unit) => []) () ⟨rfl, rfl, rfl, trivial⟩ (.nil _) fun s2 e3 k1 => c_seq<|c_seq<|c_reg<|l_p (po_mov (.t rfl)) rfl<|l_p (po_mov (.t rfl)) rfl<|l_p (po_len (ty := 0) (.t rfl) sl58) rfl<|l_p (po_lt (.t rfl) (.t rfl)) rfl<|l_nil<|x_tn<|c_if rfl (fun h4 => ?_) (fun h4 => ?_)
  · refine c_skip<|x_tn<|c_seq<|c_blk<|c_seq<|c_draw [0, 1, 2, 3, 4, 5, 6, 7, 8, 9, 10, 11, 12, 13, 14, 15, 16, 17, 18, 19, 20, 21, 22, 23, 24, 25, 26, 27, 28, 29, 30, 31, 32, 33, 34, 35, 36, 37, 38, 39, 40, 41, 42, 43, 44, 45, 46, 47, 48, 49, 50, 51, 52, 53, 54, 55, 56, 57, 58, 59, 60] [] [] (by kernel_rfl) (by kernel_rfl)<|w_p rfl rfl (po_mov (.t rfl)) rfl<|w_p rfl rfl (po_mov (.t rfl)) rfl<|w_bind fun u6 h5 => w_p rfl rfl (po_ia (.t rfl) (.t rfl) h5 sl58) rfl<|w_p rfl rfl (po_fa (.t rfl) fs115_0 F_Seg_at_) rfl<|w_p rfl rfl (po_la (.t rfl) ty3) rfl<|w_p rfl rfl (po_lt (.t rfl) (ev_i _)) rfl<|w_p rfl rfl (po_mov (.t rfl)) rfl<|w_jn 7 (fun (b8 : Bool) (e9 : Unit) => [(0, rd (kSl kSeg) a0), (2, rd kBool s2.1), (3, rd kInt s2.2), (23, rd kBool b8)]) (fun (b8 : Bool) (e9 : Unit) => []) (fun k7 => ?_) (fun b8 e9 => ?_)
    · refine w_if (fun h10 => ?_) (fun h10 => ?_)
      · exact w_skip rfl ⟨_, rfl, .inl ⟨_, rfl, ne_f h10⟩⟩ rfl<|w_skip rfl ⟨_, rfl, .inl ⟨_, rfl, ne_f h10⟩⟩ rfl<|w_skip rfl ⟨_, rfl, .inl ⟨_, rfl, ne_f h10⟩⟩ rfl<|w_skip rfl ⟨_, rfl, .inl ⟨_, rfl, ne_f h10⟩⟩ rfl<|w_skip rfl ⟨_, rfl, .inl ⟨_, rfl, ne_f h10⟩⟩ rfl<|w_skip rfl ⟨_, rfl, .inl ⟨_, rfl, ne_f h10⟩⟩ rfl<|w_p rfl rfl (po_pickt (t := rd kBool true) (.t rfl) h10 (.b _)) rfl<|w_nil<|x_mid (true, ()) rfl ⟨rfl, rfl, rfl, rfl, trivial⟩ (.nil _)
      · exact w_po rfl rfl ⟨_, rfl, _, rfl, h10⟩ (po_mov (.t rfl)) rfl<|w_po rfl rfl ⟨_, rfl, _, rfl, h10⟩ (po_mov (.t rfl)) rfl<|w_bind fun u12 h11 => w_po rfl rfl ⟨_, rfl, _, rfl, h10⟩ (po_ia (.t rfl) (.t rfl) h11 sl58) rfl<|w_po rfl rfl ⟨_, rfl, _, rfl, h10⟩ (po_fa (.t rfl) fs115_1 F_Seg_len) rfl<|w_po rfl rfl ⟨_, rfl, _, rfl, h10⟩ (po_la (.t rfl) ty3) rfl<|w_po rfl rfl ⟨_, rfl, _, rfl, h10⟩ (po_lt (.t rfl) (ev_i _)) rfl<|w_p rfl rfl (po_pickf (t := rd kBool (decide ((Seg.len u12) < 1))) (.t rfl) h10 (.t rfl)) rfl<|w_nil<|x_mid ((decide ((Seg.len u12) < 1)), ()) rfl ⟨rfl, rfl, rfl, rfl, trivial⟩ (.nil _)
    · refine w_p rfl rfl (po_mov (.t rfl)) rfl<|w_jn 7 (fun (b14 : Bool) (e15 : Unit) => [(0, rd (kSl kSeg) a0), (2, rd kBool s2.1), (3, rd kInt s2.2), (31, rd kBool b14)]) (fun (b14 : Bool) (e15 : Unit) => []) (fun k13 => ?_) (fun b14 e15 => ?_)
      · refine w_if (fun h16 => ?_) (fun h16 => ?_)
        · exact w_skip rfl ⟨_, rfl, .inl ⟨_, rfl, ne_f h16⟩⟩ rfl<|w_skip rfl ⟨_, rfl, .inl ⟨_, rfl, ne_f h16⟩⟩ rfl<|w_skip rfl ⟨_, rfl, .inl ⟨_, rfl, ne_f h16⟩⟩ rfl<|w_skip rfl ⟨_, rfl, .inl ⟨_, rfl, ne_f h16⟩⟩ rfl<|w_skip rfl ⟨_, rfl, .inl ⟨_, rfl, ne_f h16⟩⟩ rfl<|w_skip rfl ⟨_, rfl, .inl ⟨_, rfl, ne_f h16⟩⟩ rfl<|w_p rfl rfl (po_pickt (t := rd kBool true) (.t rfl) h16 (.b _)) rfl<|w_nil<|x_mid (true, ()) rfl ⟨rfl, rfl, rfl, rfl, trivial⟩ (.nil _)
        · exact w_po rfl rfl ⟨_, rfl, _, rfl, h16⟩ (po_mov (.t rfl)) rfl<|w_po rfl rfl ⟨_, rfl, _, rfl, h16⟩ (po_mov (.t rfl)) rfl<|w_bind fun u18 h17 => w_po rfl rfl ⟨_, rfl, _, rfl, h16⟩ (po_ia (.t rfl) (.t rfl) h17 sl58) rfl<|w_po rfl rfl ⟨_, rfl, _, rfl, h16⟩ (po_fa (.t rfl) fs115_0 F_Seg_at_) rfl<|w_po rfl rfl ⟨_, rfl, _, rfl, h16⟩ (po_la (.t rfl) ty3) rfl<|w_po rfl rfl ⟨_, rfl, _, rfl, h16⟩ (po_gt (.t rfl) (ev_i _)) rfl<|w_p rfl rfl (po_pickf (t := rd kBool (decide ((Seg.at_ u18) > 64))) (.t rfl) h16 (.t rfl)) rfl<|w_nil<|x_mid ((decide ((Seg.at_ u18) > 64)), ()) rfl ⟨rfl, rfl, rfl, rfl, trivial⟩ (.nil _)
      · refine w_p rfl rfl (po_mov (.t rfl)) rfl<|w_jn 13 (fun (b20 : Bool) (e21 : Unit) => [(0, rd (kSl kSeg) a0), (2, rd kBool s2.1), (3, rd kInt s2.2), (45, rd kBool b20)]) (fun (b20 : Bool) (e21 : Unit) => []) (fun k19 => ?_) (fun b20 e21 => ?_)
        · refine w_if (fun h22 => ?_) (fun h22 => ?_)
          · exact w_skip rfl ⟨_, rfl, .inl ⟨_, rfl, ne_f h22⟩⟩ rfl<|w_skip rfl ⟨_, rfl, .inl ⟨_, rfl, ne_f h22⟩⟩ rfl<|w_skip rfl ⟨_, rfl, .inl ⟨_, rfl, ne_f h22⟩⟩ rfl<|w_skip rfl ⟨_, rfl, .inl ⟨_, rfl, ne_f h22⟩⟩ rfl<|w_skip rfl ⟨_, rfl, .inl ⟨_, rfl, ne_f h22⟩⟩ rfl<|w_skip rfl ⟨_, rfl, .inl ⟨_, rfl, ne_f h22⟩⟩ rfl<|w_skip rfl ⟨_, rfl, .inl ⟨_, rfl, ne_f h22⟩⟩ rfl<|w_skip rfl ⟨_, rfl, .inl ⟨_, rfl, ne_f h22⟩⟩ rfl<|w_skip rfl ⟨_, rfl, .inl ⟨_, rfl, ne_f h22⟩⟩ rfl<|w_skip rfl ⟨_, rfl, .inl ⟨_, rfl, ne_f h22⟩⟩ rfl<|w_skip rfl ⟨_, rfl, .inl ⟨_, rfl, ne_f h22⟩⟩ rfl<|w_skip rfl ⟨_, rfl, .inl ⟨_, rfl, ne_f h22⟩⟩ rfl<|w_p rfl rfl (po_pickt (t := rd kBool true) (.t rfl) h22 (.b _)) rfl<|w_nil<|x_mid (true, ()) rfl ⟨rfl, rfl, rfl, rfl, trivial⟩ (.nil _)
          · exact w_po rfl rfl ⟨_, rfl, _, rfl, h22⟩ (po_mov (.t rfl)) rfl<|w_po rfl rfl ⟨_, rfl, _, rfl, h22⟩ (po_mov (.t rfl)) rfl<|w_bind fun u24 h23 => w_po rfl rfl ⟨_, rfl, _, rfl, h22⟩ (po_ia (.t rfl) (.t rfl) h23 sl58) rfl<|w_po rfl rfl ⟨_, rfl, _, rfl, h22⟩ (po_fa (.t rfl) fs115_1 F_Seg_len) rfl<|w_po rfl rfl ⟨_, rfl, _, rfl, h22⟩ (po_la (.t rfl) ty3) rfl<|w_po rfl rfl ⟨_, rfl, _, rfl, h22⟩ (po_mov (.t rfl)) rfl<|w_po rfl rfl ⟨_, rfl, _, rfl, h22⟩ (po_mov (.t rfl)) rfl<|w_bind fun u26 h25 => w_po rfl rfl ⟨_, rfl, _, rfl, h22⟩ (po_ia (.t rfl) (.t rfl) h25 sl58) rfl<|w_po rfl rfl ⟨_, rfl, _, rfl, h22⟩ (po_fa (.t rfl) fs115_0 F_Seg_at_) rfl<|w_po rfl rfl ⟨_, rfl, _, rfl, h22⟩ (po_la (.t rfl) ty3) rfl<|w_po rfl rfl ⟨_, rfl, _, rfl, h22⟩ (po_sub (ev_i _) (.t rfl)) rfl<|w_po rfl rfl ⟨_, rfl, _, rfl, h22⟩ (po_gt (.t rfl) (.t rfl)) rfl<|w_p rfl rfl (po_pickf (t := rd kBool (decide ((Seg.len u24) > (IntKind.wrap .i64 (64 - (Seg.at_ u26)))))) (.t rfl) h22 (.t rfl)) rfl<|w_nil<|x_mid ((decide ((Seg.len u24) > (IntKind.wrap .i64 (64 - (Seg.at_ u26))))), ()) rfl ⟨rfl, rfl, rfl, rfl, trivial⟩ (.nil _)
        · refine w_p rfl rfl (po_mov (.t rfl)) rfl<|w_jn 24 (fun (b28 : Bool) (e29 : Unit) => [(0, rd (kSl kSeg) a0), (2, rd kBool s2.1), (3, rd kInt s2.2), (70, rd kBool b28)]) (fun (b28 : Bool) (e29 : Unit) => []) (fun k27 => ?_) (fun b28 e29 => ?_)
          · refine w_if (fun h30 => ?_) (fun h30 => ?_)
            · exact w_skip rfl ⟨_, rfl, .inl ⟨_, rfl, ne_f h30⟩⟩ rfl<|w_skip rfl ⟨_, rfl, .inl ⟨_, rfl, ne_f h30⟩⟩ rfl<|w_skip rfl ⟨_, rfl, .inl ⟨_, rfl, ne_f h30⟩⟩ rfl<|w_skip rfl ⟨_, rfl, .inr rfl⟩ rfl<|w_skip rfl ⟨_, rfl, .inr rfl⟩ rfl<|w_skip rfl ⟨_, rfl, .inr rfl⟩ rfl<|w_skip rfl ⟨_, rfl, .inr rfl⟩ rfl<|w_skip rfl ⟨_, rfl, .inr rfl⟩ rfl<|w_skip rfl ⟨_, rfl, .inr rfl⟩ rfl<|w_skip rfl ⟨_, rfl, .inr rfl⟩ rfl<|w_skip rfl ⟨_, rfl, .inr rfl⟩ rfl<|w_skip rfl ⟨_, rfl, .inr rfl⟩ rfl<|w_skip rfl ⟨_, rfl, .inr rfl⟩ rfl<|w_skip rfl ⟨_, rfl, .inr rfl⟩ rfl<|w_skip rfl ⟨_, rfl, .inr rfl⟩ rfl<|w_skip rfl ⟨_, rfl, .inr rfl⟩ rfl<|w_skip rfl ⟨_, rfl, .inr rfl⟩ rfl<|w_skip rfl ⟨_, rfl, .inr rfl⟩ rfl<|w_skip rfl ⟨_, rfl, .inr rfl⟩ rfl<|w_skip rfl ⟨_, rfl, .inr rfl⟩ rfl<|w_skip rfl ⟨_, rfl, .inr rfl⟩ rfl<|w_skip rfl ⟨_, rfl, .inr rfl⟩ rfl<|w_skip rfl ⟨_, rfl, .inl ⟨_, rfl, ne_f h30⟩⟩ rfl<|w_p rfl rfl (po_pickt (t := rd kBool true) (.t rfl) h30 (.b _)) rfl<|w_nil<|x_mid (true, ()) rfl ⟨rfl, rfl, rfl, rfl, trivial⟩ (.nil _)
            · refine w_po rfl rfl ⟨_, rfl, _, rfl, h30⟩ (po_mov (.t rfl)) rfl<|w_po rfl rfl ⟨_, rfl, _, rfl, h30⟩ (po_gt (.t rfl) (ev_i _)) rfl<|w_po rfl rfl ⟨_, rfl, _, rfl, h30⟩ (po_mov (.t rfl)) rfl<|w_jn 20 (fun (b32 : Bool) (e33 : Unit) => [(0, rd (kSl kSeg) a0), (2, rd kBool s2.1), (3, rd kInt s2.2), (46, rd kBool b20), (69, rd kBool b32)]) (fun (b32 : Bool) (e33 : Unit) => []) (fun k31 => ?_) (fun b32 e33 => ?_)
              · refine w_if (fun h34 => ?_) (fun h34 => ?_)
                · exact w_po rfl rfl ⟨_, rfl, _, rfl, h34⟩ (po_mov (.t rfl)) rfl<|w_po rfl rfl ⟨_, rfl, _, rfl, h34⟩ (po_mov (.t rfl)) rfl<|w_po rfl rfl ⟨_, rfl, _, rfl, h34⟩ (po_sub (.t rfl) (ev_i _)) rfl<|w_bind fun u36 h35 => w_po rfl rfl ⟨_, rfl, _, rfl, h34⟩ (po_ia (.t rfl) (.t rfl) h35 sl58) rfl<|w_po rfl rfl ⟨_, rfl, _, rfl, h34⟩ (po_fa (.t rfl) fs115_0 F_Seg_at_) rfl<|w_po rfl rfl ⟨_, rfl, _, rfl, h34⟩ (po_la (.t rfl) ty3) rfl<|w_po rfl rfl ⟨_, rfl, _, rfl, h34⟩ (po_mov (.t rfl)) rfl<|w_po rfl rfl ⟨_, rfl, _, rfl, h34⟩ (po_mov (.t rfl)) rfl<|w_po rfl rfl ⟨_, rfl, _, rfl, h34⟩ (po_sub (.t rfl) (ev_i _)) rfl<|w_bind fun u38 h37 => w_po rfl rfl ⟨_, rfl, _, rfl, h34⟩ (po_ia (.t rfl) (.t rfl) h37 sl58) rfl<|w_po rfl rfl ⟨_, rfl, _, rfl, h34⟩ (po_fa (.t rfl) fs115_1 F_Seg_len) rfl<|w_po rfl rfl ⟨_, rfl, _, rfl, h34⟩ (po_la (.t rfl) ty3) rfl<|w_po rfl rfl ⟨_, rfl, _, rfl, h34⟩ (po_add (.t rfl) (.t rfl)) rfl<|w_po rfl rfl ⟨_, rfl, _, rfl, h34⟩ (po_mov (.t rfl)) rfl<|w_po rfl rfl ⟨_, rfl, _, rfl, h34⟩ (po_mov (.t rfl)) rfl<|w_bind fun u40 h39 => w_po rfl rfl ⟨_, rfl, _, rfl, h34⟩ (po_ia (.t rfl) (.t rfl) h39 sl58) rfl<|w_po rfl rfl ⟨_, rfl, _, rfl, h34⟩ (po_fa (.t rfl) fs115_0 F_Seg_at_) rfl<|w_po rfl rfl ⟨_, rfl, _, rfl, h34⟩ (po_la (.t rfl) ty3) rfl<|w_po rfl rfl ⟨_, rfl, _, rfl, h34⟩ (po_ge (.t rfl) (.t rfl)) rfl<|w_po rfl rfl ⟨_, rfl, _, rfl, h30⟩ (po_pickt (t := rd kBool (decide ((IntKind.wrap .i64 ((Seg.at_ u36) + (Seg.len u38))) ≥ (Seg.at_ u40)))) (.t rfl) h34 (.t rfl)) rfl<|w_nil<|x_mid ((decide ((IntKind.wrap .i64 ((Seg.at_ u36) + (Seg.len u38))) ≥ (Seg.at_ u40))), ()) rfl ⟨rfl, rfl, rfl, rfl, rfl, trivial⟩ (.nil _)
                · exact w_skip rfl ⟨_, rfl, .inl ⟨_, rfl, ne_t h34⟩⟩ rfl<|w_skip rfl ⟨_, rfl, .inl ⟨_, rfl, ne_t h34⟩⟩ rfl<|w_skip rfl ⟨_, rfl, .inl ⟨_, rfl, ne_t h34⟩⟩ rfl<|w_skip rfl ⟨_, rfl, .inl ⟨_, rfl, ne_t h34⟩⟩ rfl<|w_skip rfl ⟨_, rfl, .inl ⟨_, rfl, ne_t h34⟩⟩ rfl<|w_skip rfl ⟨_, rfl, .inl ⟨_, rfl, ne_t h34⟩⟩ rfl<|w_skip rfl ⟨_, rfl, .inl ⟨_, rfl, ne_t h34⟩⟩ rfl<|w_skip rfl ⟨_, rfl, .inl ⟨_, rfl, ne_t h34⟩⟩ rfl<|w_skip rfl ⟨_, rfl, .inl ⟨_, rfl, ne_t h34⟩⟩ rfl<|w_skip rfl ⟨_, rfl, .inl ⟨_, rfl, ne_t h34⟩⟩ rfl<|w_skip rfl ⟨_, rfl, .inl ⟨_, rfl, ne_t h34⟩⟩ rfl<|w_skip rfl ⟨_, rfl, .inl ⟨_, rfl, ne_t h34⟩⟩ rfl<|w_skip rfl ⟨_, rfl, .inl ⟨_, rfl, ne_t h34⟩⟩ rfl<|w_skip rfl ⟨_, rfl, .inl ⟨_, rfl, ne_t h34⟩⟩ rfl<|w_skip rfl ⟨_, rfl, .inl ⟨_, rfl, ne_t h34⟩⟩ rfl<|w_skip rfl ⟨_, rfl, .inl ⟨_, rfl, ne_t h34⟩⟩ rfl<|w_skip rfl ⟨_, rfl, .inl ⟨_, rfl, ne_t h34⟩⟩ rfl<|w_skip rfl ⟨_, rfl, .inl ⟨_, rfl, ne_t h34⟩⟩ rfl<|w_skip rfl ⟨_, rfl, .inl ⟨_, rfl, ne_t h34⟩⟩ rfl<|w_po rfl rfl ⟨_, rfl, _, rfl, h30⟩ (po_pickf (t := rd kBool false) (.t rfl) h34 (.b _)) rfl<|w_nil<|x_mid (false, ()) rfl ⟨rfl, rfl, rfl, rfl, rfl, trivial⟩ (.nil _)
              · exact w_p rfl rfl (po_pickf (t := rd kBool b32) (.t rfl) h30 (.t rfl)) rfl<|w_nil<|x_mid (b32, ()) rfl ⟨rfl, rfl, rfl, rfl, trivial⟩ (.nil _)
          · refine w_nil<|x_tn<|c_if rfl (fun h41 => ?_) (fun h41 => ?_)
            · exact c_seq<|c_reg<|l_p (po_asg (.b _)) rfl<|l_nil<|x_tn<|c_ret<|x_br<|x_tr<|x_mr<|x_br<|x_tr<|x_ret1 rfl (.t rfl)
            · exact c_skip<|x_bn<|x_tn<|c_reg<|l_p (po_mov (.t rfl)) rfl<|l_p (po_add (.t rfl) (ev_i _)) rfl<|l_p (po_asg (.t rfl)) rfl<|l_nil<|x_mid ((s2.1, (IntKind.wrap .i64 (s2.2 + 1))), ()) rfl ⟨rfl, rfl, rfl, trivial⟩ (.nil _)
  · exact c_exit<|x_te<|x_me<|x_be<|x_tn<|c_seq<|c_reg<|l_p (po_asg (.b _)) rfl<|l_nil<|x_tn<|c_ret<|x_ret1 rfl (.t rfl)
noncomputable def hr1_Ends (a0 : (List Seg)) : Option Int :=
  if ((a0.length : Int) == 0) = true then (some 0) else ((at? a0 (IntKind.wrap .i64 ((a0.length : Int) - 1))).bind (fun u3 => (at? a0 (IntKind.wrap .i64 ((a0.length : Int) - 1))).bind (fun u5 => some (IntKind.wrap .i64 ((Seg.at_ u3) + (Seg.len u5))))))
theorem c_hr1_Ends (a0 : (List Seg)) : Ct Tryz.prog 206 [rd (kSl kSeg) a0] (hr1_Ends a0) (fun r => rd kInt r) := by
  unfold hr1_Ends
  refine enter Tryz.func206 rfl Tryz.ntmps206 rfl (by kernel_rfl) fun z => c_seq<|c_reg<|l_p (po_asg (ev_i _)) rfl<|l_nil<|x_tn<|c_seq<|c_seq<|c_reg<|l_p (po_mov (.t rfl)) rfl<|l_p (po_len (ty := 0) (.t rfl) sl58) rfl<|l_p (po_eq (.t rfl) (ev_i _)) rfl<|l_nil<|x_tn<|c_if rfl (fun h1 => ?_) (fun h1 => ?_)
  · exact c_seq<|c_reg<|l_p (po_asg (ev_i _)) rfl<|l_nil<|x_tn<|c_ret<|x_tr<|x_ret1 rfl (.t rfl)
  · exact c_skip<|x_tn<|c_seq<|c_draw [0, 1, 2, 3, 4, 5, 6, 7, 8, 9, 10, 11, 12, 13, 14, 15] [] [] (by kernel_rfl) (by kernel_rfl)<|w_p rfl rfl (po_mov (.t rfl)) rfl<|w_p rfl rfl (po_mov (.t rfl)) rfl<|w_p rfl rfl (po_len (ty := 0) (.t rfl) sl58) rfl<|w_p rfl rfl (po_sub (.t rfl) (ev_i _)) rfl<|w_bind fun u3 h2 => w_p rfl rfl (po_ia (.t rfl) (.t rfl) h2 sl58) rfl<|w_p rfl rfl (po_fa (.t rfl) fs115_0 F_Seg_at_) rfl<|w_p rfl rfl (po_la (.t rfl) ty3) rfl<|w_p rfl rfl (po_mov (.t rfl)) rfl<|w_p rfl rfl (po_mov (.t rfl)) rfl<|w_p rfl rfl (po_len (ty := 0) (.t rfl) sl58) rfl<|w_p rfl rfl (po_sub (.t rfl) (ev_i _)) rfl<|w_bind fun u5 h4 => w_p rfl rfl (po_ia (.t rfl) (.t rfl) h4 sl58) rfl<|w_p rfl rfl (po_fa (.t rfl) fs115_1 F_Seg_len) rfl<|w_p rfl rfl (po_la (.t rfl) ty3) rfl<|w_p rfl rfl (po_add (.t rfl) (.t rfl)) rfl<|w_p rfl rfl (po_asg (.t rfl)) rfl<|w_nil<|x_tn<|c_ret<|x_ret1 rfl (.t rfl)
end Go.Proofs.YtojgddnefopdjaaGreatDoor
