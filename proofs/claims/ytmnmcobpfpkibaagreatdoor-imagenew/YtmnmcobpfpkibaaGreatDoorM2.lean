import Derived.Test.YtmnmcobpfpkibaaGreatDoorM1
import Derived.Laws.BytesString
import Derived.Lib.AppendStr
import Derived.Test.YtmnmcobpfpkibaaGreatDoorProg
import Derived.Shelf.SlGeneric
import Derived.Shelf.SlIterI.Sorted
import Derived.Shelf.SlIterI.Nil
import Derived.Shelf.Sort.Plain
import Derived.Shelf.Slices.In.SortNone
import Derived.Shelf.Strings.Repeat
import Derived.Ground.GgzProg
import Derived.Ground.NamesProg
import Derived.Ground.Names7Prog
namespace Go.Proofs.YtmnmcobpfpkibaaGreatDoor
open Go.RowKit
set_option linter.unusedVariables false
def KY (Y : Nat → Prop) (w w' : World) : Prop := ∀ b, Y b → ∀ o, w.heap[b]? = some o → w'.heap[b]? = some o
theorem KY.refl (Y : Nat → Prop) (w : World) : KY Y w w := fun _ _ _ h => h
theorem KY.trans {Y : Nat → Prop} {a b c : World} (h : KY Y a b) (k : KY Y b c) : KY Y a c := fun i hi o ho => k i hi o (h i hi o ho)
theorem Ext.ky {Y : Nat → Prop} {a b : World} (h : Ext a b) : KY Y a b := fun i _ o ho => h.blk ho
def Rl (Y : Nat → Prop) : Nat → World → World → Prop
  | 0, _, _ => True
  | 1, w, w' => KY Y w w'
  | _, w, w' => Ext w w'
theorem Rl.refl (Y : Nat → Prop) : ∀ (l : Nat) (w : World), Rl Y l w w
  | 0, _ => trivial
  | 1, w => KY.refl Y w
  | _ + 2, w => Ext.refl w
theorem Rl.trans {Y : Nat → Prop} : ∀ {l : Nat} {a b c : World}, Rl Y l a b → Rl Y l b c → Rl Y l a c
  | 0, _, _, _, _, _ => trivial
  | 1, _, _, _, h, k => KY.trans h k
  | _ + 2, _, _, _, h, k => Ext.trans h k
section
variable {P : Program} {ops : Array Oper} {Y : Nat → Prop}
def FloatY (P : Program) (ops : Array Oper) (Y : Nat → Prop) (l : Nat) (o : Oper) (v : Value) (a : Act) (w : World) : Prop :=
  (Region.wanted o (yielded ops a.tmps) = true ∧ ∀ w', Rl Y l w w' → (execOp a.eval o).run P w' = .ok (.value v) w') ∨
  (Region.wanted o (yielded ops a.tmps) = false ∧ v = undef)
theorem FloatY.later {l : Nat} {o : Oper} {v : Value} {a : Act} {w w' : World} (h : FloatY P ops Y l o v a w) (he : Rl Y l w w') : FloatY P ops Y l o v a w' := by
  rcases h with ⟨h1, h2⟩ | h
  · exact .inl ⟨h1, fun x hx => h2 x (he.trans hx)⟩
  · exact .inr h
theorem FloatY.of_same {l : Nat} {o : Oper} {v : Value} {a a' : Act} {w : World} (hy : FloatY P ops Y l o v a w) (he : execOp a'.eval o = execOp a.eval o)
    (hw : Region.wanted o (yielded ops a'.tmps) = Region.wanted o (yielded ops a.tmps)) : FloatY P ops Y l o v a' w := by
  unfold FloatY at *
  rw [he, hw]
  exact hy
theorem FloatY.wpOp {l : Nat} {i : Nat} {o : Oper} {v : Value} {a : Act} {w : World} {Q : Exit → Act → World → Prop} (hi : ops[i]? = some o) (hy : FloatY P ops Y l o v a w) {K : Act → World → Prop} (h : K (a.put o.dst v) w) : Go.wpOp P ops Q i K a w := by
  unfold Go.wpOp
  simp only [hi]
  rcases hy with ⟨hw, hv⟩ | ⟨hw, rfl⟩
  · have := hv w (Rl.refl Y l w)
    simp only [hw, if_true, Oper.wp, this, Oper.upon]; exact .inl h
  · simp only [hw, Bool.false_eq_true, if_false]; exact h
theorem wpOp_putY {l : Nat} {j : Nat} {oi oj : Oper} {v : Value} (hj : ops[j]? = some oj) (hap : oi.apart ops oj = true)
    (hsi : ∀ cs b, oi.op ≠ .select cs b) (hsj : ∀ cs b, oj.op ≠ .select cs b) {K : Act → World → Prop} {a : Act} {w : World}
    (hy : FloatY P ops Y l oi v a w) (h : wpOp P ops NoQ j K (a.put oi.dst v) w) :
    wpOp P ops NoQ j (fun a' w' => FloatY P ops Y l oi v a' w ∧ K (a'.put oi.dst v) w') a w := by
  obtain ⟨h1, h2, h3⟩ := Oper.apart_spec hap
  have keep : ∀ (a : Act), FloatY P ops Y l oi v a w → ∀ u, FloatY P ops Y l oi v (a.put oj.dst u) w := fun a hy u =>
    hy.of_same (execOp_put oi hsi a oj.dst u h3) (wanted_put oi a oj.dst u h3)
  have keepD : ∀ d, FloatY P ops Y l oi v { a with defers := d :: a.defers } w := fun d => hy.of_same rfl rfl
  unfold wpOp at *
  simp only [hj] at *
  rw [wanted_put oj a oi.dst v h1] at h
  split
  · rename_i hw
    simp only [hw, if_true] at h
    rcases h with h | ⟨_, hlets⟩
    case inr => exact (noQ_lets hlets).elim
    refine .inl ?_
    unfold Oper.wp at *
    rw [execOp_put oj hsj a oi.dst v h1] at h
    generalize (execOp a.eval oj).run P w = r at *
    cases r with
    | ok n w' =>
      cases n <;> simp only [Oper.upon] at h ⊢
      case value u => exact ⟨keep a hy u, by rw [← Act.put_comm a v u h2]; exact h⟩
      case skip => exact ⟨keep a hy _, by rw [← Act.put_comm a v undef h2]; exact h⟩
      case defer d =>
        refine ⟨keep _ (keepD d) _, ?_⟩
        rw [← Act.put_comm _ v undef h2, ← Act.put_defers]
        exact h
      case enter f args =>
        refine Calls.mono h fun e w'' he => ?_
        cases e with
        | returned u => exact ⟨keep a hy u, by rw [← Act.put_comm a v u h2]; exact he⟩
        | panicked c => exact he
        | outgrown => exact he
      case row row args => exact Rows.mono h fun u w'' he => ⟨keep a hy u, by rw [← Act.put_comm a v u h2]; exact he⟩
    | halt x w' =>
      cases x <;> simp only [Oper.upon] at h ⊢
      case panic u => exact h
  · rename_i hw
    simp only [hw] at h
    exact ⟨keep a hy _, by rw [← Act.put_comm a v undef h2]; exact h⟩
def anyY (P : Program) (ops : Array Oper) (Y : Nat → Prop) (ex sk : Nat → Bool) (Q : Act → World → Prop) : Nat → Array Bool → Act → World → Prop
  | 0, listed, a, w => Region.ready .any ops listed = [] ∧ Q a w
  | f + 1, listed, a, w => (Region.ready .any ops listed = [] → Q a w) ∧
    ∀ i ∈ Region.ready .any ops listed, wpOp P ops NoQ i (fun a' w' => (sk i = false → Ext w w') ∧ (ex i = false → KY Y w w') ∧ anyY P ops Y ex sk Q f (listed.setIfInBounds i true) a' w') a w
theorem wpAny_of_anyY {ex sk : Nat → Bool} {Q : Act → World → Prop} {Q' : Exit → Act → World → Prop} (hQ : ∀ a w, Q a w → Q' .normal a w) : ∀ (f : Nat) (listed : Array Bool) (a : Act) (w : World),
    anyY P ops Y ex sk Q f listed a w → wpAny P .any ops Q' f listed a w
  | 0, _, _, _, h => ⟨h.1, hQ _ _ h.2⟩
  | f + 1, _, _, _, h => ⟨fun h0 => hQ _ _ (h.1 h0), fun i hi => wpOp_ofNo (fun a' w' h' => wpAny_of_anyY hQ f _ a' w' h'.2.2) (h.2 i hi)⟩
theorem anyY_first {l : Nat} {ex sk : Nat → Bool} {Q : Act → World → Prop} {i : Nat} {oi : Oper} {v : Value} (hi : ops[i]? = some oi) (hsel : ∀ (j : Nat) (o : Oper) cs b, ops[j]? = some o → o.op ≠ .select cs b) (hski : sk i = false) :
    ∀ (f : Nat) (listed : Array Bool) (a : Act) (w : World), Closed ops listed →
      (∀ j oj, ops[j]? = some oj → j ≠ i → listed.getD j true = false → (∀ e ∈ oj.after, Region.binds .any e = true → e.on ≠ i) → oi.apart ops oj = true) →
      (∀ j, sk j = true → listed.getD j true = false → 2 ≤ l → ∃ n, anc ops n j i = true) →
      (∀ j, ex j = true → listed.getD j true = false → l = 1 → ∃ n, anc ops n j i = true) →
      i ∈ Region.ready .any ops listed → FloatY P ops Y l oi v a w →
      anyY P ops Y ex sk Q f (listed.setIfInBounds i true) (a.put oi.dst v) w → anyY P ops Y ex sk Q (f + 1) listed a w := by
  intro f
  induction f with
  | zero =>
    intro listed a w _ _ _ _ hr hy H
    refine ⟨fun h => (by rw [h] at hr; cases hr), fun j hj => ?_⟩
    by_cases hji : j = i
    · subst hji; exact hy.wpOp hi ⟨fun _ => Ext.refl w, fun _ => KY.refl Y w, H⟩
    · have := ready_mono hj hji
      rw [H.1] at this
      cases this
  | succ f ih =>
    intro listed a w hcl hfree hsk hex hr hy H
    have hun := (mem_ready.1 hr).1
    refine ⟨fun h => (by rw [h] at hr; cases hr), fun j hj => ?_⟩
    by_cases hji : j = i
    · subst hji; exact hy.wpOp hi ⟨fun _ => Ext.refl w, fun _ => KY.refl Y w, H⟩
    · have h1 := H.2 j (ready_mono hj hji)
      obtain ⟨hjun, oj, hoj, hall⟩ := mem_ready.1 hj
      have hnot : ∀ e ∈ oj.after, Region.binds .any e = true → e.on ≠ i := fun e he hb heq => by
        have h1 := hall e he hb
        rw [heq, getD_both hun] at h1
        cases h1
      have hskj : 2 ≤ l → sk j = false := fun hm => by
        cases hs : sk j with
        | false => rfl
        | true =>
          obtain ⟨n, hn⟩ := hsk j hs hjun hm
          have := anc_listed hcl n j hoj hall hn
          rw [getD_both hun] at this
          cases this
      have hexj : l = 1 → ex j = false := fun hm => by
        cases hs : ex j with
        | false => rfl
        | true =>
          obtain ⟨n, hn⟩ := hex j hs hjun hm
          have := anc_listed hcl n j hoj hall hn
          rw [getD_both hun] at this
          cases this
      have h2 := wpOp_putY hoj (hfree j oj hoj hji hjun hnot) (fun cs b => hsel i oi cs b hi) (fun cs b => hsel j oj cs b hoj) hy h1
      have unl : ∀ k, (listed.setIfInBounds j true).getD k true = false → listed.getD k true = false := fun k hk => by
        by_cases hjk : j = k
        · subst hjk; exact hjun
        · rw [getD_set_ne true hjk] at hk; exact hk
      refine wpOp_mono (fun a' w' h3 => ?_) h2
      obtain ⟨h4, h5, h5', h6⟩ := h3
      refine ⟨h5, h5', ih (listed.setIfInBounds j true) a' w' (hcl.set hj) (fun k ok hk hki hu hno => hfree k ok hk hki (unl k hu) hno) (fun k hk hu => hsk k hk (unl k hu)) (fun k hk hu => hex k hk (unl k hu)) (ready_mono hr (Ne.symm hji)) (h4.later ?_) ?_⟩
      · match l, hskj, hexj with
        | 0, _, _ => trivial
        | 1, _, hexj => exact h5' (hexj rfl)
        | l + 2, hskj, _ => exact h5 (hskj (by omega))
      rw [Array.setIfInBounds_comm _ _ hji]
      exact h6
def lvl (ly : List Nat) (o : Oper) (i : Nat) : Nat := if opMe o.op then 0 else if inL ly i then 1 else 2
def exq (ops : Array Oper) (ly : List Nat) (j : Nat) : Bool := ly.all fun i => anc ops 14 j i
def walkY (P : Program) (ops : Array Oper) (Y : Nat → Prop) (ly : List Nat) (fl sk : Nat → Bool) (Q : Act → World → Prop) : List Nat → Act → World → Prop
  | [], a, w => Q a w
  | i :: rest, a, w => match ops[i]? with
    | none => False
    | some o =>
      if fl i then
        if Region.wanted o (yielded ops a.tmps) then ∃ v, (∀ w', Rl Y (lvl ly o i) w w' → (execOp a.eval o).run P w' = .ok (.value v) w') ∧ walkY P ops Y ly fl sk Q rest (a.put o.dst v) w
        else walkY P ops Y ly fl sk Q rest (a.put o.dst undef) w
      else
        if Region.wanted o (yielded ops a.tmps) then o.wp P a w (fun a' w' => (sk i = false → Ext w w') ∧ (exq ops ly i = false → KY Y w w') ∧ walkY P ops Y ly fl sk Q rest a' w') NoQ
        else walkY P ops Y ly fl sk Q rest (a.put o.dst undef) w
def chkY (ops : Array Oper) (ly : List Nat) (fl sk : Nat → Bool) : List Nat → Array Bool → Bool
  | [], listed => (Region.ready .any ops listed).isEmpty
  | i :: rest, listed =>
    (if fl i then (Region.ready .any ops listed).contains i && Region.free .any ops listed i && !sk i && (List.range ops.size).all (fun j => !sk j || listed.getD j true || meAt ops i || inL ly i || anc ops 14 j i)
     else decide (Region.ready .any ops listed = [i])) && chkY ops ly fl sk rest (listed.setIfInBounds i true)
theorem anyY_of_walk {ly : List Nat} {fl sk : Nat → Bool} {Q : Act → World → Prop} (hsel : Region.noSelect ops = true) (hskb : ∀ j, sk j = true → j < ops.size) : ∀ (ord : List Nat) (listed : Array Bool) (a : Act) (w : World), Closed ops listed → chkY ops ly fl sk ord listed = true →
    walkY P ops Y ly fl sk Q ord a w → anyY P ops Y (exq ops ly) sk Q ord.length listed a w
  | [], listed, a, w, _, hB, h => ⟨by simpa [chkY] using hB, h⟩
  | i :: rest, listed, a, w, hcl, hB, h => by
    simp only [chkY, Bool.and_eq_true] at hB
    obtain ⟨hB1, hB2⟩ := hB
    unfold walkY at h
    cases ho : ops[i]? with
    | none => rw [ho] at h; exact h.elim
    | some o =>
      rw [ho] at h
      simp only at h
      by_cases hf : fl i = true
      · simp only [hf, if_true, Bool.and_eq_true] at hB1 h
        obtain ⟨⟨⟨hr, hfr⟩, hs⟩, hall⟩ := hB1
        have hr' : i ∈ Region.ready .any ops listed := by simpa using hr
        have hfl : ∃ v, FloatY P ops Y (lvl ly o i) o v a w ∧ walkY P ops Y ly fl sk Q rest (a.put o.dst v) w := by
          by_cases hw : Region.wanted o (yielded ops a.tmps) = true
          · simp only [hw, if_true] at h
            obtain ⟨v, h1, h2⟩ := h
            exact ⟨v, .inl ⟨hw, h1⟩, h2⟩
          · simp only [hw] at h
            exact ⟨undef, .inr ⟨by simpa using hw, rfl⟩, h⟩
        obtain ⟨v, hy, hK⟩ := hfl
        refine anyY_first ho (Region.noSelect_spec hsel) (by simpa using hs) _ listed a w hcl (Region.free_spec ho hfr) (fun j hj hu hm => ⟨14, ?_⟩) (fun j hj hu hm => ⟨14, ?gx⟩) hr' hy (anyY_of_walk hsel hskb rest _ _ _ (hcl.set hr') hB2 hK)
        case gx =>
          unfold lvl at hm
          split at hm
          · omega
          · split at hm
            · rename_i hly
              exact List.all_eq_true.1 hj i (by simpa [inL] using hly)
            · omega
        have h1 := List.all_eq_true.1 hall j (List.mem_range.2 (hskb j hj))
        unfold lvl at hm
        split at hm
        · omega
        · rename_i hme
          split at hm
          · omega
          · rename_i hly; simpa [hj, hu, meAt, ho, hme, hly] using h1
      · simp only [hf] at hB1 h
        have hB1' : Region.ready .any ops listed = [i] := by simpa using hB1
        refine ⟨fun h0 => (by rw [hB1'] at h0; cases h0), fun j hj => ?_⟩
        rw [hB1'] at hj
        have : j = i := by simpa using hj
        subst this
        have hr' : j ∈ Region.ready .any ops listed := by rw [hB1']; simp
        unfold wpOp
        simp only [ho]
        by_cases hw : Region.wanted o (yielded ops a.tmps) = true
        · simp only [hw, if_true] at h ⊢
          exact .inl (Oper.wp_mono (fun a' w' h' => ⟨h'.1, h'.2.1, anyY_of_walk hsel hskb rest _ _ _ (hcl.set hr') hB2 h'.2.2⟩) h)
        · simp only [hw] at h ⊢
          exact ⟨fun _ => Ext.refl w, fun _ => KY.refl Y w, anyY_of_walk hsel hskb rest _ _ _ (hcl.set hr') hB2 h⟩
theorem region_walkY {id : Nat} {Q : Exit → Act → World → Prop} {a : Act} {w : World} {l : List Oper} (Y : Nat → Prop) (ord fo sk ly : List Nat) (hm : P.follows .mixedOrders = true)
    (hB : (Region.noSelect l.toArray && sk.all (fun j => decide (j < l.length)) && decide (ord.length = l.length) && chkY l.toArray ly (fun i => !inL fo i) (inL sk) ord (Array.replicate l.length false)) = true)
    (h : walkY P l.toArray Y ly (fun i => !inL fo i) (inL sk) (Q .normal) ord a w.drew) : (Code.region id l.toArray true).wp P Q a w := by
  simp only [Bool.and_eq_true, decide_eq_true_eq] at hB
  obtain ⟨⟨⟨h1, h2⟩, h3⟩, h4⟩ := hB
  refine wp_region_any hm ?_
  have := anyY_of_walk (P := P) (Y := Y) (Q := Q .normal) h1 (fun j hj => by
    have := List.all_eq_true.1 h2 j (by simpa [inL] using hj)
    simpa using this) ord (Array.replicate l.length false) a w.drew (fun j o _ hl => by rw [getD_replicate_false] at hl; cases hl) h4 h
  rw [h3] at this
  exact wpAny_of_anyY (fun _ _ h => h) _ _ _ _ (by simpa using this)
end
section
variable {P : Program} {ρ : Type} {z : Zt} {n : Nat} {Y : Nat → Prop}
def JY (P : Program) (z : Zt) (n : Nat) (Y : Nat → Prop) (ly : List Nat) (ops : List Oper) (fo sk : List Nat) (T : Slots) (B : Boxes) (ord : List Nat) (Φ : Option ρ) (Q : Kont ρ) : Prop :=
  ∀ r, Φ = some r → ∀ p a, St z p n T B a → walkY P ops.toArray Y ly (fun i => !inL fo i) (inL sk) (Q r .normal) ord a p.w
theorem c_drawy {T B i Φ} {Q : Kont ρ} {l : List Oper} (Y : Nat → Prop) (ly ord fo sk : List Nat) (hm : P.follows .mixedOrders = true)
    (hB : (Region.noSelect l.toArray && sk.all (fun j => decide (j < l.length)) && decide (ord.length = l.length) && chkY l.toArray ly (fun i => !inL fo i) (inL sk) ord (Array.replicate l.length false)) = true)
    (h : JY P z n Y ly l fo sk T B ord Φ Q) : JC P z n T B (.region i l.toArray true) Φ Q := fun r hr p a hs => by
  refine region_walkY Y ord fo sk ly hm hB ?_
  have hle : p.le ⟨p.w.drew, p.S, p.lt⟩ := fun b hb => ⟨hb, rfl⟩
  exact h r hr ⟨p.w.drew, p.S, p.lt⟩ a (hs.go hle hs.ex.drew hs.su (fun g b hg => by obtain ⟨h1, h2, o, h3, h4⟩ := hs.ow g b hg; exact ⟨h1, h2, o, h3, b.up hle h4⟩) hs.on hs.nd)
theorem y_nil {T B Φ ops fo sk ly} {Q : Kont ρ} (h : JX z n T B .normal Φ Q) : JY P z n Y ly ops fo sk T B [] Φ Q := h
theorem y_bind {α : Type} {T B ops fo sk l ly} {m : Option α} {K : α → Option ρ} {Q : Kont ρ} (h : ∀ x, m = some x → JY P z n Y ly ops fo sk T B l (K x) Q) : JY P z n Y ly ops fo sk T B l (m.bind K) Q := fun r hr => by
  obtain ⟨x, hx, hr⟩ := Option.bind_eq_some_iff.1 hr; exact h x hx r hr
theorem y_p {T B ops fo sk l ly Φ ty pos af op d t} {i : Nat} {Q : Kont ρ} (ho : ops[i]? = some ⟨some d, op, ty, pos, af, none⟩) (hf : (inL fo i || inL ly i) = false) (hp : PO P z n T B op t) (hd : Nat.ble (d + 1) n = true) (h : JY P z n Y ly ops fo sk ((d, t) :: T) B l Φ Q) : JY P z n Y ly ops fo sk T B (i :: l) Φ Q := fun r hr p a hs => by
  unfold walkY
  simp only [Bool.or_eq_false_iff] at hf
  have ho' : ops.toArray[i]? = some ⟨some d, op, ty, pos, af, none⟩ := by simpa using ho
  obtain ⟨v, hv, he⟩ := hp p a hs
  simp only [ho', hf.1, Bool.not_false, if_true]
  rw [if_pos (wanted_of hs (o := ⟨some d, op, ty, pos, af, none⟩) trivial)]
  refine ⟨v, fun w' hx => ?_, h r hr p _ (hs.put (Nat.le_of_ble_eq_true hd) hv)⟩
  unfold lvl at hx
  cases hm : opMe op with
  | false => simp only [hm, Bool.false_eq_true, if_false, hf.2] at hx; exact he _ w' rfl hx
  | true => exact run_me (w := p.w) hm (he _ p.w rfl (Ext.refl _))
def PY (P : Program) (z : Zt) (n : Nat) (Y : Nat → Prop) (T : Slots) (B : Boxes) (op : Op) (t : TV) : Prop :=
  ∀ p a, St z p n T B a → ∃ v, t.h p v ∧ ∀ (o : Oper) (w' : World), o.op = op → KY Y p.w w' → (execOp a.eval o).run P w' = .ok (.value v) w'
theorem y_py {T B ops fo sk l ly Φ ty pos af op d t} {i : Nat} {Q : Kont ρ} (ho : ops[i]? = some ⟨some d, op, ty, pos, af, none⟩) (hf : (!inL fo i && inL ly i) = true) (hp : PY P z n Y T B op t) (hd : Nat.ble (d + 1) n = true) (h : JY P z n Y ly ops fo sk ((d, t) :: T) B l Φ Q) : JY P z n Y ly ops fo sk T B (i :: l) Φ Q := fun r hr p a hs => by
  unfold walkY
  simp only [Bool.and_eq_true, Bool.not_eq_true'] at hf
  have ho' : ops.toArray[i]? = some ⟨some d, op, ty, pos, af, none⟩ := by simpa using ho
  obtain ⟨v, hv, he⟩ := hp p a hs
  simp only [ho', hf.1, Bool.not_false, if_true]
  rw [if_pos (wanted_of hs (o := ⟨some d, op, ty, pos, af, none⟩) trivial)]
  refine ⟨v, fun w' hx => ?_, h r hr p _ (hs.put (Nat.le_of_ble_eq_true hd) hv)⟩
  unfold lvl at hx
  cases hm : opMe op with
  | false => simp only [hm, Bool.false_eq_true, if_false, hf.2, if_true] at hx; exact he _ w' rfl hx
  | true => exact run_me (w := p.w) hm (he _ p.w rfl (KY.refl _ _))
theorem py_loh {T : Slots} {B : Boxes} {α β : Type} {k : Kd α} {kx : Kd β} {y : α} {get : α → Hd} {xs : List β} {o : Option Nat} {c : Nat} {t : TypeId} {x : Operand} {g off : Nat} (i : Nat) (h : Ev T x (own g off)) (hi : B[i]? = some (some g, box k y)) (ha : Hat k off get) (hg : get y = (xs.length, o, c)) (ht : tyB P t kHd = true) (hY : Y g) :
    PY P z n Y T B (.load t x) (row kx xs o c) := fun p a hs => by
  have h1 : a.eval x = .pointer (some ⟨g, off, none⟩) := hs.ev h
  obtain ⟨_, _, cs, tt, h3, h4⟩ := hs.box hi
  have h5 := ha.g h4
  rw [hg] at h5
  have hk : kHd.K p.w p.S (xs.length, o, c) [Hd.v (xs.length, o, c)] := rfl
  refine ⟨_, rfl, fun oo w' ho he => ?_⟩
  have := run_loadK ht (w := w') hk (ad := ⟨g, off, none⟩) (fun j u hj => by
    match j, hj with
    | 0, hj =>
      simp at hj
      subst hj
      rw [add_plain, cell_of_row _ _ _ _ _ _ (he g hY _ h3)]
      simpa using h5)
  simp [execOp, ho, h1, Instr.loadAt, Instr.sureAddr, this, Kd.mk', kHd, Hd.v]
theorem py_fo {T : Slots} {B : Boxes} {g o' : Nat} {s : TypeId} {f off : Nat} {x : Operand} (h : Ev T x (own g o')) (hf : fsB P s f off = true) : PY P z n Y T B (.fieldAddr s x f) (own g (o' + off)) := fun p a hs => by
  have h1 : a.eval x = .pointer (some ⟨g, o', none⟩) := hs.ev h
  exact ⟨_, rfl, fun o w' ho _ => by simp [execOp, ho, h1, run_fieldAt hf, add_plain]⟩
theorem y_eo {T B ops fo sk l ly Φ o} {i : Nat} {R : Pt → Act → Prop} {Q : Kont ρ} (ho : ops[i]? = some o) (hf : inL fo i = true) (g : Gd ops T o.guard) (hp : EO P z n T B o R) (h : ∀ r, Φ = some r → ∀ q a, R q a → walkY P ops.toArray Y ly (fun i => !inL fo i) (inL sk) (Q r .normal) l a q.w) : JY P z n Y ly ops fo sk T B (i :: l) Φ Q := fun r hr p a hs => by
  unfold walkY
  have ho' : ops.toArray[i]? = some o := by simpa using ho
  simp only [ho', hf, Bool.not_true, Bool.false_eq_true, if_false]
  rw [if_pos (wanted_of hs g)]
  exact hp p a hs _ (fun q a' hR he => ⟨fun _ => he, fun _ => he.ky, h r hr q a' hR⟩)
def SOY (P : Program) (z : Zt) (n : Nat) (Y : Nat → Prop) (T : Slots) (B : Boxes) (o : Oper) (R : Pt → Act → Prop) : Prop :=
  ∀ p a, St z p n T B a → ∀ K : Act → World → Prop, (∀ q a', R q a' → KY Y p.w q.w → K a' q.w) → o.wp P a p.w K NoQ
variable {T : Slots} {B : Boxes} {ty t : TypeId} {pos : String} {af : Array Edge} {gd : Option (Nat × Bool)} {d : Nat}
theorem y_so {T B ops fo sk l ly Φ o} {i : Nat} {R : Pt → Act → Prop} {Q : Kont ρ} (ho : ops[i]? = some o) (hf : inL fo i = true) (hsk : inL sk i = true) (g : Gd ops T o.guard) (hx : exq ops.toArray ly i = true ∨ ∀ b, ¬ Y b) (hp : SO P z n T B o R) (h : ∀ r, Φ = some r → ∀ q a, R q a → walkY P ops.toArray Y ly (fun i => !inL fo i) (inL sk) (Q r .normal) l a q.w) : JY P z n Y ly ops fo sk T B (i :: l) Φ Q := fun r hr p a hs => by
  unfold walkY
  have ho' : ops.toArray[i]? = some o := by simpa using ho
  simp only [ho', hf, Bool.not_true, Bool.false_eq_true, if_false]
  rw [if_pos (wanted_of hs g)]
  refine hp p a hs _ (fun q a' hR => ⟨fun hx => (by rw [hsk] at hx; cases hx), fun he b hb => ?_, h r hr q a' hR⟩)
  rcases hx with hx | hx
  · rw [hx] at he; cases he
  · exact (hx b hb).elim
theorem y_st {α β : Type} {k : Kd α} {m : Kd β} {y : α} {v : β} {get : α → β} {set : α → β → α} {x u : Operand} {g off : Nat} {ops fo sk ord ly} {Φ : Option ρ} {Q : Kont ρ} {q : Nat} (b : Nat) (ho : ops[q]? = some ⟨none, .store t x u, ty, pos, af, none⟩) (hf : inL fo q = true) (hsk : inL sk q = true) (hx : exq ops.toArray ly q = true ∨ ∀ b, ¬ Y b) (h : Ev T x (own g off)) (hv : Ev T u (rd m v)) (hi : B[b]? = some (some g, box k y)) (fl : Fld k off m get set) (ht : tyB P t m = true)
    (hk : JY P z n Y ly ops fo sk T (B.set b (some g, box k (set y v))) ord Φ Q) : JY P z n Y ly ops fo sk T B (q :: ord) Φ Q :=
  y_so ho hf hsk trivial hx (s_store b h hv hi fl ht) fun r hr q a hs => hk r hr q a hs
theorem y_stf {α α' β : Type} {k : Kd α} {k' : Kd α'} {m : Kd β} {y : α} {v : β} {set : α → β → α'} {x u : Operand} {g off : Nat} {ops fo sk ord ly} {Φ : Option ρ} {Q : Kont ρ} {q : Nat} (b : Nat) (ho : ops[q]? = some ⟨none, .store t x u, ty, pos, af, none⟩) (hf : inL fo q = true) (hsk : inL sk q = true) (hx : exq ops.toArray ly q = true ∨ ∀ b, ¬ Y b) (h : Ev T x (own g off)) (hv : Ev T u (rd m v)) (hi : B[b]? = some (some g, box k y)) (fl : Fst k k' off m set) (ht : tyB P t m = true)
    (hk : JY P z n Y ly ops fo sk T (B.set b (some g, box k' (set y v))) ord Φ Q) : JY P z n Y ly ops fo sk T B (q :: ord) Φ Q :=
  y_so ho hf hsk trivial hx (s_stf b h hv hi fl ht) fun r hr q a hs => hk r hr q a hs
theorem y_app {α : Type} {k : Kd α} {e : TypeId} {xs ys : List α} {o : Option Nat} {c : Nat} {x y : Operand} {K : List α → Option ρ} {fo sk ord ly : List Nat} {ops : List Oper} {Q : Kont ρ} {j : Nat} (i : Nat) (ho : ops[j]? = some ⟨some d, .call ⟨.builtin .append, #[x, y], #[t, t]⟩, ty, pos, af, none⟩) (hf : inL fo j = true) (hsk : inL sk j = true) (hx : exq ops.toArray ly j = true ∨ ∀ b, ¬ Y b) (h : Ev T x (row k xs o c)) (hi : B[i]? = some (o, rows k e xs c)) (hy : Ev T y (rd (kSl k) ys)) (ht : apB P t e k.sz = true) (hd : Nat.ble (d + 1) n = true)
    (hk : ∀ r o' c', JY P z n Y ly ops fo sk ((d, row k r o' c') :: T) (B.set i (o', rows k e r c')) ord (K r) Q) : JY P z n Y ly ops fo sk T B (j :: ord) ((app xs ys).bind K) Q :=
  y_bind fun r hr => y_so ho hf hsk trivial hx (s_app i h hi hy hr ht hd) fun r' hr' q a ⟨o', c', hs⟩ => hk r o' c' r' hr' q a hs
theorem y_bsl {α : Type} (k : Kd α) {fo sk ord ly : List Nat} {ops : List Oper} {Φ : Option ρ} {Q : Kont ρ} {i : Nat} {len : Nat} {parts : List (Nat × Operand)} {ys : List α} (ho : ops[i]? = some ⟨some d, .buildSlice t len parts.toArray, ty, pos, af, none⟩) (hf : inL fo i = true) (ht : slzB P t k.sz = true) (hl : (Nat.beq parts.length len && Nat.ble 1 len && Nat.ble (len * k.sz) 16777216) = true) (h : Bsl T k 0 parts ys) (hd : Nat.ble (d + 1) n = true)
    (hk : JY P z n Y ly ops fo sk ((d, rd (kSl k) ys) :: T) B ord Φ Q) : JY P z n Y ly ops fo sk T B (i :: ord) Φ Q :=
  y_eo ho hf trivial (e_bsl k ht hl h hd) fun r hr q a hs => hk r hr q a hs
theorem y_in {R : Boxes} {g : Nat} {x : BX} (i : Nat) (h : R[i]? = some (some g, x)) : ∀ b, b = g → ∃ x, (some b, x) ∈ R := fun b hb => ⟨x, hb ▸ List.mem_of_getElem? h⟩
theorem y_callb {σ η : Type} {f at_ ts} {xs : List Operand} {Bi R : Boxes} {m : Option σ} {res : σ → η → TV} {Bo : σ → η → Boxes} {K : σ → Option ρ} {fo sk ord ly : List Nat} {ops : List Oper} {Q : Kont ρ} {i : Nat} (ho : ops[i]? = some ⟨some d, .call ⟨.value (.func f), xs.toArray, at_⟩, ty, pos, af, none⟩) (hf : inL fo i = true) (hsk : inL sk i = true) (hc : Cb P f ts Bi m res Bo) (hsp : Spl B Bi R) (hY : ∀ b, Y b → ∃ x, (some b, x) ∈ R) (hx : Evs T xs ts) (hd : Nat.ble (d + 1) n = true) (hk : ∀ y h, m = some y → JY P z n Y ly ops fo sk ((d, res y h) :: T) (Bo y h ++ R) ord (K y) Q) :
    JY P z n Y ly ops fo sk T B (i :: ord) (m.bind K) Q := by
  refine y_bind fun y hy r hr p a hs => ?_
  unfold walkY
  have ho' : ops.toArray[i]? = some ⟨some d, .call ⟨.value (.func f), xs.toArray, at_⟩, ty, pos, af, none⟩ := by simpa using ho
  simp only [ho', hf, Bool.not_true, Bool.false_eq_true, if_false]
  rw [if_pos (wanted_of hs (o := ⟨some d, .call ⟨.value (.func f), xs.toArray, at_⟩, ty, pos, af, none⟩) trivial)]
  obtain ⟨⟨fn, hf', hb, hnm⟩, hc⟩ := hc
  unfold Oper.wp
  have hb' : fn.body ≠ none := by intro h; simp [h] at hb
  have hnm' : fn.name ≠ "runtime.NumGoroutine" := by simpa using hnm
  have e : (execOp a.eval ⟨some d, .call ⟨.value (.func f), xs.toArray, at_⟩, ty, pos, af, none⟩).run P p.w = .ok (.enter f (xs.map a.eval).toArray) p.w := by
    simp [execOp, resolve, Deferred.ofValue, Act.eval, invoke, callFunc, hf', hnm', hb']
  rw [e]
  have hown : Owns p Bi := ⟨fun g b hg => by obtain ⟨h1, _, h2⟩ := hs.ow g b (hsp.i.subset hg); exact ⟨h1, h2⟩, fun b hg => hs.on b (hsp.i.subset hg), (hsp.i.filterMap _).nodup hs.nd⟩
  refine (hc y hy p _ hs.gl (hs.evs hx) hown).mono ?_
  rintro e w' ⟨v, rfl, q, h, rfl, h1, h2, h3, h4, h5, h6⟩
  refine ⟨fun hx => (by rw [hsk] at hx; cases hx), fun _ b hb o ho => ?_, hk y h hy r hr q _ ((hs.lent hsp h1 h2 h3 h5 h6).put (Nat.le_of_ble_eq_true hd) h4)⟩
  obtain ⟨x, hx⟩ := hY b hb
  exact (h2.block b (blk_lt ho) (fun hk => hsp.apart hs.nd b hk (mem_keys.2 ⟨_, hx⟩))).trans ho
theorem py_fo0 {T : Slots} {B : Boxes} {g o' : Nat} {s : TypeId} {f : Nat} {x : Operand} (h : Ev T x (own g o')) (hf : fsB P s f 0 = true) : PY P z n Y T B (.fieldAddr s x f) (own g o') := py_fo h hf
theorem py_nck {T : Slots} {B : Boxes} {x : Operand} {g o : Nat} (h : Ev T x (own g o)) : PY P z n Y T B (.nilCheck x) (own g o) := fun p a hs => by
  have h1 : a.eval x = .pointer (some ⟨g, o, none⟩) := hs.ev h
  exact ⟨_, rfl, fun o w' ho _ => by simp [execOp, ho, h1]⟩
end
end Go.Proofs.YtmnmcobpfpkibaaGreatDoor
namespace Go.Proofs.YtmnmcobpfpkibaaGreatDoor
open Go.RowKit
set_option linter.unusedVariables false
def bytesI (s : ByteArray) : List Int := s.data.toList.map fun b => (b.toNat : Int)
def apps (xs : List Int) (s : ByteArray) : Option (List Int) := if xs.length + s.size ≤ 4294967296 then some (xs ++ bytesI s) else none
def b2s (xs : List Int) : ByteArray := ⟨(xs.map fun n => UInt8.ofNat n.toNat).toArray⟩
theorem bytesI_length (s : ByteArray) : (bytesI s).length = s.size := by unfold bytesI; rw [List.length_map, Array.length_toList]; rfl
theorem strCells_eq (s : ByteArray) : Lib.strCells s = (bytesI s).map (Value.int .u8) := by simp [Lib.strCells, bytesI]
theorem foldl_b2s : ∀ (xs : List Int) (s : ByteArray), xs.foldl (fun r n => r.push (UInt8.ofNat n.toNat)) s = ⟨(s.data.toList ++ xs.map fun n => UInt8.ofNat n.toNat).toArray⟩
  | [], s => by simp
  | x :: xs, s => by
    rw [List.foldl_cons, foldl_b2s xs]
    simp [ByteArray.push]
theorem b2s_eq (xs : List Int) : xs.foldl (fun r n => r.push (UInt8.ofNat n.toNat)) ByteArray.empty = b2s xs := by
  rw [foldl_b2s]; rfl
theorem R_byte {w : World} {S : Nat → Prop} : ∀ {xs : List Int} {cs : List Value}, kByte.R w S xs cs ↔ cs = xs.map (Value.int .u8)
  | [], cs => Iff.rfl
  | x :: xs, cs => by
    constructor
    · rintro ⟨c1, c2, rfl, h1, h2⟩
      have h1 : c1 = [.int .u8 x] := h1
      rw [h1, R_byte.1 h2]
      rfl
    · rintro rfl
      exact ⟨[.int .u8 x], xs.map (Value.int .u8), rfl, rfl, R_byte.2 rfl⟩
def byB (P : Program) (t : TypeId) : Bool := match P.underlying t with | some (.slice e) => (match P.underlying e with | some (.int .u8) => true | _ => false) | _ => false
theorem byB_spec {P : Program} {t : TypeId} (h : byB P t = true) : ∃ e, P.underlying t = some (.slice e) ∧ P.underlying e = some (.int .u8) := by
  unfold byB at h
  split at h
  · rename_i e hu
    split at h
    · rename_i he
      exact ⟨e, hu, he⟩
    · cases h
  · cases h
section
variable {P : Program} {ρ : Type} {z : Zt} {n : Nat} {T : Slots} {B : Boxes} {ops l : List Oper} {Φ : Option ρ} {Q : Kont ρ} {ty t u : TypeId} {pos : String} {af : Array Edge} {gd : Option (Nat × Bool)} {d : Nat}
theorem po_b2s {xs : List Int} {x : Operand} {t2 : TypeId} (h : Ev T x (rd (kSl kByte) xs)) (h1 : byB P t = true) (h2 : P.underlying t2 = some .string) : PO P z n T B (.convert t t2 x) (rd kStr (b2s xs)) := fun p a hs => by
  obtain ⟨e, hu, he⟩ := byB_spec h1
  obtain ⟨A, c, hv, hl1, hl2, hl3, hC⟩ := ev_sl (hs.ev h)
  refine ⟨.string (b2s xs), rfl, fun o w' ho hx => ?_⟩
  have key : (convert t t2 (.slice A xs.length c)).run P w' = .ok (.string (b2s xs)) w' := by
    rw [run_convert_bytes_string w' t t2 e A xs.length c hu he h2]
    rcases sl_cells hC with rfl | ⟨ad, cs, rfl, hR, hcells⟩
    · cases A with
      | none => simp [Conv.bytesToString, b2s]; rfl
      | some ad =>
        rw [run_bytesToString w' ad ([] : List Int).length c [] (by simpa using run_loadCells_list (P := P) w' ad [] (by simp)), b2s_eq]
    · rw [R_byte] at hR
      subst hR
      have hL := run_loadCells_list (P := P) w' ad (xs.map (Value.int .u8)) (fun j v hj => hx.cell (hcells j v hj))
      rw [List.length_map] at hL
      rw [run_bytesToString w' ad xs.length c xs hL, b2s_eq]
  simp [execOp, ho, hv, key]
theorem s_apps {e : TypeId} {xs r : List Int} {s : ByteArray} {o : Option Nat} {c : Nat} {x y : Operand} (i : Nat) (h : Ev T x (row kByte xs o c)) (hi : B[i]? = some (o, rows kByte e xs c)) (hy : Ev T y (rd kStr s)) (hr : apps xs s = some r) (ht : apB P t e 1 = true) (hu2 : P.underlying u = some .string) (hd : Nat.ble (d + 1) n = true) :
    SO P z n T B ⟨some d, .call ⟨.builtin .append, #[x, y], #[t, u]⟩, ty, pos, af, gd⟩ (fun q a => ∃ o' c', St z q n ((d, row kByte r o' c') :: T) (B.set i (o', rows kByte e r c')) a) := fun p a hs K hK => by
  obtain ⟨hu, hsz, ti, zv, hti, hts, htb, htz, hzs⟩ := apB_spec ht
  have hv : a.eval x = .slice (o.map fun g => ⟨g, 0, none⟩) xs.length c := hs.ev h
  have hv2 := ev_str (hs.ev hy)
  unfold apps at hr
  split at hr
  · rename_i hsm
    injection hr with hr
    subst hr
    have hk1 : kByte.sz = 1 := rfl
    have hbl := bytesI_length s
    have hd' := Nat.le_of_ble_eq_true hd
    have hbytes : (xs.length + s.size) * ti.bytes ≤ 140737488355328 := Nat.le_trans (Nat.mul_le_mul hsm htb) (by decide)
    have hlen : (xs ++ bytesI s).length = xs.length + s.size := by rw [List.length_append, hbl]
    have hnl : (Lib.strCells s).length = s.size := Lib.strCells_length s
    have hRs : ∀ (w : World) (S : Nat → Prop), kByte.R w S (bytesI s) (Lib.strCells s) := fun w S => R_byte.2 (strCells_eq s)
    have hex : ∀ v w', (Builtin.append_ #[t, u] ty #[a.eval x, a.eval y]).run P p.w = .ok v w' → K (a.put (some d) v) w' → Oper.wp P ⟨some d, .call ⟨.builtin .append, #[x, y], #[t, u]⟩, ty, pos, af, gd⟩ a p.w K NoQ := fun v w' h1 h2 => by
      have e1 : (execOp a.eval ⟨some d, .call ⟨.builtin .append, #[x, y], #[t, u]⟩, ty, pos, af, gd⟩).run P p.w = .ok (.value v) w' := by simp [execOp, resolve, invoke, builtin, h1]
      unfold Oper.wp
      rw [e1]
      exact h2
    rw [hv, hv2] at hex
    have hmax : xs.length + s.size ≤ maxLen := by unfold maxLen; omega
    cases o with
    | none =>
      have h0 : xs = [] ∧ c = 0 := hs.on _ (List.mem_of_getElem? hi)
      obtain ⟨rfl, rfl⟩ := h0
      by_cases hy0 : s.size = 0
      · have hn0 : bytesI s = [] := List.length_eq_zero_iff.1 (by omega)
        have key : (Builtin.append_ #[t, u] ty #[.slice (Option.map (fun g => (⟨g, 0, none⟩ : Addr)) none) ([] : List Int).length 0, .string s]).run P p.w = .ok (.slice none 0 0) p.w := by
          simp [Builtin.append_, run_underlying hu, run_underlying hu2, sizeOf, typeInfo, hti, Builtin.lenOf, Builtin.firstCells, hy0]
        refine hex _ _ key (hK p _ ⟨none, 0, ?_⟩)
        have e : B.set i (none, rows kByte e ([] ++ bytesI s) 0) = B := by
          apply List.ext_getElem?
          intro j
          by_cases hij : i = j
          · subst hij; rw [List.getElem?_set_self (List.getElem?_eq_some_iff.1 hi).1, hi, hn0]; rfl
          · rw [List.getElem?_set_ne hij]
        rw [e]
        exact hs.put hd' (by rw [hn0]; rfl)
      · have hrun := run_append_nil_string (P := P) p.w t u ty e ti zv hu hu2 hti htz s (by omega) (by omega) (by simp only [List.length_nil, Nat.zero_add] at hbytes; omega)
        have hge := grownCap_ge p.w s.size 0 e
        have hcm := grownCap_le_maxLen p.w s.size 0 e (by simpa using hmax)
        have ecs : (s.data.map (fun b => Value.int .u8 b.toNat) ++ Builtin.zeroCells zv.cells (grownCap p.w s.size 0 e - s.size)) = (Lib.strCells s ++ (Builtin.zeroCells zv.cells (grownCap p.w s.size 0 e - s.size)).toList).toArray := by
          apply Array.ext'; simp [Lib.strCells]
        rw [ecs] at hrun
        obtain ⟨q, eq, hle, _, hq⟩ := hs.newAt hi (.cells (Lib.strCells s ++ (Builtin.zeroCells zv.cells (grownCap p.w s.size 0 e - s.size)).toList).toArray e) (bx' := rows kByte e ([] ++ bytesI s) (grownCap p.w s.size 0 e)) (fun q hle => ⟨Lib.strCells s, (Builtin.zeroCells zv.cells (grownCap p.w s.size 0 e - s.size)).toList, rfl, hRs _ _, by rw [hlen]; simpa using hge, hcm, by
          rw [List.length_append, hnl, zc_len, hzs, hk1]; omega⟩)
        refine hex _ _ hrun ?_
        rw [← eq]
        exact hK q _ ⟨_, _, hq.put hd' (by show _ = _; rw [hlen]; simp)⟩
    | some g =>
      obtain ⟨hS, hzg, ob, hg, cs, more, rfl, hRx, hxc, hcm, hcl⟩ := hs.ow g _ (List.mem_of_getElem? hi)
      have hcsl := Kd.R_len hRx
      rw [hk1, Nat.mul_one] at hcsl hcl
      by_cases hroom : xs.length + s.size ≤ c
      · have hfit : xs.length + s.size ≤ (cs ++ more).toArray.size := by
          rw [List.size_toArray, hcl]; exact hroom
        have hrun := Lib.run_append_room_string (P := P) p.w t u ty e ti hu hu2 hti hts g xs.length c (cs ++ more).toArray hg s hroom hfit
        have ecs : ((cs ++ more).toArray.toList.take xs.length ++ Lib.strCells s ++ (cs ++ more).toArray.toList.drop (xs.length + s.size)) = (cs ++ Lib.strCells s) ++ (cs ++ more).drop (xs.length + s.size) := by
          show List.take _ (cs ++ more) ++ Lib.strCells s ++ _ = _
          rw [List.take_left' hcsl]
        rw [ecs] at hrun
        obtain ⟨q, eq, hle, hq⟩ := hs.setBox hi hg (cs' := ((cs ++ Lib.strCells s) ++ (cs ++ more).drop (xs.length + s.size)).toArray) (bx' := rows kByte e (xs ++ bytesI s) c) (fun q hle => ⟨cs ++ Lib.strCells s, (cs ++ more).drop (xs.length + s.size), rfl, Kd.R_append (Kd.R_frame hle hRx) (hRs _ _), by rw [hlen]; exact hroom, hcm, by
          rw [List.length_append, List.length_append, List.length_drop, hcl, hcsl, hnl, hk1]
          omega⟩)
        refine hex _ _ hrun ?_
        rw [← eq]
        exact hK q _ ⟨some g, c, hq.put hd' (by show _ = _; rw [hlen]; rfl)⟩
      · have hcx : ∀ j v, cs[j]? = some v → p.w.cell? ((⟨g, 0, none⟩ : Addr).add j) = some v := fun j v hj => by
          rw [add_plain, Nat.zero_add, cell_of_row _ _ _ _ _ _ hg, List.getElem?_toArray, List.getElem?_append_left (List.getElem?_eq_some_iff.1 hj).1]; exact hj
        have hrun := Lib.run_append_grow_string (P := P) p.w t u ty e ti zv hu hu2 hti htz ⟨g, 0, none⟩ xs.length c cs (by rw [hcsl, hts, Nat.mul_one]) hcx s (by omega) (by omega) (growslice_fits (by omega) hbytes)
        have hge := grownCap_ge p.w (xs.length + s.size) c e
        have hcm2 := grownCap_le_maxLen p.w (xs.length + s.size) c e hmax
        obtain ⟨q, eq, hle, _, hq⟩ := hs.newAt hi (.cells (cs.toArray ++ (Lib.strCells s).toArray ++ Builtin.zeroCells zv.cells (grownCap p.w (xs.length + s.size) c e - (xs.length + s.size))) e) (bx' := rows kByte e (xs ++ bytesI s) (grownCap p.w (xs.length + s.size) c e)) (fun q hle => ⟨cs ++ Lib.strCells s, (Builtin.zeroCells zv.cells (grownCap p.w (xs.length + s.size) c e - (xs.length + s.size))).toList, by simp, Kd.R_append (Kd.R_frame hle hRx) (hRs _ _), by rw [hlen]; exact hge, hcm2, by
          rw [List.length_append, List.length_append, hcsl, hnl, zc_len, hzs, hk1]; omega⟩)
        refine hex _ _ hrun ?_
        rw [← eq]
        exact hK q _ ⟨_, _, hq.put hd' (by show _ = _; rw [hlen]; rfl)⟩
  · cases hr
theorem l_apps {e : TypeId} {xs : List Int} {s : ByteArray} {o : Option Nat} {c : Nat} {x y : Operand} {K : List Int → Option ρ} (i : Nat) (h : Ev T x (row kByte xs o c)) (hi : B[i]? = some (o, rows kByte e xs c)) (hy : Ev T y (rd kStr s)) (ht : apB P t e 1 = true) (hu : P.underlying u = some .string) (hd : Nat.ble (d + 1) n = true)
    (hk : ∀ r o' c', JL P z n ops ((d, row kByte r o' c') :: T) (B.set i (o', rows kByte e r c')) l (K r) Q) : JL P z n ops T B (⟨some d, .call ⟨.builtin .append, #[x, y], #[t, u]⟩, ty, pos, af, none⟩ :: l) ((apps xs s).bind K) Q :=
  l_bind fun r hr => l_so trivial (s_apps i h hi hy hr ht hu hd) fun r' hr' q a ⟨o', c', hs⟩ => hk r o' c' r' hr' q a hs
theorem po_fo0 {g o' : Nat} {s : TypeId} {f : Nat} {x : Operand} (h : Ev T x (own g o')) (hf : fsB P s f 0 = true) : PO P z n T B (.fieldAddr s x f) (own g o') := po_fo h hf
end
end Go.Proofs.YtmnmcobpfpkibaaGreatDoor

namespace Go.Proofs.YtmnmcobpfpkibaaGreatDoor
open Go.RowKit
set_option linter.unusedVariables false
set_option maxRecDepth 20000
structure Link where
  name : ByteArray
  iD : Int
  deriving DecidableEq
def kLink : Kd Link := kIso (kTwo kStr kInt) 24 (fun x => (x.name, x.iD)) ⟨kStr.z, kInt.z⟩ rfl
def Link.name_s (x : Link) (y : ByteArray) : Link := { x with name := y }
theorem F_Link_name : Fld kLink 0 kStr Link.name Link.name_s := (Fld.fst _ (Fld.me _)).iso (fun _ => rfl) (fun _ _ => rfl)
def Link.iD_s (x : Link) (y : Int) : Link := { x with iD := y }
theorem F_Link_iD : Fld kLink 1 kInt Link.iD Link.iD_s := (Fld.snd _ (Fld.me _)).iso (fun _ => rfl) (fun _ _ => rfl)
structure File where
  iD : Int
  dir : Bool
  size : Int
  blocks : List Int
  list : List Link
  deriving DecidableEq
def kFile : Kd File := kIso (kTwo kInt (kTwo kBool (kTwo kInt (kTwo (kSl kInt) (kSl kLink))))) 72 (fun x => (x.iD, x.dir, x.size, x.blocks, x.list)) ⟨kInt.z, kBool.z, kInt.z, (kSl kInt).z, (kSl kLink).z⟩ rfl
def File.iD_s (x : File) (y : Int) : File := { x with iD := y }
theorem F_File_iD : Fld kFile 0 kInt File.iD File.iD_s := (Fld.fst _ (Fld.me _)).iso (fun _ => rfl) (fun _ _ => rfl)
def File.dir_s (x : File) (y : Bool) : File := { x with dir := y }
theorem F_File_dir : Fld kFile 1 kBool File.dir File.dir_s := (Fld.snd _ (Fld.fst _ (Fld.me _))).iso (fun _ => rfl) (fun _ _ => rfl)
def File.size_s (x : File) (y : Int) : File := { x with size := y }
theorem F_File_size : Fld kFile 2 kInt File.size File.size_s := (Fld.snd _ (Fld.snd _ (Fld.fst _ (Fld.me _)))).iso (fun _ => rfl) (fun _ _ => rfl)
def File.blocks_s (x : File) (y : (List Int)) : File := { x with blocks := y }
theorem F_File_blocks : Fld kFile 3 (kSl kInt) File.blocks File.blocks_s := (Fld.snd _ (Fld.snd _ (Fld.snd _ (Fld.fst _ (Fld.me _))))).iso (fun _ => rfl) (fun _ _ => rfl)
def File.list_s (x : File) (y : (List Link)) : File := { x with list := y }
theorem F_File_list : Fld kFile 4 (kSl kLink) File.list File.list_s := (Fld.snd _ (Fld.snd _ (Fld.snd _ (Fld.snd _ (Fld.me _))))).iso (fun _ => rfl) (fun _ _ => rfl)
structure Vol where
  iD : Int
  from_ : Int
  snap : Bool
  files : List File
  next : Int
  deriving DecidableEq
def kVol : Kd Vol := kIso (kTwo kInt (kTwo kInt (kTwo kBool (kTwo (kSl kFile) kInt)))) 56 (fun x => (x.iD, x.from_, x.snap, x.files, x.next)) ⟨kInt.z, kInt.z, kBool.z, (kSl kFile).z, kInt.z⟩ rfl
def Vol.iD_s (x : Vol) (y : Int) : Vol := { x with iD := y }
theorem F_Vol_iD : Fld kVol 0 kInt Vol.iD Vol.iD_s := (Fld.fst _ (Fld.me _)).iso (fun _ => rfl) (fun _ _ => rfl)
def Vol.from__s (x : Vol) (y : Int) : Vol := { x with from_ := y }
theorem F_Vol_from_ : Fld kVol 1 kInt Vol.from_ Vol.from__s := (Fld.snd _ (Fld.fst _ (Fld.me _))).iso (fun _ => rfl) (fun _ _ => rfl)
def Vol.snap_s (x : Vol) (y : Bool) : Vol := { x with snap := y }
theorem F_Vol_snap : Fld kVol 2 kBool Vol.snap Vol.snap_s := (Fld.snd _ (Fld.snd _ (Fld.fst _ (Fld.me _)))).iso (fun _ => rfl) (fun _ _ => rfl)
def Vol.files_s (x : Vol) (y : (List File)) : Vol := { x with files := y }
theorem F_Vol_files : Fld kVol 3 (kSl kFile) Vol.files Vol.files_s := (Fld.snd _ (Fld.snd _ (Fld.snd _ (Fld.fst _ (Fld.me _))))).iso (fun _ => rfl) (fun _ _ => rfl)
def Vol.next_s (x : Vol) (y : Int) : Vol := { x with next := y }
theorem F_Vol_next : Fld kVol 4 kInt Vol.next Vol.next_s := (Fld.snd _ (Fld.snd _ (Fld.snd _ (Fld.snd _ (Fld.me _))))).iso (fun _ => rfl) (fun _ _ => rfl)
structure Ptr where
  dev : Int
  at_ : Int
  deriving DecidableEq
def kPtr : Kd Ptr := kIso (kTwo kInt kInt) 16 (fun x => (x.dev, x.at_)) ⟨kInt.z, kInt.z⟩ rfl
def Ptr.dev_s (x : Ptr) (y : Int) : Ptr := { x with dev := y }
theorem F_Ptr_dev : Fld kPtr 0 kInt Ptr.dev Ptr.dev_s := (Fld.fst _ (Fld.me _)).iso (fun _ => rfl) (fun _ _ => rfl)
def Ptr.at__s (x : Ptr) (y : Int) : Ptr := { x with at_ := y }
theorem F_Ptr_at_ : Fld kPtr 1 kInt Ptr.at_ Ptr.at__s := (Fld.snd _ (Fld.me _)).iso (fun _ => rfl) (fun _ _ => rfl)
structure Block where
  iD : Int
  ptr : Ptr
  text : ByteArray
  deriving DecidableEq
def kBlock : Kd Block := kIso (kTwo kInt (kTwo kPtr kStr)) 40 (fun x => (x.iD, x.ptr, x.text)) ⟨kInt.z, kPtr.z, kStr.z⟩ rfl
def Block.iD_s (x : Block) (y : Int) : Block := { x with iD := y }
theorem F_Block_iD : Fld kBlock 0 kInt Block.iD Block.iD_s := (Fld.fst _ (Fld.me _)).iso (fun _ => rfl) (fun _ _ => rfl)
def Block.ptr_s (x : Block) (y : Ptr) : Block := { x with ptr := y }
theorem F_Block_ptr : Fld kBlock 1 kPtr Block.ptr Block.ptr_s := (Fld.snd _ (Fld.fst _ (Fld.me _))).iso (fun _ => rfl) (fun _ _ => rfl)
def Block.text_s (x : Block) (y : ByteArray) : Block := { x with text := y }
theorem F_Block_text : Fld kBlock 3 kStr Block.text Block.text_s := (Fld.snd _ (Fld.snd _ (Fld.me _))).iso (fun _ => rfl) (fun _ _ => rfl)
structure Seg where
  at_ : Int
  len : Int
  deriving DecidableEq
def kSeg : Kd Seg := kIso (kTwo kInt kInt) 16 (fun x => (x.at_, x.len)) ⟨kInt.z, kInt.z⟩ rfl
def Seg.at__s (x : Seg) (y : Int) : Seg := { x with at_ := y }
theorem F_Seg_at_ : Fld kSeg 0 kInt Seg.at_ Seg.at__s := (Fld.fst _ (Fld.me _)).iso (fun _ => rfl) (fun _ _ => rfl)
def Seg.len_s (x : Seg) (y : Int) : Seg := { x with len := y }
theorem F_Seg_len : Fld kSeg 1 kInt Seg.len Seg.len_s := (Fld.snd _ (Fld.me _)).iso (fun _ => rfl) (fun _ _ => rfl)
structure Device where
  iD : Int
  size : Int
  free : List Seg
  late : List Seg
  deriving DecidableEq
def kDevice : Kd Device := kIso (kTwo kInt (kTwo kInt (kTwo (kSl kSeg) (kSl kSeg)))) 64 (fun x => (x.iD, x.size, x.free, x.late)) ⟨kInt.z, kInt.z, (kSl kSeg).z, (kSl kSeg).z⟩ rfl
def Device.iD_s (x : Device) (y : Int) : Device := { x with iD := y }
theorem F_Device_iD : Fld kDevice 0 kInt Device.iD Device.iD_s := (Fld.fst _ (Fld.me _)).iso (fun _ => rfl) (fun _ _ => rfl)
def Device.size_s (x : Device) (y : Int) : Device := { x with size := y }
theorem F_Device_size : Fld kDevice 1 kInt Device.size Device.size_s := (Fld.snd _ (Fld.fst _ (Fld.me _))).iso (fun _ => rfl) (fun _ _ => rfl)
def Device.free_s (x : Device) (y : (List Seg)) : Device := { x with free := y }
theorem F_Device_free : Fld kDevice 2 (kSl kSeg) Device.free Device.free_s := (Fld.snd _ (Fld.snd _ (Fld.fst _ (Fld.me _)))).iso (fun _ => rfl) (fun _ _ => rfl)
def Device.late_s (x : Device) (y : (List Seg)) : Device := { x with late := y }
theorem F_Device_late : Fld kDevice 3 (kSl kSeg) Device.late Device.late_s := (Fld.snd _ (Fld.snd _ (Fld.snd _ (Fld.me _)))).iso (fun _ => rfl) (fun _ _ => rfl)
structure Entry where
  from_ : Int
  len : Int
  dev : Int
  to_ : Int
  stale : Int
  deriving DecidableEq
def kEntry : Kd Entry := kIso (kTwo kInt (kTwo kInt (kTwo kInt (kTwo kInt kInt)))) 40 (fun x => (x.from_, x.len, x.dev, x.to_, x.stale)) ⟨kInt.z, kInt.z, kInt.z, kInt.z, kInt.z⟩ rfl
def Entry.from__s (x : Entry) (y : Int) : Entry := { x with from_ := y }
theorem F_Entry_from_ : Fld kEntry 0 kInt Entry.from_ Entry.from__s := (Fld.fst _ (Fld.me _)).iso (fun _ => rfl) (fun _ _ => rfl)
def Entry.len_s (x : Entry) (y : Int) : Entry := { x with len := y }
theorem F_Entry_len : Fld kEntry 1 kInt Entry.len Entry.len_s := (Fld.snd _ (Fld.fst _ (Fld.me _))).iso (fun _ => rfl) (fun _ _ => rfl)
def Entry.dev_s (x : Entry) (y : Int) : Entry := { x with dev := y }
theorem F_Entry_dev : Fld kEntry 2 kInt Entry.dev Entry.dev_s := (Fld.snd _ (Fld.snd _ (Fld.fst _ (Fld.me _)))).iso (fun _ => rfl) (fun _ _ => rfl)
def Entry.to__s (x : Entry) (y : Int) : Entry := { x with to_ := y }
theorem F_Entry_to_ : Fld kEntry 3 kInt Entry.to_ Entry.to__s := (Fld.snd _ (Fld.snd _ (Fld.snd _ (Fld.fst _ (Fld.me _))))).iso (fun _ => rfl) (fun _ _ => rfl)
def Entry.stale_s (x : Entry) (y : Int) : Entry := { x with stale := y }
theorem F_Entry_stale : Fld kEntry 4 kInt Entry.stale Entry.stale_s := (Fld.snd _ (Fld.snd _ (Fld.snd _ (Fld.snd _ (Fld.me _))))).iso (fun _ => rfl) (fun _ _ => rfl)
structure Table where
  dev : Int
  size : Int
  list : List Entry
  deriving DecidableEq
def kTable : Kd Table := kIso (kTwo kInt (kTwo kInt (kSl kEntry))) 40 (fun x => (x.dev, x.size, x.list)) ⟨kInt.z, kInt.z, (kSl kEntry).z⟩ rfl
def Table.dev_s (x : Table) (y : Int) : Table := { x with dev := y }
theorem F_Table_dev : Fld kTable 0 kInt Table.dev Table.dev_s := (Fld.fst _ (Fld.me _)).iso (fun _ => rfl) (fun _ _ => rfl)
def Table.size_s (x : Table) (y : Int) : Table := { x with size := y }
theorem F_Table_size : Fld kTable 1 kInt Table.size Table.size_s := (Fld.snd _ (Fld.fst _ (Fld.me _))).iso (fun _ => rfl) (fun _ _ => rfl)
def Table.list_s (x : Table) (y : (List Entry)) : Table := { x with list := y }
theorem F_Table_list : Fld kTable 2 (kSl kEntry) Table.list Table.list_s := (Fld.snd _ (Fld.snd _ (Fld.me _))).iso (fun _ => rfl) (fun _ _ => rfl)
structure Job where
  dev : Int
  at_ : Int
  table : Table
  deriving DecidableEq
def kJob : Kd Job := kIso (kTwo kInt (kTwo kInt kTable)) 56 (fun x => (x.dev, x.at_, x.table)) ⟨kInt.z, kInt.z, kTable.z⟩ rfl
def Job.dev_s (x : Job) (y : Int) : Job := { x with dev := y }
theorem F_Job_dev : Fld kJob 0 kInt Job.dev Job.dev_s := (Fld.fst _ (Fld.me _)).iso (fun _ => rfl) (fun _ _ => rfl)
def Job.at__s (x : Job) (y : Int) : Job := { x with at_ := y }
theorem F_Job_at_ : Fld kJob 1 kInt Job.at_ Job.at__s := (Fld.snd _ (Fld.fst _ (Fld.me _))).iso (fun _ => rfl) (fun _ _ => rfl)
def Job.table_s (x : Job) (y : Table) : Job := { x with table := y }
theorem F_Job_table : Fld kJob 2 kTable Job.table Job.table_s := (Fld.snd _ (Fld.snd _ (Fld.me _))).iso (fun _ => rfl) (fun _ _ => rfl)
structure Pool where
  devices : List Device
  tables : List Table
  job : Job
  next : Int
  deriving DecidableEq
def kPool : Kd Pool := kIso (kTwo (kSl kDevice) (kTwo (kSl kTable) (kTwo kJob kInt))) 112 (fun x => (x.devices, x.tables, x.job, x.next)) ⟨(kSl kDevice).z, (kSl kTable).z, kJob.z, kInt.z⟩ rfl
def Pool.devices_s (x : Pool) (y : (List Device)) : Pool := { x with devices := y }
theorem F_Pool_devices : Fld kPool 0 (kSl kDevice) Pool.devices Pool.devices_s := (Fld.fst _ (Fld.me _)).iso (fun _ => rfl) (fun _ _ => rfl)
def Pool.tables_s (x : Pool) (y : (List Table)) : Pool := { x with tables := y }
theorem F_Pool_tables : Fld kPool 1 (kSl kTable) Pool.tables Pool.tables_s := (Fld.snd _ (Fld.fst _ (Fld.me _))).iso (fun _ => rfl) (fun _ _ => rfl)
def Pool.job_s (x : Pool) (y : Job) : Pool := { x with job := y }
theorem F_Pool_job : Fld kPool 2 kJob Pool.job Pool.job_s := (Fld.snd _ (Fld.snd _ (Fld.fst _ (Fld.me _)))).iso (fun _ => rfl) (fun _ _ => rfl)
def Pool.next_s (x : Pool) (y : Int) : Pool := { x with next := y }
theorem F_Pool_next : Fld kPool 7 kInt Pool.next Pool.next_s := (Fld.snd _ (Fld.snd _ (Fld.snd _ (Fld.me _)))).iso (fun _ => rfl) (fun _ _ => rfl)
structure State where
  vols : List Vol
  nextVol : Int
  blocks : List Block
  next : Int
  pool : Pool
  deriving DecidableEq
def kState : Kd State := kIso (kTwo (kSl kVol) (kTwo kInt (kTwo (kSl kBlock) (kTwo kInt kPool)))) 176 (fun x => (x.vols, x.nextVol, x.blocks, x.next, x.pool)) ⟨(kSl kVol).z, kInt.z, (kSl kBlock).z, kInt.z, kPool.z⟩ rfl
def State.vols_s (x : State) (y : (List Vol)) : State := { x with vols := y }
theorem F_State_vols : Fld kState 0 (kSl kVol) State.vols State.vols_s := (Fld.fst _ (Fld.me _)).iso (fun _ => rfl) (fun _ _ => rfl)
def State.nextVol_s (x : State) (y : Int) : State := { x with nextVol := y }
theorem F_State_nextVol : Fld kState 1 kInt State.nextVol State.nextVol_s := (Fld.snd _ (Fld.fst _ (Fld.me _))).iso (fun _ => rfl) (fun _ _ => rfl)
def State.blocks_s (x : State) (y : (List Block)) : State := { x with blocks := y }
theorem F_State_blocks : Fld kState 2 (kSl kBlock) State.blocks State.blocks_s := (Fld.snd _ (Fld.snd _ (Fld.fst _ (Fld.me _)))).iso (fun _ => rfl) (fun _ _ => rfl)
def State.next_s (x : State) (y : Int) : State := { x with next := y }
theorem F_State_next : Fld kState 3 kInt State.next State.next_s := (Fld.snd _ (Fld.snd _ (Fld.snd _ (Fld.fst _ (Fld.me _))))).iso (fun _ => rfl) (fun _ _ => rfl)
def State.pool_s (x : State) (y : Pool) : State := { x with pool := y }
theorem F_State_pool : Fld kState 4 kPool State.pool State.pool_s := (Fld.snd _ (Fld.snd _ (Fld.snd _ (Fld.snd _ (Fld.me _))))).iso (fun _ => rfl) (fun _ _ => rfl)
structure hl14_Put where
  l : List Vol
  t : List ByteArray
  deriving DecidableEq
def khl14_Put : Kd hl14_Put := kIso (kTwo (kSl kVol) (kSl kStr)) 48 (fun x => (x.l, x.t)) ⟨(kSl kVol).z, (kSl kStr).z⟩ rfl
def hl14_Put.l_s (x : hl14_Put) (y : (List Vol)) : hl14_Put := { x with l := y }
theorem F_hl14_Put_l : Fld khl14_Put 0 (kSl kVol) hl14_Put.l hl14_Put.l_s := (Fld.fst _ (Fld.me _)).iso (fun _ => rfl) (fun _ _ => rfl)
def hl14_Put.t_s (x : hl14_Put) (y : (List ByteArray)) : hl14_Put := { x with t := y }
theorem F_hl14_Put_t : Fld khl14_Put 1 (kSl kStr) hl14_Put.t hl14_Put.t_s := (Fld.snd _ (Fld.me _)).iso (fun _ => rfl) (fun _ _ => rfl)
structure hl14_Ask where
  s : List State
  p : List hl14_Put
  n : List Int
  deriving DecidableEq
def khl14_Ask : Kd hl14_Ask := kIso (kTwo (kSl kState) (kTwo (kSl khl14_Put) (kSl kInt))) 72 (fun x => (x.s, x.p, x.n)) ⟨(kSl kState).z, (kSl khl14_Put).z, (kSl kInt).z⟩ rfl
def hl14_Ask.s_s (x : hl14_Ask) (y : (List State)) : hl14_Ask := { x with s := y }
theorem F_hl14_Ask_s : Fld khl14_Ask 0 (kSl kState) hl14_Ask.s hl14_Ask.s_s := (Fld.fst _ (Fld.me _)).iso (fun _ => rfl) (fun _ _ => rfl)
def hl14_Ask.p_s (x : hl14_Ask) (y : (List hl14_Put)) : hl14_Ask := { x with p := y }
theorem F_hl14_Ask_p : Fld khl14_Ask 1 (kSl khl14_Put) hl14_Ask.p hl14_Ask.p_s := (Fld.snd _ (Fld.fst _ (Fld.me _))).iso (fun _ => rfl) (fun _ _ => rfl)
def hl14_Ask.n_s (x : hl14_Ask) (y : (List Int)) : hl14_Ask := { x with n := y }
theorem F_hl14_Ask_n : Fld khl14_Ask 2 (kSl kInt) hl14_Ask.n hl14_Ask.n_s := (Fld.snd _ (Fld.snd _ (Fld.me _))).iso (fun _ => rfl) (fun _ _ => rfl)
structure chain_Trail where
  ptr : Ptr
  way : List Ptr
  deriving DecidableEq
def kchain_Trail : Kd chain_Trail := kIso (kTwo kPtr (kSl kPtr)) 40 (fun x => (x.ptr, x.way)) ⟨kPtr.z, (kSl kPtr).z⟩ rfl
def chain_Trail.ptr_s (x : chain_Trail) (y : Ptr) : chain_Trail := { x with ptr := y }
theorem F_chain_Trail_ptr : Fld kchain_Trail 0 kPtr chain_Trail.ptr chain_Trail.ptr_s := (Fld.fst _ (Fld.me _)).iso (fun _ => rfl) (fun _ _ => rfl)
def chain_Trail.way_s (x : chain_Trail) (y : (List Ptr)) : chain_Trail := { x with way := y }
theorem F_chain_Trail_way : Fld kchain_Trail 2 (kSl kPtr) chain_Trail.way chain_Trail.way_s := (Fld.snd _ (Fld.me _)).iso (fun _ => rfl) (fun _ _ => rfl)
structure whole_laid where
  now : (List (Int × Int))
  way : (List (Int × Int))
  deriving DecidableEq
def kwhole_laid : Kd whole_laid := kIso (kTwo (kMap kU64) (kMap kU64)) 16 (fun x => (x.now, x.way)) ⟨(kMap kU64).z, (kMap kU64).z⟩ rfl
def whole_laid.now_s (x : whole_laid) (y : (List (Int × Int))) : whole_laid := { x with now := y }
theorem F_whole_laid_now : Fld kwhole_laid 0 (kMap kU64) whole_laid.now whole_laid.now_s := (Fld.fst _ (Fld.me _)).iso (fun _ => rfl) (fun _ _ => rfl)
def whole_laid.way_s (x : whole_laid) (y : (List (Int × Int))) : whole_laid := { x with way := y }
theorem F_whole_laid_way : Fld kwhole_laid 1 (kMap kU64) whole_laid.way whole_laid.way_s := (Fld.snd _ (Fld.me _)).iso (fun _ => rfl) (fun _ _ => rfl)
structure whole_laidR where
  now : Option Nat
  way : Option Nat
  deriving DecidableEq
def kwhole_laidR : Kd whole_laidR := kIso (kTwo kMref kMref) 16 (fun x => (x.now, x.way)) ⟨kMref.z, kMref.z⟩ rfl
def whole_laidR.now_s (x : whole_laidR) (y : (Option Nat)) : whole_laidR := { x with now := y }
theorem F_whole_laidR_now : Fld kwhole_laidR 0 kMref whole_laidR.now whole_laidR.now_s := (Fld.fst _ (Fld.me _)).iso (fun _ => rfl) (fun _ _ => rfl)
def whole_laidR.way_s (x : whole_laidR) (y : (Option Nat)) : whole_laidR := { x with way := y }
theorem F_whole_laidR_way : Fld kwhole_laidR 1 kMref whole_laidR.way whole_laidR.way_s := (Fld.snd _ (Fld.me _)).iso (fun _ => rfl) (fun _ _ => rfl)
structure image_writer where
  b : List Int
  deriving DecidableEq
def kimage_writer : Kd image_writer := kIso (kSl kByte) 24 (fun x => (x.b)) ⟨(kSl kByte).z⟩ rfl
def image_writer.b_s (x : image_writer) (y : (List Int)) : image_writer := { x with b := y }
theorem F_image_writer_b : Fld kimage_writer 0 (kSl kByte) image_writer.b image_writer.b_s := (Fld.me _).iso (fun _ => rfl) (fun _ _ => rfl)
structure image_reader where
  s : ByteArray
  bad : Bool
  deriving DecidableEq
def kimage_reader : Kd image_reader := kIso (kTwo kStr kBool) 24 (fun x => (x.s, x.bad)) ⟨kStr.z, kBool.z⟩ rfl
def image_reader.s_s (x : image_reader) (y : ByteArray) : image_reader := { x with s := y }
theorem F_image_reader_s : Fld kimage_reader 0 kStr image_reader.s image_reader.s_s := (Fld.fst _ (Fld.me _)).iso (fun _ => rfl) (fun _ _ => rfl)
def image_reader.bad_s (x : image_reader) (y : Bool) : image_reader := { x with bad := y }
theorem F_image_reader_bad : Fld kimage_reader 1 kBool image_reader.bad image_reader.bad_s := (Fld.snd _ (Fld.me _)).iso (fun _ => rfl) (fun _ _ => rfl)
def eqv_Seg (x y : Seg) : Bool := (Seg.at_ x == Seg.at_ y && (Seg.len x == Seg.len y && true))
theorem eg108 : Tryz.prog.eqGuardType Tryz.prog.depth 108 = false := by kernel_rfl
theorem eq108 : EqK Tryz.prog 108 kSeg eqv_Seg 2 := eqk_struct (m := 1) (n := 2) rfl (by kernel_rfl) (by kernel_rfl) (by kernel_rfl) (.step (tf := 3) (by kernel_rfl) F_Seg_at_ (by kernel_rfl) ((eqk_num (by kernel_rfl)).up rfl) (.step (tf := 3) (by kernel_rfl) F_Seg_len (by kernel_rfl) ((eqk_num (by kernel_rfl)).up rfl) (.done _)))

def eqv_Entry (x y : Entry) : Bool := (Entry.from_ x == Entry.from_ y && (Entry.len x == Entry.len y && (Entry.dev x == Entry.dev y && (Entry.to_ x == Entry.to_ y && (Entry.stale x == Entry.stale y && true)))))
theorem eg145 : Tryz.prog.eqGuardType Tryz.prog.depth 145 = false := by kernel_rfl
theorem eq145 : EqK Tryz.prog 145 kEntry eqv_Entry 2 := eqk_struct (m := 1) (n := 5) rfl (by kernel_rfl) (by kernel_rfl) (by kernel_rfl) (.step (tf := 3) (by kernel_rfl) F_Entry_from_ (by kernel_rfl) ((eqk_num (by kernel_rfl)).up rfl) (.step (tf := 3) (by kernel_rfl) F_Entry_len (by kernel_rfl) ((eqk_num (by kernel_rfl)).up rfl) (.step (tf := 3) (by kernel_rfl) F_Entry_dev (by kernel_rfl) ((eqk_num (by kernel_rfl)).up rfl) (.step (tf := 3) (by kernel_rfl) F_Entry_to_ (by kernel_rfl) ((eqk_num (by kernel_rfl)).up rfl) (.step (tf := 3) (by kernel_rfl) F_Entry_stale (by kernel_rfl) ((eqk_num (by kernel_rfl)).up rfl) (.done _))))))

def eqv_Link (x y : Link) : Bool := (sEq (Link.name x) (Link.name y) && (Link.iD x == Link.iD y && true))
theorem eg169 : Tryz.prog.eqGuardType Tryz.prog.depth 169 = false := by kernel_rfl
theorem eq169 : EqK Tryz.prog 169 kLink eqv_Link 2 := eqk_struct (m := 1) (n := 2) rfl (by kernel_rfl) (by kernel_rfl) (by kernel_rfl) (.step (tf := 9) (by kernel_rfl) F_Link_name (by kernel_rfl) ((eqk_str (by kernel_rfl)).up rfl) (.step (tf := 3) (by kernel_rfl) F_Link_iD (by kernel_rfl) ((eqk_num (by kernel_rfl)).up rfl) (.done _)))

def eqv_Ptr (x y : Ptr) : Bool := (Ptr.dev x == Ptr.dev y && (Ptr.at_ x == Ptr.at_ y && true))
theorem eq59 : EqK Tryz.prog 59 kPtr eqv_Ptr 2 := eqk_struct (m := 1) (n := 2) rfl (by kernel_rfl) (by kernel_rfl) (by kernel_rfl) (.step (tf := 3) (by kernel_rfl) F_Ptr_dev (by kernel_rfl) ((eqk_num (by kernel_rfl)).up rfl) (.step (tf := 3) (by kernel_rfl) F_Ptr_at_ (by kernel_rfl) ((eqk_num (by kernel_rfl)).up rfl) (.done _)))
def eqv_Block (x y : Block) : Bool := (Block.iD x == Block.iD y && (eqv_Ptr (Block.ptr x) (Block.ptr y) && (sEq (Block.text x) (Block.text y) && true)))
theorem eg61 : Tryz.prog.eqGuardType Tryz.prog.depth 61 = false := by kernel_rfl
theorem eq61 : EqK Tryz.prog 61 kBlock eqv_Block 3 := eqk_struct (m := 2) (n := 3) rfl (by kernel_rfl) (by kernel_rfl) (by kernel_rfl) (.step (tf := 3) (by kernel_rfl) F_Block_iD (by kernel_rfl) ((eqk_num (by kernel_rfl)).up rfl) (.step (tf := 59) (by kernel_rfl) F_Block_ptr (by kernel_rfl) (eq59.up rfl) (.step (tf := 9) (by kernel_rfl) F_Block_text (by kernel_rfl) ((eqk_str (by kernel_rfl)).up rfl) (.done _))))

theorem ap103 : apB Tryz.prog 103 165 kFile.sz = true := by kernel_rfl
theorem ap163 : apB Tryz.prog 163 169 kLink.sz = true := by kernel_rfl
theorem ap174 : apB Tryz.prog 174 59 kPtr.sz = true := by kernel_rfl
theorem ap24 : apB Tryz.prog 24 3 kInt.sz = true := by kernel_rfl
theorem ap29 : apB Tryz.prog 29 105 kVol.sz = true := by kernel_rfl
theorem ap30 : apB Tryz.prog 30 61 kBlock.sz = true := by kernel_rfl
theorem ap31 : apB Tryz.prog 31 85 kDevice.sz = true := by kernel_rfl
theorem ap32 : apB Tryz.prog 32 35 kTable.sz = true := by kernel_rfl
theorem ap33 : apB Tryz.prog 33 145 kEntry.sz = true := by kernel_rfl
theorem ap51 : apB Tryz.prog 51 5 kByte.sz = true := by kernel_rfl
theorem ap83 : apB Tryz.prog 83 108 kSeg.sz = true := by kernel_rfl
theorem by51 : byB Tryz.prog 51 = true := by kernel_rfl
theorem fs105_0 : fsB Tryz.prog 105 0 0 = true := by kernel_rfl
theorem fs105_1 : fsB Tryz.prog 105 1 1 = true := by kernel_rfl
theorem fs105_2 : fsB Tryz.prog 105 2 2 = true := by kernel_rfl
theorem fs105_3 : fsB Tryz.prog 105 3 3 = true := by kernel_rfl
theorem fs105_4 : fsB Tryz.prog 105 4 4 = true := by kernel_rfl
theorem fs108_0 : fsB Tryz.prog 108 0 0 = true := by kernel_rfl
theorem fs108_1 : fsB Tryz.prog 108 1 1 = true := by kernel_rfl
theorem fs120_0 : fsB Tryz.prog 120 0 0 = true := by kernel_rfl
theorem fs120_1 : fsB Tryz.prog 120 1 1 = true := by kernel_rfl
theorem fs130_0 : fsB Tryz.prog 130 0 0 = true := by kernel_rfl
theorem fs132_0 : fsB Tryz.prog 132 0 0 = true := by kernel_rfl
theorem fs145_0 : fsB Tryz.prog 145 0 0 = true := by kernel_rfl
theorem fs145_1 : fsB Tryz.prog 145 1 1 = true := by kernel_rfl
theorem fs145_2 : fsB Tryz.prog 145 2 2 = true := by kernel_rfl
theorem fs145_3 : fsB Tryz.prog 145 3 3 = true := by kernel_rfl
theorem fs145_4 : fsB Tryz.prog 145 4 4 = true := by kernel_rfl
theorem fs165_0 : fsB Tryz.prog 165 0 0 = true := by kernel_rfl
theorem fs165_1 : fsB Tryz.prog 165 1 1 = true := by kernel_rfl
theorem fs165_2 : fsB Tryz.prog 165 2 2 = true := by kernel_rfl
theorem fs165_3 : fsB Tryz.prog 165 3 3 = true := by kernel_rfl
theorem fs165_4 : fsB Tryz.prog 165 4 4 = true := by kernel_rfl
theorem fs169_0 : fsB Tryz.prog 169 0 0 = true := by kernel_rfl
theorem fs169_1 : fsB Tryz.prog 169 1 1 = true := by kernel_rfl
theorem fs176_0 : fsB Tryz.prog 176 0 0 = true := by kernel_rfl
theorem fs176_1 : fsB Tryz.prog 176 1 2 = true := by kernel_rfl
theorem fs26_0 : fsB Tryz.prog 26 0 0 = true := by kernel_rfl
theorem fs26_1 : fsB Tryz.prog 26 1 1 = true := by kernel_rfl
theorem fs26_2 : fsB Tryz.prog 26 2 2 = true := by kernel_rfl
theorem fs35_0 : fsB Tryz.prog 35 0 0 = true := by kernel_rfl
theorem fs35_1 : fsB Tryz.prog 35 1 1 = true := by kernel_rfl
theorem fs35_2 : fsB Tryz.prog 35 2 2 = true := by kernel_rfl
theorem fs37_0 : fsB Tryz.prog 37 0 0 = true := by kernel_rfl
theorem fs37_1 : fsB Tryz.prog 37 1 1 = true := by kernel_rfl
theorem fs37_2 : fsB Tryz.prog 37 2 2 = true := by kernel_rfl
theorem fs39_0 : fsB Tryz.prog 39 0 0 = true := by kernel_rfl
theorem fs39_1 : fsB Tryz.prog 39 1 1 = true := by kernel_rfl
theorem fs39_2 : fsB Tryz.prog 39 2 2 = true := by kernel_rfl
theorem fs39_3 : fsB Tryz.prog 39 3 7 = true := by kernel_rfl
theorem fs41_0 : fsB Tryz.prog 41 0 0 = true := by kernel_rfl
theorem fs41_1 : fsB Tryz.prog 41 1 1 = true := by kernel_rfl
theorem fs41_2 : fsB Tryz.prog 41 2 2 = true := by kernel_rfl
theorem fs41_3 : fsB Tryz.prog 41 3 3 = true := by kernel_rfl
theorem fs41_4 : fsB Tryz.prog 41 4 4 = true := by kernel_rfl
theorem fs59_0 : fsB Tryz.prog 59 0 0 = true := by kernel_rfl
theorem fs59_1 : fsB Tryz.prog 59 1 1 = true := by kernel_rfl
theorem fs61_0 : fsB Tryz.prog 61 0 0 = true := by kernel_rfl
theorem fs61_1 : fsB Tryz.prog 61 1 1 = true := by kernel_rfl
theorem fs61_2 : fsB Tryz.prog 61 2 3 = true := by kernel_rfl
theorem fs63_0 : fsB Tryz.prog 63 0 0 = true := by kernel_rfl
theorem fs63_1 : fsB Tryz.prog 63 1 1 = true := by kernel_rfl
theorem fs85_0 : fsB Tryz.prog 85 0 0 = true := by kernel_rfl
theorem fs85_1 : fsB Tryz.prog 85 1 1 = true := by kernel_rfl
theorem fs85_2 : fsB Tryz.prog 85 2 2 = true := by kernel_rfl
theorem fs85_3 : fsB Tryz.prog 85 3 3 = true := by kernel_rfl
theorem fs92_0 : fsB Tryz.prog 92 0 0 = true := by kernel_rfl
theorem fs92_1 : fsB Tryz.prog 92 1 1 = true := by kernel_rfl
theorem fs94_0 : fsB Tryz.prog 94 0 0 = true := by kernel_rfl
theorem ma118 : maB Tryz.prog 118 180 = true := by kernel_rfl
theorem ma232 : maB Tryz.prog 232 3 = true := by kernel_rfl
theorem ma238 : maB Tryz.prog 238 4 = true := by kernel_rfl
theorem pl105_0 : plB Tryz.prog 105 0 0 kInt.sz = true := by kernel_rfl
theorem pl105_3 : plB Tryz.prog 105 3 3 (kSl kFile).sz = true := by kernel_rfl
theorem pl105_4 : plB Tryz.prog 105 4 4 kInt.sz = true := by kernel_rfl
theorem pl108_0 : plB Tryz.prog 108 0 0 kInt.sz = true := by kernel_rfl
theorem pl108_1 : plB Tryz.prog 108 1 1 kInt.sz = true := by kernel_rfl
theorem pl120_0 : plB Tryz.prog 120 0 0 (kMap kU64).sz = true := by kernel_rfl
theorem pl120_1 : plB Tryz.prog 120 1 1 (kMap kU64).sz = true := by kernel_rfl
theorem pl145_0 : plB Tryz.prog 145 0 0 kInt.sz = true := by kernel_rfl
theorem pl165_0 : plB Tryz.prog 165 0 0 kInt.sz = true := by kernel_rfl
theorem pl165_1 : plB Tryz.prog 165 1 1 kBool.sz = true := by kernel_rfl
theorem pl169_0 : plB Tryz.prog 169 0 0 kStr.sz = true := by kernel_rfl
theorem pl169_1 : plB Tryz.prog 169 1 1 kInt.sz = true := by kernel_rfl
theorem pl176_0 : plB Tryz.prog 176 0 0 kPtr.sz = true := by kernel_rfl
theorem pl39_3 : plB Tryz.prog 39 3 7 kInt.sz = true := by kernel_rfl
theorem pl41_0 : plB Tryz.prog 41 0 0 (kSl kVol).sz = true := by kernel_rfl
theorem pl41_1 : plB Tryz.prog 41 1 1 kInt.sz = true := by kernel_rfl
theorem pl41_4 : plB Tryz.prog 41 4 4 kPool.sz = true := by kernel_rfl
theorem pl59_0 : plB Tryz.prog 59 0 0 kInt.sz = true := by kernel_rfl
theorem pl59_1 : plB Tryz.prog 59 1 1 kInt.sz = true := by kernel_rfl
theorem pl61_0 : plB Tryz.prog 61 0 0 kInt.sz = true := by kernel_rfl
theorem pl61_2 : plB Tryz.prog 61 2 3 kStr.sz = true := by kernel_rfl
theorem pl85_0 : plB Tryz.prog 85 0 0 kInt.sz = true := by kernel_rfl
theorem pl85_1 : plB Tryz.prog 85 1 1 kInt.sz = true := by kernel_rfl
theorem pl85_2 : plB Tryz.prog 85 2 2 (kSl kSeg).sz = true := by kernel_rfl
theorem pl92_0 : plB Tryz.prog 92 0 0 kStr.sz = true := by kernel_rfl
theorem pl94_0 : plB Tryz.prog 94 0 0 kimage_reader.sz = true := by kernel_rfl
theorem ps105 : (placesOf Tryz.prog 105).isSome = true := by kernel_rfl
theorem ps108 : (placesOf Tryz.prog 108).isSome = true := by kernel_rfl
theorem ps120 : (placesOf Tryz.prog 120).isSome = true := by kernel_rfl
theorem ps132 : (placesOf Tryz.prog 132).isSome = true := by kernel_rfl
theorem ps145 : (placesOf Tryz.prog 145).isSome = true := by kernel_rfl
theorem ps165 : (placesOf Tryz.prog 165).isSome = true := by kernel_rfl
theorem ps169 : (placesOf Tryz.prog 169).isSome = true := by kernel_rfl
theorem ps176 : (placesOf Tryz.prog 176).isSome = true := by kernel_rfl
theorem ps39 : (placesOf Tryz.prog 39).isSome = true := by kernel_rfl
theorem ps41 : (placesOf Tryz.prog 41).isSome = true := by kernel_rfl
theorem ps59 : (placesOf Tryz.prog 59).isSome = true := by kernel_rfl
theorem ps61 : (placesOf Tryz.prog 61).isSome = true := by kernel_rfl
theorem ps85 : (placesOf Tryz.prog 85).isSome = true := by kernel_rfl
theorem ps92 : (placesOf Tryz.prog 92).isSome = true := by kernel_rfl
theorem ps94 : (placesOf Tryz.prog 94).isSome = true := by kernel_rfl
theorem sl103 : slB Tryz.prog 103 kFile = true := by kernel_rfl
theorem sl163 : slB Tryz.prog 163 kLink = true := by kernel_rfl
theorem sl174 : slB Tryz.prog 174 kPtr = true := by kernel_rfl
theorem sl22 : slB Tryz.prog 22 kState = true := by kernel_rfl
theorem sl23 : slB Tryz.prog 23 khl14_Put = true := by kernel_rfl
theorem sl24 : slB Tryz.prog 24 kInt = true := by kernel_rfl
theorem sl28 : slB Tryz.prog 28 kStr = true := by kernel_rfl
theorem sl29 : slB Tryz.prog 29 kVol = true := by kernel_rfl
theorem sl30 : slB Tryz.prog 30 kBlock = true := by kernel_rfl
theorem sl31 : slB Tryz.prog 31 kDevice = true := by kernel_rfl
theorem sl32 : slB Tryz.prog 32 kTable = true := by kernel_rfl
theorem sl33 : slB Tryz.prog 33 kEntry = true := by kernel_rfl
theorem sl83 : slB Tryz.prog 83 kSeg = true := by kernel_rfl
theorem sz103 : slzB Tryz.prog 103 kFile.sz = true := by kernel_rfl
theorem sz163 : slzB Tryz.prog 163 kLink.sz = true := by kernel_rfl
theorem sz174 : slzB Tryz.prog 174 kPtr.sz = true := by kernel_rfl
theorem sz24 : slzB Tryz.prog 24 kInt.sz = true := by kernel_rfl
theorem sz29 : slzB Tryz.prog 29 kVol.sz = true := by kernel_rfl
theorem sz30 : slzB Tryz.prog 30 kBlock.sz = true := by kernel_rfl
theorem sz31 : slzB Tryz.prog 31 kDevice.sz = true := by kernel_rfl
theorem sz32 : slzB Tryz.prog 32 kTable.sz = true := by kernel_rfl
theorem sz33 : slzB Tryz.prog 33 kEntry.sz = true := by kernel_rfl
theorem sz51 : slzB Tryz.prog 51 kByte.sz = true := by kernel_rfl
theorem sz83 : slzB Tryz.prog 83 kSeg.sz = true := by kernel_rfl
theorem th103 : tyB Tryz.prog 103 kHd = true := by kernel_rfl
theorem th163 : tyB Tryz.prog 163 kHd = true := by kernel_rfl
theorem th174 : tyB Tryz.prog 174 kHd = true := by kernel_rfl
theorem th24 : tyB Tryz.prog 24 kHd = true := by kernel_rfl
theorem th29 : tyB Tryz.prog 29 kHd = true := by kernel_rfl
theorem th30 : tyB Tryz.prog 30 kHd = true := by kernel_rfl
theorem th31 : tyB Tryz.prog 31 kHd = true := by kernel_rfl
theorem th32 : tyB Tryz.prog 32 kHd = true := by kernel_rfl
theorem th33 : tyB Tryz.prog 33 kHd = true := by kernel_rfl
theorem th51 : tyB Tryz.prog 51 kHd = true := by kernel_rfl
theorem tm118 : tyB Tryz.prog 118 kMref = true := by kernel_rfl
theorem tm238 : tyB Tryz.prog 238 kMref = true := by kernel_rfl
theorem ty103 : tyB Tryz.prog 103 (kSl kFile) = true := by kernel_rfl
theorem ty105 : tyB Tryz.prog 105 kVol = true := by kernel_rfl
theorem ty108 : tyB Tryz.prog 108 kSeg = true := by kernel_rfl
theorem ty118 : tyB Tryz.prog 118 (kMap kU64) = true := by kernel_rfl
theorem ty120 : tyB Tryz.prog 120 kwhole_laid = true := by kernel_rfl
theorem ty145 : tyB Tryz.prog 145 kEntry = true := by kernel_rfl
theorem ty163 : tyB Tryz.prog 163 (kSl kLink) = true := by kernel_rfl
theorem ty165 : tyB Tryz.prog 165 kFile = true := by kernel_rfl
theorem ty169 : tyB Tryz.prog 169 kLink = true := by kernel_rfl
theorem ty174 : tyB Tryz.prog 174 (kSl kPtr) = true := by kernel_rfl
theorem ty176 : tyB Tryz.prog 176 kchain_Trail = true := by kernel_rfl
theorem ty22 : tyB Tryz.prog 22 (kSl kState) = true := by kernel_rfl
theorem ty23 : tyB Tryz.prog 23 (kSl khl14_Put) = true := by kernel_rfl
theorem ty238 : tyB Tryz.prog 238 (kMap kBool) = true := by kernel_rfl
theorem ty24 : tyB Tryz.prog 24 (kSl kInt) = true := by kernel_rfl
theorem ty26 : tyB Tryz.prog 26 khl14_Ask = true := by kernel_rfl
theorem ty28 : tyB Tryz.prog 28 (kSl kStr) = true := by kernel_rfl
theorem ty29 : tyB Tryz.prog 29 (kSl kVol) = true := by kernel_rfl
theorem ty3 : tyB Tryz.prog 3 kInt = true := by kernel_rfl
theorem ty30 : tyB Tryz.prog 30 (kSl kBlock) = true := by kernel_rfl
theorem ty31 : tyB Tryz.prog 31 (kSl kDevice) = true := by kernel_rfl
theorem ty32 : tyB Tryz.prog 32 (kSl kTable) = true := by kernel_rfl
theorem ty33 : tyB Tryz.prog 33 (kSl kEntry) = true := by kernel_rfl
theorem ty35 : tyB Tryz.prog 35 kTable = true := by kernel_rfl
theorem ty37 : tyB Tryz.prog 37 kJob = true := by kernel_rfl
theorem ty39 : tyB Tryz.prog 39 kPool = true := by kernel_rfl
theorem ty4 : tyB Tryz.prog 4 kBool = true := by kernel_rfl
theorem ty41 : tyB Tryz.prog 41 kState = true := by kernel_rfl
theorem ty59 : tyB Tryz.prog 59 kPtr = true := by kernel_rfl
theorem ty61 : tyB Tryz.prog 61 kBlock = true := by kernel_rfl
theorem ty83 : tyB Tryz.prog 83 (kSl kSeg) = true := by kernel_rfl
theorem ty85 : tyB Tryz.prog 85 kDevice = true := by kernel_rfl
theorem ty9 : tyB Tryz.prog 9 kStr = true := by kernel_rfl
theorem tz105 : (Tryz.prog.info? 105).bind (·.zero) = some (kVol.mk' kVol.zc) := by kernel_rfl
theorem tz108 : (Tryz.prog.info? 108).bind (·.zero) = some (kSeg.mk' kSeg.zc) := by kernel_rfl
theorem tz120 : (Tryz.prog.info? 120).bind (·.zero) = some (kwhole_laid.mk' kwhole_laid.zc) := by kernel_rfl
theorem tz145 : (Tryz.prog.info? 145).bind (·.zero) = some (kEntry.mk' kEntry.zc) := by kernel_rfl
theorem tz165 : (Tryz.prog.info? 165).bind (·.zero) = some (kFile.mk' kFile.zc) := by kernel_rfl
theorem tz169 : (Tryz.prog.info? 169).bind (·.zero) = some (kLink.mk' kLink.zc) := by kernel_rfl
theorem tz176 : (Tryz.prog.info? 176).bind (·.zero) = some (kchain_Trail.mk' kchain_Trail.zc) := by kernel_rfl
theorem tz180 : (Tryz.prog.info? 180).bind (·.zero) = some (kU64.mk' kU64.zc) := by kernel_rfl
theorem tz3 : (Tryz.prog.info? 3).bind (·.zero) = some (kInt.mk' kInt.zc) := by kernel_rfl
theorem tz35 : (Tryz.prog.info? 35).bind (·.zero) = some (kTable.mk' kTable.zc) := by kernel_rfl
theorem tz37 : (Tryz.prog.info? 37).bind (·.zero) = some (kJob.mk' kJob.zc) := by kernel_rfl
theorem tz4 : (Tryz.prog.info? 4).bind (·.zero) = some (kBool.mk' kBool.zc) := by kernel_rfl
theorem tz41 : (Tryz.prog.info? 41).bind (·.zero) = some (kState.mk' kState.zc) := by kernel_rfl
theorem tz59 : (Tryz.prog.info? 59).bind (·.zero) = some (kPtr.mk' kPtr.zc) := by kernel_rfl
theorem tz61 : (Tryz.prog.info? 61).bind (·.zero) = some (kBlock.mk' kBlock.zc) := by kernel_rfl
theorem tz85 : (Tryz.prog.info? 85).bind (·.zero) = some (kDevice.mk' kDevice.zc) := by kernel_rfl
theorem tz92 : (Tryz.prog.info? 92).bind (·.zero) = some (kimage_reader.mk' kimage_reader.zc) := by kernel_rfl
theorem tz94 : (Tryz.prog.info? 94).bind (·.zero) = some (kimage_reader.mk' kimage_reader.zc) := by kernel_rfl
theorem un100 : Tryz.prog.underlying 100 = some (.int .u64) := by kernel_rfl
theorem un179 : Tryz.prog.underlying 179 = some (.int .u64) := by kernel_rfl
theorem un3 : Tryz.prog.underlying 3 = some (.int .i64) := by kernel_rfl
theorem un4 : Tryz.prog.underlying 4 = some .bool := by kernel_rfl
theorem un5 : Tryz.prog.underlying 5 = some (.int .u8) := by kernel_rfl
theorem un9 : Tryz.prog.underlying 9 = some .string := by kernel_rfl
end Go.Proofs.YtmnmcobpfpkibaaGreatDoor
namespace Go.Proofs
open Go.Shelf
def Tryz.layKeys_ren : Go.Shelf.Ren := ⟨fun | 7 => 166 | 10 => 220 | n => n, fun | 23 => 232 | 26 => 3 | 3 => 3 | 28 => 230 | 0 => 0 | 27 => 229 | 33 => 181 | 4 => 4 | n => n, fun | n => n⟩
theorem Tryz.layKeys : Go.Proofs.SlLaysZI.n7 Tryz.prog Tryz.layKeys_ren := {
  mixed := by kernel_rfl
  f7 := ⟨Tryz.f166.name, by decide, Tryz.func166.trans (congrArg some (by kernel_rfl))⟩
  f10 := ⟨Tryz.f220.name, by decide, Tryz.func220.trans (congrArg some (by kernel_rfl))⟩
  t0 := Tryz.underlying0
  a0 := Tryz.isAgg0
  z0 := Tryz.sizeOf0
  v0 := Tryz.zeroValue0
  t4 := Tryz.underlying4
  a4 := Tryz.isAgg4
  z4 := Tryz.sizeOf4
  v4 := Tryz.zeroValue4
  t23 := Tryz.underlying232
  a23 := Tryz.isAgg232
  z23 := Tryz.sizeOf232
  v23 := Tryz.zeroValue232
  t26 := Tryz.underlying3
  a26 := Tryz.isAgg3
  z26 := Tryz.sizeOf3
  v26 := Tryz.zeroValue3
  t27 := Tryz.underlying229
  a27 := Tryz.isAgg229
  z27 := Tryz.sizeOf229
  v27 := Tryz.zeroValue229
  t28 := Tryz.underlying230
  a28 := Tryz.isAgg230
  z28 := Tryz.sizeOf230
  v28 := Tryz.zeroValue230
  t33 := Tryz.underlying181
  a33 := Tryz.isAgg181
  z33 := Tryz.sizeOf181
  v33 := Tryz.zeroValue181 }
def Tryz.laySorted_ren : Go.Shelf.Ren := ⟨fun | 6 => 165 | 8 => 218 | 9 => 219 | 11 => 242 | 13 => 244 | 12 => 243 | 23 => 270 | 24 => 271 | 14 => 261 | 15 => 262 | 16 => 263 | 17 => 264 | 18 => 265 | 19 => 266 | 20 => 267 | 21 => 268 | 22 => 269 | 25 => 281 | 26 => 282 | 27 => 283 | 28 => 284 | 29 => 285 | 30 => 286 | 31 => 290 | n => n, fun | 26 => 3 | 28 => 230 | 24 => 24 | 0 => 0 | 3 => 3 | 37 => 100 | 48 => 257 | 50 => 179 | 4 => 4 | 40 => 298 | 39 => 297 | 45 => 226 | 5 => 5 | 9 => 9 | 51 => 311 | 55 => 315 | 57 => 318 | 58 => 319 | 33 => 181 | n => n, fun | n => n⟩
theorem Tryz.laySorted : Go.Proofs.SlLaysZI.n6 Tryz.prog Tryz.laySorted_ren := {
  mixed := by kernel_rfl
  f6 := ⟨Tryz.f165.name, by decide, Tryz.func165.trans (congrArg some (by kernel_rfl))⟩
  f8 := ⟨Tryz.f218.name, by decide, Tryz.func218.trans (congrArg some (by kernel_rfl))⟩
  f11 := ⟨Tryz.f242.name, by decide, Tryz.func242.trans (congrArg some (by kernel_rfl))⟩
  t0 := Tryz.underlying0
  a0 := Tryz.isAgg0
  z0 := Tryz.sizeOf0
  v0 := Tryz.zeroValue0
  t24 := Tryz.underlying24
  a24 := Tryz.isAgg24
  z24 := Tryz.sizeOf24
  v24 := Tryz.zeroValue24
  t26 := Tryz.underlying3
  a26 := Tryz.isAgg3
  z26 := Tryz.sizeOf3
  v26 := Tryz.zeroValue3
  t28 := Tryz.underlying230
  a28 := Tryz.isAgg230
  z28 := Tryz.sizeOf230
  v28 := Tryz.zeroValue230
  i26 := by kernel_rfl }
def Tryz.laySort_ren : Go.Shelf.Ren := ⟨fun | 189 => 219 | 125 => 244 | 257 => 243 | 128 => 270 | 129 => 271 | 294 => 261 | 295 => 262 | 296 => 263 | 297 => 264 | 298 => 265 | 299 => 266 | 216 => 267 | 300 => 268 | 301 => 269 | 328 => 281 | 329 => 282 | 330 => 283 | 331 => 284 | 332 => 285 | 215 => 286 | 343 => 290 | n => n, fun | 28 => 24 | 3 => 3 | 46 => 100 | 0 => 0 | 51 => 257 | 53 => 179 | 4 => 4 | 183 => 298 | 182 => 297 | 131 => 226 | 5 => 5 | 9 => 9 | 218 => 311 | 222 => 315 | 228 => 318 | 229 => 319 | n => n, fun | n => n⟩
theorem Tryz.laySort : Go.Proofs.Lays.n189 Tryz.prog Tryz.laySort_ren := {
  mixed := by kernel_rfl
  f125 := Tryz.func244.trans (congrArg some (by kernel_rfl))
  f128 := Tryz.func270.trans (congrArg some (by kernel_rfl))
  f129 := Tryz.func271.trans (congrArg some (by kernel_rfl))
  f189 := Tryz.func219.trans (congrArg some (by kernel_rfl))
  f215 := Tryz.func286.trans (congrArg some (by kernel_rfl))
  f216 := Tryz.func267.trans (congrArg some (by kernel_rfl))
  f257 := Tryz.func243.trans (congrArg some (by kernel_rfl))
  f294 := Tryz.func261.trans (congrArg some (by kernel_rfl))
  f295 := Tryz.func262.trans (congrArg some (by kernel_rfl))
  f296 := Tryz.func263.trans (congrArg some (by kernel_rfl))
  f297 := Tryz.func264.trans (congrArg some (by kernel_rfl))
  f298 := Tryz.func265.trans (congrArg some (by kernel_rfl))
  f299 := Tryz.func266.trans (congrArg some (by kernel_rfl))
  f300 := Tryz.func268.trans (congrArg some (by kernel_rfl))
  f301 := Tryz.func269.trans (congrArg some (by kernel_rfl))
  f328 := Tryz.func281.trans (congrArg some (by kernel_rfl))
  f329 := Tryz.func282.trans (congrArg some (by kernel_rfl))
  f330 := Tryz.func283.trans (congrArg some (by kernel_rfl))
  f331 := Tryz.func284.trans (congrArg some (by kernel_rfl))
  f332 := Tryz.func285.trans (congrArg some (by kernel_rfl))
  f343 := Tryz.func290.trans (congrArg some (by kernel_rfl))
  t0 := Tryz.underlying0
  a0 := Tryz.isAgg0
  z0 := Tryz.sizeOf0
  v0 := Tryz.zeroValue0
  t3 := Tryz.underlying3
  a3 := Tryz.isAgg3
  z3 := Tryz.sizeOf3
  v3 := Tryz.zeroValue3
  t4 := Tryz.underlying4
  a4 := Tryz.isAgg4
  z4 := Tryz.sizeOf4
  v4 := Tryz.zeroValue4
  t5 := Tryz.underlying5
  a5 := Tryz.isAgg5
  z5 := Tryz.sizeOf5
  v5 := Tryz.zeroValue5
  t9 := Tryz.underlying9
  a9 := Tryz.isAgg9
  z9 := Tryz.sizeOf9
  v9 := Tryz.zeroValue9
  t28 := Tryz.underlying24
  a28 := Tryz.isAgg24
  z28 := Tryz.sizeOf24
  v28 := Tryz.zeroValue24
  t46 := Tryz.underlying100
  a46 := Tryz.isAgg100
  z46 := Tryz.sizeOf100
  v46 := Tryz.zeroValue100
  t51 := Tryz.underlying257
  a51 := Tryz.isAgg257
  z51 := Tryz.sizeOf257
  v51 := Tryz.zeroValue257
  t53 := Tryz.underlying179
  a53 := Tryz.isAgg179
  z53 := Tryz.sizeOf179
  v53 := Tryz.zeroValue179
  t131 := Tryz.underlying226
  a131 := Tryz.isAgg226
  z131 := Tryz.sizeOf226
  v131 := Tryz.zeroValue226
  t182 := Tryz.underlying297
  a182 := Tryz.isAgg297
  z182 := Tryz.sizeOf297
  v182 := Tryz.zeroValue297
  t183 := Tryz.underlying298
  a183 := Tryz.isAgg298
  z183 := Tryz.sizeOf298
  v183 := Tryz.zeroValue298
  t218 := Tryz.underlying311
  a218 := Tryz.isAgg311
  z218 := Tryz.sizeOf311
  v218 := Tryz.zeroValue311
  t222 := Tryz.underlying315
  a222 := Tryz.isAgg315
  z222 := Tryz.sizeOf315
  v222 := Tryz.zeroValue315
  t228 := Tryz.underlying318
  a228 := Tryz.isAgg318
  z228 := Tryz.sizeOf318
  v228 := Tryz.zeroValue318
  t229 := Tryz.underlying319
  a229 := Tryz.isAgg319
  z229 := Tryz.sizeOf319
  v229 := Tryz.zeroValue319 }
def Tryz.layRep_ren : Go.Shelf.Ren := ⟨fun | 105 => 89 | 212 => 144 | 99 => 145 | 165 => 146 | 166 => 147 | 170 => 148 | 169 => 149 | 263 => 198 | 264 => 199 | 206 => 200 | 240 => 201 | 241 => 202 | 276 => 235 | 277 => 236 | n => n, fun | 9 => 9 | 3 => 3 | 4 => 4 | 20 => 20 | 0 => 0 | 46 => 100 | 109 => 207 | 5 => 5 | 72 => 212 | 76 => 215 | 51 => 257 | 146 => 258 | 53 => 179 | 148 => 260 | 70 => 210 | 37 => 51 | 75 => 214 | 127 => 262 | 164 => 277 | 80 => 217 | n => n, fun | n => n⟩
theorem Tryz.layRep : Go.Proofs.Lays.n105 Tryz.prog Tryz.layRep_ren := {
  mixed := by kernel_rfl
  f99 := Tryz.func145.trans (congrArg some (by kernel_rfl))
  f105 := Tryz.func89.trans (congrArg some (by kernel_rfl))
  f165 := Tryz.func146.trans (congrArg some (by kernel_rfl))
  f166 := Tryz.func147.trans (congrArg some (by kernel_rfl))
  f169 := Tryz.func149.trans (congrArg some (by kernel_rfl))
  f170 := Tryz.func148.trans (congrArg some (by kernel_rfl))
  f206 := Tryz.func200.trans (congrArg some (by kernel_rfl))
  f212 := Tryz.func144.trans (congrArg some (by kernel_rfl))
  f240 := Tryz.func201.trans (congrArg some (by kernel_rfl))
  f241 := Tryz.func202.trans (congrArg some (by kernel_rfl))
  f263 := Tryz.func198.trans (congrArg some (by kernel_rfl))
  f264 := Tryz.func199.trans (congrArg some (by kernel_rfl))
  f276 := Tryz.func235.trans (congrArg some (by kernel_rfl))
  f277 := Tryz.func236.trans (congrArg some (by kernel_rfl))
  t0 := Tryz.underlying0
  a0 := Tryz.isAgg0
  z0 := Tryz.sizeOf0
  v0 := Tryz.zeroValue0
  t3 := Tryz.underlying3
  a3 := Tryz.isAgg3
  z3 := Tryz.sizeOf3
  v3 := Tryz.zeroValue3
  t4 := Tryz.underlying4
  a4 := Tryz.isAgg4
  z4 := Tryz.sizeOf4
  v4 := Tryz.zeroValue4
  t5 := Tryz.underlying5
  a5 := Tryz.isAgg5
  z5 := Tryz.sizeOf5
  v5 := Tryz.zeroValue5
  t9 := Tryz.underlying9
  a9 := Tryz.isAgg9
  z9 := Tryz.sizeOf9
  v9 := Tryz.zeroValue9
  t20 := Tryz.underlying20
  a20 := Tryz.isAgg20
  z20 := Tryz.sizeOf20
  v20 := Tryz.zeroValue20
  t37 := Tryz.underlying51
  a37 := Tryz.isAgg51
  z37 := Tryz.sizeOf51
  v37 := Tryz.zeroValue51
  t46 := Tryz.underlying100
  a46 := Tryz.isAgg100
  z46 := Tryz.sizeOf100
  v46 := Tryz.zeroValue100
  t51 := Tryz.underlying257
  a51 := Tryz.isAgg257
  z51 := Tryz.sizeOf257
  v51 := Tryz.zeroValue257
  t53 := Tryz.underlying179
  a53 := Tryz.isAgg179
  z53 := Tryz.sizeOf179
  v53 := Tryz.zeroValue179
  t70 := Tryz.underlying210
  a70 := Tryz.isAgg210
  z70 := Tryz.sizeOf210
  v70 := Tryz.zeroValue210
  t72 := Tryz.underlying212
  a72 := Tryz.isAgg212
  z72 := Tryz.sizeOf212
  v72 := Tryz.zeroValue212
  t75 := Tryz.underlying214
  a75 := Tryz.isAgg214
  z75 := Tryz.sizeOf214
  v75 := Tryz.zeroValue214
  t76 := Tryz.underlying215
  a76 := Tryz.isAgg215
  z76 := Tryz.sizeOf215
  v76 := Tryz.zeroValue215
  t109 := Tryz.underlying207
  a109 := Tryz.isAgg207
  z109 := Tryz.sizeOf207
  v109 := Tryz.zeroValue207
  t127 := Tryz.underlying262
  a127 := Tryz.isAgg262
  z127 := Tryz.sizeOf262
  v127 := Tryz.zeroValue262
  t146 := Tryz.underlying258
  a146 := Tryz.isAgg258
  z146 := Tryz.sizeOf258
  v146 := Tryz.zeroValue258
  t148 := Tryz.underlying260
  a148 := Tryz.isAgg260
  z148 := Tryz.sizeOf260
  v148 := Tryz.zeroValue260
  t164 := Tryz.underlying277
  a164 := Tryz.isAgg277
  z164 := Tryz.sizeOf277
  v164 := Tryz.zeroValue277 }
end Go.Proofs
namespace Go.Proofs.YtmnmcobpfpkibaaGreatDoor
open Go.RowKit Go.Sort
set_option linter.unusedVariables false
def tz64 (x : Int) : Option Int := if 0 ≤ x ∧ x < 18446744073709551616 then some (Lib.ctz 64 x.toNat) else none
def keysP (m : List (Int × Int)) : Option (List (Int × Int)) := some m
def inR (x : Int) : Bool := decide (-9223372036854775808 ≤ x) && decide (x ≤ 9223372036854775807)
def insZ (x : Int) : List Int → List Int
  | [] => [x]
  | y :: l => if x ≤ y then x :: y :: l else y :: insZ x l
def sortZ : List Int → List Int
  | [] => []
  | x :: l => insZ x (sortZ l)
def sortedP (m : List (Int × Int)) : Option (List Int) := if m.length ≤ 4294967296 ∧ m.all (fun x => inR x.1) = true then some (sortZ (m.map (·.1))) else none
def sortP (xs : List Int) : Option (List Int) := if xs.length ≤ 4294967296 then some (sortZ xs) else none
def growP {α : Type} (xs : List α) (n : Int) : Option (List α) := if 0 ≤ n ∧ n ≤ 4294967296 then some [] else none
def keysv (m : List (Int × Int)) : TV := ⟨fun p v => ∃ (g : Nat) (mv : Value) (t : TypeId), v = .func (.func 220) #[] #[.pointer (some ⟨g, 0, none⟩)] ∧ p.S g ∧ p.w.heap[g]? = some (.cells #[mv] t (0, 0)) ∧ (kMap kInt).K p.w p.S m [mv],
  fun hl h => by obtain ⟨g, mv, t, h1, h2, h3, h4⟩ := h; exact ⟨g, mv, t, h1, (hl _ h2).1, (hl _ h2).2.trans h3, Kd.frame _ hl h4⟩⟩
def nilv {α : Type} (a : List α) : TV := ⟨fun _ v => a = [] ∧ v = .slice none 0 0, fun _ h => h⟩
def leZ : Int → Int → Bool := fun x y => decide (x ≤ y)
theorem insZ_perm (x : Int) : ∀ l, (insZ x l).Perm (x :: l)
  | [] => .refl _
  | y :: l => by
    unfold insZ
    split
    · exact .refl _
    · exact ((insZ_perm x l).cons y).trans (.swap x y l)
theorem sortZ_perm : ∀ l, (sortZ l).Perm l
  | [] => .refl _
  | x :: l => (insZ_perm x _).trans ((sortZ_perm l).cons x)
theorem insZ_sorted (x : Int) : ∀ l : List Int, l.Pairwise (fun a b => a ≤ b) → (insZ x l).Pairwise (fun a b => a ≤ b)
  | [], _ => by simp [insZ]
  | y :: l, h => by
    have h' := List.pairwise_cons.1 h
    unfold insZ
    split
    · rename_i hxy
      exact List.pairwise_cons.2 ⟨fun b hb => by
        rcases List.mem_cons.1 hb with rfl | hb
        · exact hxy
        · exact Int.le_trans hxy (h'.1 b hb), h⟩
    · rename_i hxy
      refine List.pairwise_cons.2 ⟨fun b hb => ?_, insZ_sorted x l h'.2⟩
      rcases List.mem_cons.1 ((insZ_perm x l).mem_iff.1 hb) with rfl | hb
      · omega
      · exact h'.1 b hb
theorem sortZ_sorted : ∀ l, (sortZ l).Pairwise (fun a b => a ≤ b)
  | [] => .nil
  | x :: l => insZ_sorted x _ (sortZ_sorted l)
theorem sortZ_eq {l l' : List Int} (h : l.Perm l') : (l.mergeSort fun x y => decide (x ≤ y)) = sortZ l' := by
  have tr : ∀ a b c : Int, decide (a ≤ b) = true → decide (b ≤ c) = true → decide (a ≤ c) = true := fun a b c h1 h2 => by simp only [decide_eq_true_eq] at *; exact Int.le_trans h1 h2
  have tot : ∀ a b : Int, (decide (a ≤ b) || decide (b ≤ a)) = true := fun a b => by simp only [Bool.or_eq_true, decide_eq_true_eq]; exact Int.le_total a b
  refine List.Perm.eq_of_pairwise (le := fun a b => a ≤ b) (fun a b _ _ h1 h2 => Int.le_antisymm h1 h2) ?_ (sortZ_sorted l') (((List.mergeSort_perm l _).trans h).trans (sortZ_perm l').symm)
  exact (List.pairwise_mergeSort tr tot l).imp fun {a b} h => by simpa using h
theorem sortZ_len (l : List Int) : (sortZ l).length = l.length := (sortZ_perm l).length_eq
theorem c_keysP (a0 : List (Int × Int)) : Ct Tryz.prog 166 [rd (kMap kInt) a0] (keysP a0) (fun r => keysv r) := ⟨⟨Tryz.f166, Tryz.func166, by kernel_rfl, by kernel_rfl⟩, fun r hr p vs hgl hv => by
  injection hr with hr
  subst hr
  match vs, hv with
  | [v], ⟨hv, _⟩ =>
    have hv : (kMap kInt).K p.w p.S a0 [v] := hv
    obtain ⟨mb, rfl⟩ : ∃ mb, v = .map mb := by
      rcases hv with ⟨_, e⟩ | ⟨g, _, _, e, _⟩ <;> (injection e with e; exact ⟨_, e⟩)
    have hc : CallsIn Fence.wide 5 Tryz.prog 166 #[.map mb] p.w fun e w' => e = .returned (.func (.func 220) #[] #[.pointer (some ⟨p.w.heap.size, 0, none⟩)]) ∧ w' = p.w.alloc (.cells #[.map mb] (Tryz.layKeys_ren.t 23)) := AnyZI.keys_in Tryz.layKeys Fence.wide 5 trivial rfl mb p.w
    refine (callsIn_wide.1 hc).mono ?_
    rintro e w' ⟨rfl, rfl⟩
    have hle : ∀ b, p.S b → (p.S b ∨ b = p.w.heap.size) ∧ (p.w.alloc (.cells #[.map mb] (Tryz.layKeys_ren.t 23))).heap[b]? = p.w.heap[b]? := fun b hb => ⟨.inl hb, blk_old _ _ (p.lt b hb)⟩
    exact ⟨_, rfl, ⟨p.w.alloc (.cells #[.map mb] (Tryz.layKeys_ren.t 23)), fun b => p.S b ∨ b = p.w.heap.size, fun b hb => by rw [size_alloc]; exact hb.elim (fun hb => Nat.lt_succ_of_lt (p.lt b hb)) (fun e => e ▸ Nat.lt_succ_self _)⟩, rfl, hle, (Ext.refl _).alloc _, fun b hb => hb.elim .inl (fun e => .inr (e ▸ Nat.le_refl _)),
      p.w.heap.size, _, _, rfl, .inr rfl, blk_new _ _, Kd.frame _ hle hv⟩⟩
theorem owns_map {w : World} {S : Nat → Prop} {k : TypeId} {m : List (Int × Int)} {gm c : Nat} {es : Array MapEntry} (hk : Tryz.prog.underlying k = some (.int .i64)) (hg : w.heap[gm]? = some (.map es c)) (hm : Mp kInt w S m es.toList c) (hl : m.length ≤ 4294967296) (hr : m.all (fun x => inR x.1) = true) :
    ∃ D : DataW Unit, w.ownsMap Tryz.prog k (fun _ => some (.nil, [])) gm es.size D ∧ Maps.size D ≤ 4294967296 ∧ (intKeys D).Perm (m.map (·.1)) := by
  have hr' : ∀ x ∈ m, (Lit.int .i64 x.1).wf = true := fun x hx => by
    have := List.all_eq_true.1 hr x hx
    unfold inR at this
    simp only [Bool.and_eq_true, decide_eq_true_eq] at this
    have e1 : IntKind.i64.min = -9223372036854775808 := by decide
    have e2 : IntKind.i64.max = 9223372036854775807 := by decide
    show (decide (IntKind.i64.min ≤ x.1) && decide (x.1 ≤ IntKind.i64.max)) = true
    rw [e1, e2, decide_eq_true this.1, decide_eq_true this.2]
    rfl
  have hkey : ∀ (x : Int), (Lit.int .i64 x).wf = true → keyOf Tryz.prog k (.int .i64 x) = some (.int .i64 x) := fun x hx => by simp [keyOf, hk, mapKey, hx]
  have hrg : ∀ (l : List MapEntry) (m : List (Int × Int)), MEs kInt w S l m → (∀ x ∈ m, (Lit.int .i64 x.1).wf = true) → (∀ x ∈ l, ∃ y, WideElems.rd (H := Unit) Tryz.prog k (fun _ => some (.nil, [])) x = some y) ∧ (l.map (WideElems.rg (H := Unit) Tryz.prog k (fun _ => some (.nil, [])))) = m.map (fun x => (.int .i64 x.1, .nil)) ∧ l.map (·.key) = m.map (fun x => .int .i64 x.1) := by
    intro l
    induction l with
    | nil => intro m h _; cases m with | nil => simp | cons => exact h.elim
    | cons e l ih =>
      intro m h hw
      cases m with
      | nil => exact h.elim
      | cons x m =>
        obtain ⟨h1, h2, h3⟩ := h
        obtain ⟨i1, i2, i3⟩ := ih m h3 (fun x hx => hw x (List.mem_cons_of_mem _ hx))
        have hrd : WideElems.rd (H := Unit) Tryz.prog k (fun _ => some (.nil, [])) e = some (.int .i64 x.1, .nil) := by unfold WideElems.rd; rw [h1, hkey _ (hw x (List.mem_cons_self ..))]; rfl
        refine ⟨fun y hy => ?_, ?_, ?_⟩
        · rcases List.mem_cons.1 hy with rfl | hy
          · exact ⟨_, hrd⟩
          · exact i1 y hy
        · rw [List.map_cons, List.map_cons, i2]
          rw [WideElems.rg_of hrd]
        · simp only [List.map_cons, i3, h1]
  obtain ⟨r1, r2, r3⟩ := hrg es.toList m hm.e hr'
  have hlen : es.size = m.length := by have := hm.e.len; simpa using this
  have hnd : (es.toList.map (·.key)).Nodup := by
    rw [r3]
    have : m.map (fun x => Value.int .i64 x.1) = (m.map (·.1)).map (Value.int .i64) := by simp
    rw [this]
    exact List.pairwise_map.2 (hm.n.imp fun {a b} h e => h (by simpa using e))
  refine ⟨_, ⟨es, c, hg, ⟨by unfold maxLen; omega, ⟨hm.c, hm.b, hnd⟩, r1⟩, Nat.le_refl _, rfl⟩, ?_, ?_⟩
  · simp only [Maps.size_eq, length_sorted]
    simp; omega
  · rw [r2]
    show ((List.foldr DataW.insert [] (m.map fun x => (Lit.int .i64 x.1, DataW.nil))).map fun p => Go.intOf p.1).Perm _
    refine ((WideShapes.sorted_perm _).map _).trans ?_
    rw [List.map_map]
    exact .of_eq (by simp [Function.comp_def, Go.intOf])
theorem sorts_all (m : Nat) : AnyZI.SortsIn Tryz.prog Tryz.laySorted_ren Fence.wide m :=
  ⟨fun blk off cap ss W hH hblk hsz => callsIn_wide.2 (Any.slices_Sort_int Tryz.laySort blk off cap ss W hH hblk hsz),
   fun p cap W => callsIn_wide.2 (Any.slices_Sort_int_none Tryz.laySort p cap W)⟩
theorem seq_keys {p : Pt} {g : Nat} {mv : Value} {t : TypeId} {m : List (Int × Int)} (hs : p.S g) (hg : p.w.heap[g]? = some (.cells #[mv] t (0, 0))) (hk : (kMap kInt).K p.w p.S m [mv]) (hl : m.length ≤ 4294967296) (hr : m.all (fun x => inR x.1) = true) :
    SeqGives Fence.wide 2 Tryz.prog 220 #[.pointer (some ⟨g, 0, none⟩)] encZ (fun ss : List Int => ss.Perm (m.map (·.1))) 4294967296 p.w := by
  have hc : p.w.cell? ⟨g, 0, none⟩ = some mv := by simp [World.cell?, hg]
  have hlt := p.lt g hs
  rcases hk with ⟨rfl, e⟩ | ⟨gm, es, c, e, hsm, hgm, hm⟩
  · injection e with e
    subst e
    have h : SeqGives Fence.wide 2 Tryz.prog 220 #[.pointer (some ⟨g, 0, none⟩)] encZ (fun ss : List Int => ss = []) 0 p.w := AnyZI.keys_gives_nil (ρ := Tryz.layKeys_ren) { Tryz.layKeys with } Fence.wide 2 trivial rfl g p.w hlt hc
    exact fun l J W hW hJ hY h0 => (h l J W hW hJ (fun ss x W' hj hlen => hY ss x W' hj (by omega)) h0).mono fun e w' hq => by
      obtain ⟨h1, ss, h2, h3⟩ := hq
      exact ⟨h1, ss, by rw [h2]; exact .refl _, h3⟩
  · injection e with e
    subst e
    obtain ⟨D, hown, hsz, hperm⟩ := owns_map (k := Tryz.layKeys_ren.t 26) Tryz.layKeys.t26 hgm hm hl hr
    have h : SeqGives Fence.wide 2 Tryz.prog 220 #[.pointer (some ⟨g, 0, none⟩)] encZ (fun ss => ss.Perm (intKeys D)) (Maps.size D) p.w :=
      AnyZI.keys_gives (ρ := Tryz.layKeys_ren) { Tryz.layKeys with } Fence.wide 2 trivial rfl (by omega) g gm es.size D p.w hlt hc hown
    exact fun l J W hW hJ hY h0 => (h l J W hW hJ (fun ss x W' hj hlen => hY ss x W' hj (by omega)) h0).mono fun e w' hq => by
      obtain ⟨h1, ss, h2, h3⟩ := hq
      exact ⟨h1, ss, h2.trans hperm, h3⟩
theorem c_sortedP (a0 : List (Int × Int)) : Ct Tryz.prog 165 [keysv a0] (sortedP a0) (fun r => rd (kSl kInt) r) := ⟨⟨Tryz.f165, Tryz.func165, by kernel_rfl, by kernel_rfl⟩, fun r hr p vs hgl hv => by
  unfold sortedP at hr
  split at hr
  · rename_i hx
    injection hr with hr
    subst hr
    match vs, hv with
    | [v], ⟨hv, _⟩ =>
      obtain ⟨g, mv, t, rfl, hs, hg, hk⟩ := hv
      have hc : CallsIn Fence.wide 5 Tryz.prog 165 #[.func (.func 220) #[] #[.pointer (some ⟨g, 0, none⟩)]] p.w fun e w' => ∃ (v : Value) (ss : List Int), e = .returned v ∧ ss.Perm (a0.map (·.1)) ∧
          w'.ownsRow p.w.heap.size (Tryz.laySorted_ren.t 26) 1 v ss.length ((ss.mergeSort (fun x y => decide (x ≤ y))).map encZ) ∧ (v = .slice none 0 0 ↔ ss = []) ∧ Below p.w.heap.size p.w w' :=
        AnyZI.sorted_in Tryz.laySorted Fence.wide 5 trivial trivial trivial trivial rfl (by omega) (sorts_all _) (enters_of Tryz.func219 (by kernel_rfl) rfl) 220 _ trivial (enters_of Tryz.func220 (by kernel_rfl) rfl) _ 4294967296 (by unfold maxLen; omega) (by omega) _ (seq_keys hs hg hk hx.1 hx.2)
      refine (callsIn_wide.1 hc).mono ?_
      rintro e w' ⟨v, ss, rfl, hS, hrow, hnil, hb⟩
      rw [sortZ_eq hS] at hrow
      have hlen : ss.length = (sortZ (a0.map (·.1))).length := by rw [sortZ_len]; exact hS.length_eq
      rcases hrow.2 with ⟨rfl, hz⟩ | ⟨gb, cap, cur, rfl, hbase, hgb, r1, r2, r3, r4⟩
      · have h0 : sortZ (a0.map (·.1)) = [] := List.eq_nil_of_length_eq_zero (by omega)
        rw [h0]
        exact ⟨_, rfl, ⟨w', p.S, fun b hb' => Nat.lt_of_lt_of_le (p.lt b hb') hb.size⟩, rfl, fun b hb' => ⟨hb', hb.block b (p.lt b hb')⟩, hb, fun b hb' => .inl hb', none, 0, rfl, Nat.le_refl _, by decide, fun _ => rfl, fun i x hx => by simp at hx⟩
      · have hgbl : gb < w'.heap.size := blk_lt hgb
        refine ⟨_, rfl, ⟨w', fun b => p.S b ∨ b = gb, fun b hb' => hb'.elim (fun h => Nat.lt_of_lt_of_le (p.lt b h) hb.size) (fun e => e ▸ hgbl)⟩, rfl, fun b hb' => ⟨.inl hb', hb.block b (p.lt b hb')⟩, hb, fun b hb' => hb'.elim .inl (fun e => .inr (e ▸ hbase)), ?_⟩
        refine ⟨some ⟨gb, 0, none⟩, cap, by rw [hlen], by omega, r2, (fun e => by cases e), fun i x hix => ⟨_, [.int .i64 x], rfl, .inr rfl, rfl, fun j u hj => ?_⟩⟩
        have hi : i < (sortZ (a0.map (·.1))).length := (List.getElem?_eq_some_iff.1 hix).1
        have hj0 : j = 0 := by
          have := (List.getElem?_eq_some_iff.1 hj).1
          simpa using this
        subst hj0
        have hu : Value.int .i64 x = u := by simpa using hj
        subst hu
        rw [add_plain]
        have e1 : (cur.toList.take (ss.length * 1))[i]? = some (.int .i64 x) := by
          rw [r4, List.getElem?_map, hix]; rfl
        rw [List.getElem?_take_of_lt (by omega)] at e1
        have e2 : 0 + (i * kInt.sz + 0) = i := by show 0 + (i * 1 + 0) = i; omega
        rw [e2]
        simp only [World.cell?, hgb]
        simpa using e1
  · cases hr⟩
def repP (a0 : ByteArray) (a1 : Int) : Option ByteArray := if 0 ≤ a1 ∧ a0.size * a1.toNat ≤ 140737488355328 ∧ a1 ≤ 9223372036854775807 then some ⟨(Lib.repeatL a0.data.toList a1.toNat).toArray⟩ else none
theorem repX : Go.Proofs.Builder.Extra Tryz.prog Tryz.layRep_ren := { Tryz.layRep with sizeBuilder := by kernel_rfl, liesBuilder := by kernel_rfl, infoByte := by kernel_rfl, cellsByte := by kernel_rfl, sizeByte := by kernel_rfl, neB5 := by decide }
theorem c_repP (a0 : ByteArray) (a1 : Int) : Ct Tryz.prog 89 [rd kStr a0, rd kInt a1] (repP a0 a1) (fun r => rd kStr r) := ⟨⟨Tryz.f89, Tryz.func89, by kernel_rfl, by kernel_rfl⟩, fun r hr p vs hgl hv => by
  unfold repP at hr
  split at hr
  · rename_i hx
    injection hr with hr
    subst hr
    match vs, hv with
    | [v, u], ⟨hv, hu, _⟩ =>
      have hv : [v] = [.string a0] := hv
      have hu : [u] = [.int .i64 a1] := hu
      injection hv with hv
      injection hu with hu
      subst hv hu
      obtain ⟨n, rfl⟩ : ∃ n : Nat, a1 = n := ⟨a1.toNat, by omega⟩
      have hc := Any.strings_Repeat Tryz.layRep repX a0 n p.w (by omega) (by simpa using hx.2.1)
      refine Calls.mono (show Calls Tryz.prog 89 _ _ _ from hc) ?_
      rintro e w' ⟨rfl, hb⟩
      exact ⟨_, rfl, ⟨w', p.S, fun b hb' => Nat.lt_of_lt_of_le (p.lt b hb') hb.size⟩, rfl, fun b hb' => ⟨hb', hb.block b (p.lt b hb')⟩, hb, fun b hb' => .inl hb', (rfl : [_] = [_])⟩
  · cases hr⟩
end Go.Proofs.YtmnmcobpfpkibaaGreatDoor
namespace Go.Proofs.YtmnmcobpfpkibaaGreatDoor
open Go.RowKit
set_option linter.unusedVariables false
set_option maxRecDepth 20000
noncomputable def image_writer_number (a0 : image_writer) (a0l0 : (List Int)) (a1 : Int) : Option (image_writer × (List Int)) :=
  rep (fun (s2 : (Int × (List Int))) k1 => if (decide (s2.1 ≥ 128)) = true then ((app s2.2 [(bOr .u8 (IntKind.wrap .u8 s2.1) 128)]).bind (fun u5 => k1 ((bShr .i64 s2.1 7), u5))) else ((app s2.2 [(IntKind.wrap .u8 s2.1)]).bind (fun u8 => some (a0, u8)))) FUEL (a1, a0l0)
theorem c_image_writer_number (g900 : Nat) (o9000 : Option Nat) (c9000 : Nat) (a0 : image_writer) (a0l0 : (List Int)) (a1 : Int) : Cb Tryz.prog 128 [own g900 0, rd kInt a1] [(some g900, box (kRaw kimage_writer 0 rfl) (a0, a0l0.length, o9000, c9000)), (o9000, rows kByte 5 a0l0 c9000)] (image_writer_number a0 a0l0 a1) (fun r (h : (Option Nat × Nat)) => tup []) (fun r h => [(some g900, box (kRaw kimage_writer 0 rfl) (r.1, r.2.length, h.1, h.2)), (h.1, rows kByte 5 r.2 h.2)]) := by
  unfold image_writer_number
  refine enterB Tryz.func128 rfl Tryz.ntmps128 rfl (by kernel_rfl) fun z => c_seq<|c_blk<|c_loop (fun (s2 : (Int × (List Int))) (e3 : (Option Nat × Nat)) => [(0, own g900 0), (1, rd kInt s2.1)]) (fun (s2 : (Int × (List Int))) (e3 : (Option Nat × Nat)) => [(some g900, box (kRaw kimage_writer 0 rfl) (a0, s2.2.length, e3.1, e3.2)), (e3.1, rows kByte 5 s2.2 e3.2)]) (o9000, c9000) ⟨rfl, rfl, trivial⟩ (.c (.c (.nil _))) fun s2 e3 k1 => c_seq<|c_seq<|c_reg<|l_p (po_mov (.t rfl)) rfl<|l_p (po_ge (.t rfl) (ev_i _)) rfl<|l_nil<|x_tn<|c_if rfl (fun h4 => ?_) (fun h4 => ?_)
  · exact c_skip<|x_tn<|c_seq<|c_blk<|c_reg<|l_p (po_mov (.t rfl)) rfl<|l_p (po_mov (.t rfl)) rfl<|l_p (po_nck (.t rfl)) rfl<|l_p (po_fo (.t rfl) fs130_0) rfl<|l_p (po_loh (kx := kByte) 0 (.t rfl) rfl (Hat.me rfl) rfl th51) rfl<|l_p (po_mov (.t rfl)) rfl<|l_p (po_cv (b2 := 1) (lo2 := 0) (hi2 := 255) (.t rfl) un3 un5) rfl<|l_p (po_or (.t rfl) (ev_y _)) rfl<|l_bsl kByte sz51 rfl (.cons (.t rfl) (.nil _)) rfl<|l_app 1 (.t rfl) rfl (.t rfl) ap51 rfl fun u5 o6 c7 => l_p (po_nck (.t rfl)) rfl<|l_p (po_fo (.t rfl) fs130_0) rfl<|l_stf 0 (.t rfl) (ev_row (.t rfl)) rfl (Fst.hr rfl) th51<|l_nil<|x_bn<|x_tn<|c_reg<|l_p (po_mov (.t rfl)) rfl<|l_p (po_shr (.t rfl) (ev_u _) (by decide)) rfl<|l_p (po_asg (.t rfl)) rfl<|l_nil<|x_mid (((bShr .i64 s2.1 7), u5), (o6, c7)) rfl ⟨rfl, rfl, trivial⟩ (.c (.c (.nil _)))
  · exact c_exit<|x_te<|x_me<|x_be<|x_tn<|c_reg<|l_p (po_mov (.t rfl)) rfl<|l_p (po_mov (.t rfl)) rfl<|l_p (po_nck (.t rfl)) rfl<|l_p (po_fo (.t rfl) fs130_0) rfl<|l_p (po_loh (kx := kByte) 0 (.t rfl) rfl (Hat.me rfl) rfl th51) rfl<|l_p (po_mov (.t rfl)) rfl<|l_p (po_cv (b2 := 1) (lo2 := 0) (hi2 := 255) (.t rfl) un3 un5) rfl<|l_bsl kByte sz51 rfl (.cons (.t rfl) (.nil _)) rfl<|l_app 1 (.t rfl) rfl (.t rfl) ap51 rfl fun u8 o9 c10 => l_p (po_nck (.t rfl)) rfl<|l_p (po_fo (.t rfl) fs130_0) rfl<|l_stf 0 (.t rfl) (ev_row (.t rfl)) rfl (Fst.hr rfl) th51<|l_nil<|x_endb<|x_rbn (o9, c10) rfl rfl rfl trivial (.c (.c (.nil _)))
noncomputable def hl18_num (a0 : Int) : Option Int :=
  some a0
theorem c_hl18_num (a0 : Int) : Ct Tryz.prog 11 [rd kInt a0] (hl18_num a0) (fun r => rd kInt r) := by
  unfold hl18_num
  exact enter Tryz.func11 rfl Tryz.ntmps11 rfl (by kernel_rfl) fun z => c_seq<|c_reg<|l_p (po_asg (ev_i _)) rfl<|l_nil<|x_tn<|c_seq<|c_reg<|l_p (po_mov (.t rfl)) rfl<|l_p (po_asg (.t rfl)) rfl<|l_nil<|x_tn<|c_ret<|x_ret1 rfl (.t rfl)
noncomputable def image_reader_take (a0 : image_reader) (a1 : Int) : Option (ByteArray × image_reader) :=
  jn (fun (b2 : Bool) => jn (fun (b6 : Bool) => if b6 = true then (some ((ByteArray.mk #[]), (image_reader.bad_s a0 true))) else ((sSub (image_reader.s a0) 0 a1).bind (fun u11 => (sSub (image_reader.s a0) a1 ((image_reader.s a0).size : Int)).bind (fun u13 => some (u11, (image_reader.s_s a0 u13)))))) (fun k5 => if b2 = true then (k5 true) else (k5 (decide (a1 > ((image_reader.s a0).size : Int)))))) (fun k1 => if (image_reader.bad a0) = true then (k1 true) else (k1 (decide (a1 < 0))))
theorem c_image_reader_take (g900 : Nat) (a0 : image_reader) (a1 : Int) : Cb Tryz.prog 142 [own g900 0, rd kInt a1] [(some g900, box kimage_reader a0)] (image_reader_take a0 a1) (fun r (h : Unit) => rd kStr r.1) (fun r h => [(some g900, box kimage_reader r.2)]) := by
  unfold image_reader_take
  refine enterB Tryz.func142 rfl Tryz.ntmps142 rfl (by kernel_rfl) fun z => c_seq<|c_reg<|l_p (po_asg (.s _)) rfl<|l_nil<|x_tn<|c_seq<|c_seq<|c_reg<|l_p (po_mov (.t rfl)) rfl<|l_p (po_nck (.t rfl)) rfl<|l_p (po_fo (.t rfl) fs92_1) rfl<|l_p (po_lo 0 (.t rfl) rfl F_image_reader_bad ty4) rfl<|l_p (po_mov (.t rfl)) rfl<|l_jn 3 (fun (b2 : Bool) (e3 : Unit) => [(0, own g900 0), (1, rd kInt a1), (4, rd kStr (ByteArray.mk #[])), (13, rd kBool b2)]) (fun (b2 : Bool) (e3 : Unit) => [(some g900, box kimage_reader a0)]) (fun k1 => ?_) (fun b2 e3 => ?_)
  · refine l_if (fun h4 => ?_) (fun h4 => ?_)
    · exact l_skipn 2 4 false ⟨_, rfl, _, rfl, ne_f h4⟩ rfl<|l_p (po_pickt (t := rd kBool true) (.t rfl) h4 (.b _)) rfl<|l_nil<|x_mid (true, ()) rfl ⟨rfl, rfl, rfl, rfl, trivial⟩ (.c (.nil _))
    · exact l_po ⟨_, rfl, _, rfl, h4⟩ (po_mov (.t rfl)) rfl<|l_po ⟨_, rfl, _, rfl, h4⟩ (po_lt (.t rfl) (ev_i _)) rfl<|l_p (po_pickf (t := rd kBool (decide (a1 < 0))) (.t rfl) h4 (.t rfl)) rfl<|l_nil<|x_mid ((decide (a1 < 0)), ()) rfl ⟨rfl, rfl, rfl, rfl, trivial⟩ (.c (.nil _))
  · refine l_p (po_mov (.t rfl)) rfl<|l_jn 8 (fun (b6 : Bool) (e7 : Unit) => [(0, own g900 0), (1, rd kInt a1), (4, rd kStr (ByteArray.mk #[])), (22, rd kBool b6)]) (fun (b6 : Bool) (e7 : Unit) => [(some g900, box kimage_reader a0)]) (fun k5 => ?_) (fun b6 e7 => ?_)
    · refine l_if (fun h8 => ?_) (fun h8 => ?_)
      · exact l_skipn 7 8 false ⟨_, rfl, _, rfl, ne_f h8⟩ rfl<|l_p (po_pickt (t := rd kBool true) (.t rfl) h8 (.b _)) rfl<|l_nil<|x_mid (true, ()) rfl ⟨rfl, rfl, rfl, rfl, trivial⟩ (.c (.nil _))
      · exact l_po ⟨_, rfl, _, rfl, h8⟩ (po_mov (.t rfl)) rfl<|l_po ⟨_, rfl, _, rfl, h8⟩ (po_mov (.t rfl)) rfl<|l_po ⟨_, rfl, _, rfl, h8⟩ (po_nck (.t rfl)) rfl<|l_po ⟨_, rfl, _, rfl, h8⟩ (po_fo (.t rfl) fs92_0) rfl<|l_po ⟨_, rfl, _, rfl, h8⟩ (po_lo 0 (.t rfl) rfl F_image_reader_s ty9) rfl<|l_po ⟨_, rfl, _, rfl, h8⟩ (po_lens (.t rfl) un9) rfl<|l_po ⟨_, rfl, _, rfl, h8⟩ (po_gt (.t rfl) (.t rfl)) rfl<|l_p (po_pickf (t := rd kBool (decide (a1 > ((image_reader.s a0).size : Int)))) (.t rfl) h8 (.t rfl)) rfl<|l_nil<|x_mid ((decide (a1 > ((image_reader.s a0).size : Int))), ()) rfl ⟨rfl, rfl, rfl, rfl, trivial⟩ (.c (.nil _))
    · refine l_nil<|x_tn<|c_if rfl (fun h9 => ?_) (fun h9 => ?_)
      · exact c_seq<|c_reg<|l_p (po_mov (.t rfl)) rfl<|l_p (po_nck (.t rfl)) rfl<|l_p (po_fo (.t rfl) fs92_1) rfl<|l_st 0 (.t rfl) (.b _) rfl F_image_reader_bad ty4<|l_nil<|x_tn<|c_seq<|c_reg<|l_p (po_asg (.s _)) rfl<|l_nil<|x_tn<|c_ret<|x_tr<|x_rb1 () rfl (.t rfl) (.c (.nil _))
      · exact c_skip<|x_tn<|c_seq<|c_reg<|l_p (po_mov (.t rfl)) rfl<|l_p (po_nck (.t rfl)) rfl<|l_p (po_fo (.t rfl) fs92_0) rfl<|l_p (po_lo 0 (.t rfl) rfl F_image_reader_s ty9) rfl<|l_p (po_mov (.t rfl)) rfl<|l_bind fun u11 h10 => l_p (po_ssub (.t rfl) .no (.so (.t rfl)) h10 un9) rfl<|l_p (po_asg (.t rfl)) rfl<|l_nil<|x_tn<|c_seq<|c_reg<|l_p (po_mov (.t rfl)) rfl<|l_p (po_mov (.t rfl)) rfl<|l_p (po_nck (.t rfl)) rfl<|l_p (po_fo (.t rfl) fs92_0) rfl<|l_p (po_lo 0 (.t rfl) rfl F_image_reader_s ty9) rfl<|l_p (po_mov (.t rfl)) rfl<|l_bind fun u13 h12 => l_p (po_ssub (.t rfl) (.so (.t rfl)) .no h12 un9) rfl<|l_p (po_nck (.t rfl)) rfl<|l_p (po_fo (.t rfl) fs92_0) rfl<|l_st 0 (.t rfl) (.t rfl) rfl F_image_reader_s ty9<|l_nil<|x_tn<|c_seq<|c_reg<|l_p (po_mov (.t rfl)) rfl<|l_p (po_asg (.t rfl)) rfl<|l_nil<|x_tn<|c_ret<|x_rb1 () rfl (.t rfl) (.c (.nil _))
noncomputable def hr0_EqNumbers (a0 : (List Int)) (a1 : (List Int)) : Option Bool :=
  if ((a0.length : Int) != (a1.length : Int)) = true then (some false) else (rep (fun (s3 : (Bool × Int)) k2 => if (decide (s3.2 < (a0.length : Int))) = true then ((at? a0 s3.2).bind (fun u7 => (at? a1 s3.2).bind (fun u9 => if (u7 != u9) = true then (some false) else (k2 (s3.1, (IntKind.wrap .i64 (s3.2 + 1))))))) else (some true)) FUEL (false, 0))
theorem c_hr0_EqNumbers (a0 : (List Int)) (a1 : (List Int)) : Ct Tryz.prog 74 [rd (kSl kInt) a0, rd (kSl kInt) a1] (hr0_EqNumbers a0 a1) (fun r => rd kBool r) := by
  unfold hr0_EqNumbers
  refine enter Tryz.func74 rfl Tryz.ntmps74 rfl (by kernel_rfl) fun z => c_seq<|c_reg<|l_p (po_asg (.b _)) rfl<|l_nil<|x_tn<|c_seq<|c_seq<|c_reg<|l_p (po_mov (.t rfl)) rfl<|l_p (po_len (ty := 0) (.t rfl) sl24) rfl<|l_p (po_mov (.t rfl)) rfl<|l_p (po_len (ty := 0) (.t rfl) sl24) rfl<|l_p (po_ne (.t rfl) (.t rfl)) rfl<|l_nil<|x_tn<|c_if rfl (fun h1 => ?_) (fun h1 => ?_)
  · exact c_seq<|c_reg<|l_p (po_asg (.b _)) rfl<|l_nil<|x_tn<|c_ret<|x_tr<|x_ret1 rfl (.t rfl)
  · refine c_skip<|x_tn<|c_seq<|c_seq<|c_reg<|l_p (po_asg (ev_i _)) rfl<|l_nil<|x_tn<|c_blk<|c_loop (fun (s3 : (Bool × Int)) (e4 : Unit) => [(0, rd (kSl kInt) a0), (1, rd (kSl kInt) a1), (4, rd kBool s3.1), (5, rd kInt s3.2)]) (fun (s3 : (Bool × Int)) (e4 : Unit) => []) () ⟨rfl, rfl, rfl, rfl, trivial⟩ (.nil _) fun s3 e4 k2 => c_seq<|c_seq<|c_reg<|l_p (po_mov (.t rfl)) rfl<|l_p (po_mov (.t rfl)) rfl<|l_p (po_len (ty := 0) (.t rfl) sl24) rfl<|l_p (po_lt (.t rfl) (.t rfl)) rfl<|l_nil<|x_tn<|c_if rfl (fun h5 => ?_) (fun h5 => ?_)
    · refine c_skip<|x_tn<|c_seq<|c_blk<|c_seq<|c_draw [0, 1, 2, 3, 4, 5, 6, 7, 8] [] [] (by kernel_rfl) (by kernel_rfl)<|w_p rfl rfl (po_mov (.t rfl)) rfl<|w_p rfl rfl (po_mov (.t rfl)) rfl<|w_bind fun u7 h6 => w_p rfl rfl (po_ia (.t rfl) (.t rfl) h6 sl24) rfl<|w_p rfl rfl (po_la (.t rfl) ty3) rfl<|w_p rfl rfl (po_mov (.t rfl)) rfl<|w_p rfl rfl (po_mov (.t rfl)) rfl<|w_bind fun u9 h8 => w_p rfl rfl (po_ia (.t rfl) (.t rfl) h8 sl24) rfl<|w_p rfl rfl (po_la (.t rfl) ty3) rfl<|w_p rfl rfl (po_ne (.t rfl) (.t rfl)) rfl<|w_nil<|x_tn<|c_if rfl (fun h10 => ?_) (fun h10 => ?_)
      · exact c_seq<|c_reg<|l_p (po_asg (.b _)) rfl<|l_nil<|x_tn<|c_ret<|x_br<|x_tr<|x_mr<|x_br<|x_tr<|x_ret1 rfl (.t rfl)
      · exact c_skip<|x_bn<|x_tn<|c_reg<|l_p (po_mov (.t rfl)) rfl<|l_p (po_add (.t rfl) (ev_i _)) rfl<|l_p (po_asg (.t rfl)) rfl<|l_nil<|x_mid ((s3.1, (IntKind.wrap .i64 (s3.2 + 1))), ()) rfl ⟨rfl, rfl, rfl, rfl, trivial⟩ (.nil _)
    · exact c_exit<|x_te<|x_me<|x_be<|x_tn<|c_seq<|c_reg<|l_p (po_asg (.b _)) rfl<|l_nil<|x_tn<|c_ret<|x_ret1 rfl (.t rfl)
noncomputable def hr0_EqLinks (a0 : (List Link)) (a1 : (List Link)) : Option Bool :=
  if ((a0.length : Int) != (a1.length : Int)) = true then (some false) else (rep (fun (s3 : (Bool × Int)) k2 => if (decide (s3.2 < (a0.length : Int))) = true then ((at? a0 s3.2).bind (fun u7 => (at? a1 s3.2).bind (fun u9 => if (!eqv_Link u7 u9) = true then (some false) else (k2 (s3.1, (IntKind.wrap .i64 (s3.2 + 1))))))) else (some true)) FUEL (false, 0))
theorem c_hr0_EqLinks (a0 : (List Link)) (a1 : (List Link)) : Ct Tryz.prog 237 [rd (kSl kLink) a0, rd (kSl kLink) a1] (hr0_EqLinks a0 a1) (fun r => rd kBool r) := by
  unfold hr0_EqLinks
  refine enter Tryz.func237 rfl Tryz.ntmps237 rfl (by kernel_rfl) fun z => c_seq<|c_reg<|l_p (po_asg (.b _)) rfl<|l_nil<|x_tn<|c_seq<|c_seq<|c_reg<|l_p (po_mov (.t rfl)) rfl<|l_p (po_len (ty := 0) (.t rfl) sl163) rfl<|l_p (po_mov (.t rfl)) rfl<|l_p (po_len (ty := 0) (.t rfl) sl163) rfl<|l_p (po_ne (.t rfl) (.t rfl)) rfl<|l_nil<|x_tn<|c_if rfl (fun h1 => ?_) (fun h1 => ?_)
  · exact c_seq<|c_reg<|l_p (po_asg (.b _)) rfl<|l_nil<|x_tn<|c_ret<|x_tr<|x_ret1 rfl (.t rfl)
  · refine c_skip<|x_tn<|c_seq<|c_seq<|c_reg<|l_p (po_asg (ev_i _)) rfl<|l_nil<|x_tn<|c_blk<|c_loop (fun (s3 : (Bool × Int)) (e4 : Unit) => [(0, rd (kSl kLink) a0), (1, rd (kSl kLink) a1), (4, rd kBool s3.1), (5, rd kInt s3.2)]) (fun (s3 : (Bool × Int)) (e4 : Unit) => []) () ⟨rfl, rfl, rfl, rfl, trivial⟩ (.nil _) fun s3 e4 k2 => c_seq<|c_seq<|c_reg<|l_p (po_mov (.t rfl)) rfl<|l_p (po_mov (.t rfl)) rfl<|l_p (po_len (ty := 0) (.t rfl) sl163) rfl<|l_p (po_lt (.t rfl) (.t rfl)) rfl<|l_nil<|x_tn<|c_if rfl (fun h5 => ?_) (fun h5 => ?_)
    · refine c_skip<|x_tn<|c_seq<|c_blk<|c_seq<|c_draw [0, 1, 2, 3, 4, 5, 6, 7, 8] [] [] (by kernel_rfl) (by kernel_rfl)<|w_p rfl rfl (po_mov (.t rfl)) rfl<|w_p rfl rfl (po_mov (.t rfl)) rfl<|w_bind fun u7 h6 => w_p rfl rfl (po_ia (.t rfl) (.t rfl) h6 sl163) rfl<|w_p rfl rfl (po_la (.t rfl) ty169) rfl<|w_p rfl rfl (po_mov (.t rfl)) rfl<|w_p rfl rfl (po_mov (.t rfl)) rfl<|w_bind fun u9 h8 => w_p rfl rfl (po_ia (.t rfl) (.t rfl) h8 sl163) rfl<|w_p rfl rfl (po_la (.t rfl) ty169) rfl<|w_p rfl rfl (po_qn eq169 rfl rfl eg169 (.t rfl) (.t rfl)) rfl<|w_nil<|x_tn<|c_if rfl (fun h10 => ?_) (fun h10 => ?_)
      · exact c_seq<|c_reg<|l_p (po_asg (.b _)) rfl<|l_nil<|x_tn<|c_ret<|x_br<|x_tr<|x_mr<|x_br<|x_tr<|x_ret1 rfl (.t rfl)
      · exact c_skip<|x_bn<|x_tn<|c_reg<|l_p (po_mov (.t rfl)) rfl<|l_p (po_add (.t rfl) (ev_i _)) rfl<|l_p (po_asg (.t rfl)) rfl<|l_nil<|x_mid ((s3.1, (IntKind.wrap .i64 (s3.2 + 1))), ()) rfl ⟨rfl, rfl, rfl, rfl, trivial⟩ (.nil _)
    · exact c_exit<|x_te<|x_me<|x_be<|x_tn<|c_seq<|c_reg<|l_p (po_asg (.b _)) rfl<|l_nil<|x_tn<|c_ret<|x_ret1 rfl (.t rfl)
noncomputable def hr0_EqBlocks (a0 : (List Block)) (a1 : (List Block)) : Option Bool :=
  if ((a0.length : Int) != (a1.length : Int)) = true then (some false) else (rep (fun (s3 : (Bool × Int)) k2 => if (decide (s3.2 < (a0.length : Int))) = true then ((at? a0 s3.2).bind (fun u7 => (at? a1 s3.2).bind (fun u9 => if (!eqv_Block u7 u9) = true then (some false) else (k2 (s3.1, (IntKind.wrap .i64 (s3.2 + 1))))))) else (some true)) FUEL (false, 0))
theorem c_hr0_EqBlocks (a0 : (List Block)) (a1 : (List Block)) : Ct Tryz.prog 43 [rd (kSl kBlock) a0, rd (kSl kBlock) a1] (hr0_EqBlocks a0 a1) (fun r => rd kBool r) := by
  unfold hr0_EqBlocks
  refine enter Tryz.func43 rfl Tryz.ntmps43 rfl (by kernel_rfl) fun z => c_seq<|c_reg<|l_p (po_asg (.b _)) rfl<|l_nil<|x_tn<|c_seq<|c_seq<|c_reg<|l_p (po_mov (.t rfl)) rfl<|l_p (po_len (ty := 0) (.t rfl) sl30) rfl<|l_p (po_mov (.t rfl)) rfl<|l_p (po_len (ty := 0) (.t rfl) sl30) rfl<|l_p (po_ne (.t rfl) (.t rfl)) rfl<|l_nil<|x_tn<|c_if rfl (fun h1 => ?_) (fun h1 => ?_)
  · exact c_seq<|c_reg<|l_p (po_asg (.b _)) rfl<|l_nil<|x_tn<|c_ret<|x_tr<|x_ret1 rfl (.t rfl)
  · refine c_skip<|x_tn<|c_seq<|c_seq<|c_reg<|l_p (po_asg (ev_i _)) rfl<|l_nil<|x_tn<|c_blk<|c_loop (fun (s3 : (Bool × Int)) (e4 : Unit) => [(0, rd (kSl kBlock) a0), (1, rd (kSl kBlock) a1), (4, rd kBool s3.1), (5, rd kInt s3.2)]) (fun (s3 : (Bool × Int)) (e4 : Unit) => []) () ⟨rfl, rfl, rfl, rfl, trivial⟩ (.nil _) fun s3 e4 k2 => c_seq<|c_seq<|c_reg<|l_p (po_mov (.t rfl)) rfl<|l_p (po_mov (.t rfl)) rfl<|l_p (po_len (ty := 0) (.t rfl) sl30) rfl<|l_p (po_lt (.t rfl) (.t rfl)) rfl<|l_nil<|x_tn<|c_if rfl (fun h5 => ?_) (fun h5 => ?_)
    · refine c_skip<|x_tn<|c_seq<|c_blk<|c_seq<|c_draw [0, 1, 2, 3, 4, 5, 6, 7, 8] [] [] (by kernel_rfl) (by kernel_rfl)<|w_p rfl rfl (po_mov (.t rfl)) rfl<|w_p rfl rfl (po_mov (.t rfl)) rfl<|w_bind fun u7 h6 => w_p rfl rfl (po_ia (.t rfl) (.t rfl) h6 sl30) rfl<|w_p rfl rfl (po_la (.t rfl) ty61) rfl<|w_p rfl rfl (po_mov (.t rfl)) rfl<|w_p rfl rfl (po_mov (.t rfl)) rfl<|w_bind fun u9 h8 => w_p rfl rfl (po_ia (.t rfl) (.t rfl) h8 sl30) rfl<|w_p rfl rfl (po_la (.t rfl) ty61) rfl<|w_p rfl rfl (po_qn eq61 rfl rfl eg61 (.t rfl) (.t rfl)) rfl<|w_nil<|x_tn<|c_if rfl (fun h10 => ?_) (fun h10 => ?_)
      · exact c_seq<|c_reg<|l_p (po_asg (.b _)) rfl<|l_nil<|x_tn<|c_ret<|x_br<|x_tr<|x_mr<|x_br<|x_tr<|x_ret1 rfl (.t rfl)
      · exact c_skip<|x_bn<|x_tn<|c_reg<|l_p (po_mov (.t rfl)) rfl<|l_p (po_add (.t rfl) (ev_i _)) rfl<|l_p (po_asg (.t rfl)) rfl<|l_nil<|x_mid ((s3.1, (IntKind.wrap .i64 (s3.2 + 1))), ()) rfl ⟨rfl, rfl, rfl, rfl, trivial⟩ (.nil _)
    · exact c_exit<|x_te<|x_me<|x_be<|x_tn<|c_seq<|c_reg<|l_p (po_asg (.b _)) rfl<|l_nil<|x_tn<|c_ret<|x_ret1 rfl (.t rfl)
noncomputable def hr0_EqSegs (a0 : (List Seg)) (a1 : (List Seg)) : Option Bool :=
  if ((a0.length : Int) != (a1.length : Int)) = true then (some false) else (rep (fun (s3 : (Bool × Int)) k2 => if (decide (s3.2 < (a0.length : Int))) = true then ((at? a0 s3.2).bind (fun u7 => (at? a1 s3.2).bind (fun u9 => if (!eqv_Seg u7 u9) = true then (some false) else (k2 (s3.1, (IntKind.wrap .i64 (s3.2 + 1))))))) else (some true)) FUEL (false, 0))
theorem c_hr0_EqSegs (a0 : (List Seg)) (a1 : (List Seg)) : Ct Tryz.prog 204 [rd (kSl kSeg) a0, rd (kSl kSeg) a1] (hr0_EqSegs a0 a1) (fun r => rd kBool r) := by
  unfold hr0_EqSegs
  refine enter Tryz.func204 rfl Tryz.ntmps204 rfl (by kernel_rfl) fun z => c_seq<|c_reg<|l_p (po_asg (.b _)) rfl<|l_nil<|x_tn<|c_seq<|c_seq<|c_reg<|l_p (po_mov (.t rfl)) rfl<|l_p (po_len (ty := 0) (.t rfl) sl83) rfl<|l_p (po_mov (.t rfl)) rfl<|l_p (po_len (ty := 0) (.t rfl) sl83) rfl<|l_p (po_ne (.t rfl) (.t rfl)) rfl<|l_nil<|x_tn<|c_if rfl (fun h1 => ?_) (fun h1 => ?_)
  · exact c_seq<|c_reg<|l_p (po_asg (.b _)) rfl<|l_nil<|x_tn<|c_ret<|x_tr<|x_ret1 rfl (.t rfl)
  · refine c_skip<|x_tn<|c_seq<|c_seq<|c_reg<|l_p (po_asg (ev_i _)) rfl<|l_nil<|x_tn<|c_blk<|c_loop (fun (s3 : (Bool × Int)) (e4 : Unit) => [(0, rd (kSl kSeg) a0), (1, rd (kSl kSeg) a1), (4, rd kBool s3.1), (5, rd kInt s3.2)]) (fun (s3 : (Bool × Int)) (e4 : Unit) => []) () ⟨rfl, rfl, rfl, rfl, trivial⟩ (.nil _) fun s3 e4 k2 => c_seq<|c_seq<|c_reg<|l_p (po_mov (.t rfl)) rfl<|l_p (po_mov (.t rfl)) rfl<|l_p (po_len (ty := 0) (.t rfl) sl83) rfl<|l_p (po_lt (.t rfl) (.t rfl)) rfl<|l_nil<|x_tn<|c_if rfl (fun h5 => ?_) (fun h5 => ?_)
    · refine c_skip<|x_tn<|c_seq<|c_blk<|c_seq<|c_draw [0, 1, 2, 3, 4, 5, 6, 7, 8] [] [] (by kernel_rfl) (by kernel_rfl)<|w_p rfl rfl (po_mov (.t rfl)) rfl<|w_p rfl rfl (po_mov (.t rfl)) rfl<|w_bind fun u7 h6 => w_p rfl rfl (po_ia (.t rfl) (.t rfl) h6 sl83) rfl<|w_p rfl rfl (po_la (.t rfl) ty108) rfl<|w_p rfl rfl (po_mov (.t rfl)) rfl<|w_p rfl rfl (po_mov (.t rfl)) rfl<|w_bind fun u9 h8 => w_p rfl rfl (po_ia (.t rfl) (.t rfl) h8 sl83) rfl<|w_p rfl rfl (po_la (.t rfl) ty108) rfl<|w_p rfl rfl (po_qn eq108 rfl rfl eg108 (.t rfl) (.t rfl)) rfl<|w_nil<|x_tn<|c_if rfl (fun h10 => ?_) (fun h10 => ?_)
      · exact c_seq<|c_reg<|l_p (po_asg (.b _)) rfl<|l_nil<|x_tn<|c_ret<|x_br<|x_tr<|x_mr<|x_br<|x_tr<|x_ret1 rfl (.t rfl)
      · exact c_skip<|x_bn<|x_tn<|c_reg<|l_p (po_mov (.t rfl)) rfl<|l_p (po_add (.t rfl) (ev_i _)) rfl<|l_p (po_asg (.t rfl)) rfl<|l_nil<|x_mid ((s3.1, (IntKind.wrap .i64 (s3.2 + 1))), ()) rfl ⟨rfl, rfl, rfl, rfl, trivial⟩ (.nil _)
    · exact c_exit<|x_te<|x_me<|x_be<|x_tn<|c_seq<|c_reg<|l_p (po_asg (.b _)) rfl<|l_nil<|x_tn<|c_ret<|x_ret1 rfl (.t rfl)
noncomputable def hr0_EqEntries (a0 : (List Entry)) (a1 : (List Entry)) : Option Bool :=
  if ((a0.length : Int) != (a1.length : Int)) = true then (some false) else (rep (fun (s3 : (Bool × Int)) k2 => if (decide (s3.2 < (a0.length : Int))) = true then ((at? a0 s3.2).bind (fun u7 => (at? a1 s3.2).bind (fun u9 => if (!eqv_Entry u7 u9) = true then (some false) else (k2 (s3.1, (IntKind.wrap .i64 (s3.2 + 1))))))) else (some true)) FUEL (false, 0))
theorem c_hr0_EqEntries (a0 : (List Entry)) (a1 : (List Entry)) : Ct Tryz.prog 154 [rd (kSl kEntry) a0, rd (kSl kEntry) a1] (hr0_EqEntries a0 a1) (fun r => rd kBool r) := by
  unfold hr0_EqEntries
  refine enter Tryz.func154 rfl Tryz.ntmps154 rfl (by kernel_rfl) fun z => c_seq<|c_reg<|l_p (po_asg (.b _)) rfl<|l_nil<|x_tn<|c_seq<|c_seq<|c_reg<|l_p (po_mov (.t rfl)) rfl<|l_p (po_len (ty := 0) (.t rfl) sl33) rfl<|l_p (po_mov (.t rfl)) rfl<|l_p (po_len (ty := 0) (.t rfl) sl33) rfl<|l_p (po_ne (.t rfl) (.t rfl)) rfl<|l_nil<|x_tn<|c_if rfl (fun h1 => ?_) (fun h1 => ?_)
  · exact c_seq<|c_reg<|l_p (po_asg (.b _)) rfl<|l_nil<|x_tn<|c_ret<|x_tr<|x_ret1 rfl (.t rfl)
  · refine c_skip<|x_tn<|c_seq<|c_seq<|c_reg<|l_p (po_asg (ev_i _)) rfl<|l_nil<|x_tn<|c_blk<|c_loop (fun (s3 : (Bool × Int)) (e4 : Unit) => [(0, rd (kSl kEntry) a0), (1, rd (kSl kEntry) a1), (4, rd kBool s3.1), (5, rd kInt s3.2)]) (fun (s3 : (Bool × Int)) (e4 : Unit) => []) () ⟨rfl, rfl, rfl, rfl, trivial⟩ (.nil _) fun s3 e4 k2 => c_seq<|c_seq<|c_reg<|l_p (po_mov (.t rfl)) rfl<|l_p (po_mov (.t rfl)) rfl<|l_p (po_len (ty := 0) (.t rfl) sl33) rfl<|l_p (po_lt (.t rfl) (.t rfl)) rfl<|l_nil<|x_tn<|c_if rfl (fun h5 => ?_) (fun h5 => ?_)
    · refine c_skip<|x_tn<|c_seq<|c_blk<|c_seq<|c_draw [0, 1, 2, 3, 4, 5, 6, 7, 8] [] [] (by kernel_rfl) (by kernel_rfl)<|w_p rfl rfl (po_mov (.t rfl)) rfl<|w_p rfl rfl (po_mov (.t rfl)) rfl<|w_bind fun u7 h6 => w_p rfl rfl (po_ia (.t rfl) (.t rfl) h6 sl33) rfl<|w_p rfl rfl (po_la (.t rfl) ty145) rfl<|w_p rfl rfl (po_mov (.t rfl)) rfl<|w_p rfl rfl (po_mov (.t rfl)) rfl<|w_bind fun u9 h8 => w_p rfl rfl (po_ia (.t rfl) (.t rfl) h8 sl33) rfl<|w_p rfl rfl (po_la (.t rfl) ty145) rfl<|w_p rfl rfl (po_qn eq145 rfl rfl eg145 (.t rfl) (.t rfl)) rfl<|w_nil<|x_tn<|c_if rfl (fun h10 => ?_) (fun h10 => ?_)
      · exact c_seq<|c_reg<|l_p (po_asg (.b _)) rfl<|l_nil<|x_tn<|c_ret<|x_br<|x_tr<|x_mr<|x_br<|x_tr<|x_ret1 rfl (.t rfl)
      · exact c_skip<|x_bn<|x_tn<|c_reg<|l_p (po_mov (.t rfl)) rfl<|l_p (po_add (.t rfl) (ev_i _)) rfl<|l_p (po_asg (.t rfl)) rfl<|l_nil<|x_mid ((s3.1, (IntKind.wrap .i64 (s3.2 + 1))), ()) rfl ⟨rfl, rfl, rfl, rfl, trivial⟩ (.nil _)
    · exact c_exit<|x_te<|x_me<|x_be<|x_tn<|c_seq<|c_reg<|l_p (po_asg (.b _)) rfl<|l_nil<|x_tn<|c_ret<|x_ret1 rfl (.t rfl)
end Go.Proofs.YtmnmcobpfpkibaaGreatDoor
namespace Go.Proofs.YtmnmcobpfpkibaaGreatDoor
open Go.RowKit
set_option linter.unusedVariables false
set_option maxRecDepth 20000
noncomputable def hr2_New (a0 : Int) : Option Vol :=
  some (Vol.next_s (Vol.files_s (Vol.iD_s kVol.z a0) [(File.dir_s (File.iD_s kFile.z 1) true)]) 2)
theorem c_hr2_New (a0 : Int) : Ct Tryz.prog 47 [rd kInt a0] (hr2_New a0) (fun r => rd kVol r) := by
  unfold hr2_New
  exact enter Tryz.func47 rfl Tryz.ntmps47 rfl (by kernel_rfl) fun z => c_seq<|c_reg<|l_new kVol tz105 rfl fun g1 => l_nil<|x_tn<|c_seq<|c_reg<|l_p (po_mov (.t rfl)) rfl<|l_p (po_build kFile rfl tz165 ps165 (.cons pl165_0 F_File_iD (ev_i _) (.cons pl165_1 F_File_dir (.b _) (.nil _)))) rfl<|l_bsl kFile sz103 rfl (.cons (.t rfl) (.nil _)) rfl<|l_p (po_build kVol rfl tz105 ps105 (.cons pl105_0 F_Vol_iD (.t rfl) (.cons pl105_3 F_Vol_files (.t rfl) (.cons pl105_4 F_Vol_next (ev_i _) (.nil _))))) rfl<|l_st 0 (.t rfl) (.t rfl) rfl (Fld.me _) ty105<|l_nil<|x_tn<|c_ret<|x_ret1 rfl (.c 0 rfl rfl ty105)
end Go.Proofs.YtmnmcobpfpkibaaGreatDoor
namespace Go.Proofs.YtmnmcobpfpkibaaGreatDoor
open Go.RowKit
set_option linter.unusedVariables false
set_option maxRecDepth 20000
noncomputable def image_writer_text (a0 : image_writer) (a0l0 : (List Int)) (a1 : ByteArray) : Option (image_writer × (List Int)) :=
  (image_writer_number a0 a0l0 (a1.size : Int)).bind (fun r1 => (apps r1.2 a1).bind (fun u4 => some (r1.1, u4)))
theorem c_image_writer_text (g900 : Nat) (o9000 : Option Nat) (c9000 : Nat) (a0 : image_writer) (a0l0 : (List Int)) (a1 : ByteArray) : Cb Tryz.prog 187 [own g900 0, rd kStr a1] [(some g900, box (kRaw kimage_writer 0 rfl) (a0, a0l0.length, o9000, c9000)), (o9000, rows kByte 5 a0l0 c9000)] (image_writer_text a0 a0l0 a1) (fun r (h : (Option Nat × Nat)) => tup []) (fun r h => [(some g900, box (kRaw kimage_writer 0 rfl) (r.1, r.2.length, h.1, h.2)), (h.1, rows kByte 5 r.2 h.2)]) := by
  unfold image_writer_text
  exact enterB Tryz.func187 rfl Tryz.ntmps187 rfl (by kernel_rfl) fun z => c_seq<|c_reg<|l_p (po_mov (.t rfl)) rfl<|l_p (po_mov (.t rfl)) rfl<|l_p (po_lens (.t rfl) un9) rfl<|l_callb (c_image_writer_number g900 o9000 c9000 _ _ _) (.l (.l .nil)) ⟨(.t rfl), (.t rfl), trivial⟩ rfl fun r1 e3 h2 => l_nil<|x_tn<|c_reg<|l_p (po_mov (.t rfl)) rfl<|l_p (po_mov (.t rfl)) rfl<|l_p (po_nck (.t rfl)) rfl<|l_p (po_fo (.t rfl) fs130_0) rfl<|l_p (po_loh (kx := kByte) 0 (.t rfl) rfl (Hat.me rfl) rfl th51) rfl<|l_p (po_mov (.t rfl)) rfl<|l_apps 1 (.t rfl) rfl (.t rfl) ap51 un9 rfl fun u4 o5 c6 => l_p (po_nck (.t rfl)) rfl<|l_p (po_fo (.t rfl) fs130_0) rfl<|l_stf 0 (.t rfl) (ev_row (.t rfl)) rfl (Fst.hr rfl) th51<|l_nil<|x_endb<|x_rbn (o5, c6) rfl rfl rfl trivial (.c (.c (.nil _)))
noncomputable def image_reader_number (a0 : image_reader) : Option (Int × image_reader) :=
  rep (fun (s2 : (Int × Int × Int × image_reader)) k1 => if (decide (s2.2.2.1 < 5)) = true then ((image_reader_take s2.2.2.2 1).bind (fun r5 => if (image_reader.bad r5.2) = true then (some (0, r5.2)) else ((sAt r5.1 0).bind (fun u10 => (nn (IntKind.wrap .i64 (7 * s2.2.2.1))).bind (fun u12 => (sAt r5.1 0).bind (fun u14 => if ((bAnd .u8 u14 128) == 0) = true then (some ((bOr .i64 s2.2.1 (bShl .i64 (IntKind.wrap .i64 (bNot .u8 u10 128)) (IntKind.wrap .i64 (7 * s2.2.2.1)))), r5.2)) else (k1 (s2.1, (bOr .i64 s2.2.1 (bShl .i64 (IntKind.wrap .i64 (bNot .u8 u10 128)) (IntKind.wrap .i64 (7 * s2.2.2.1)))), (IntKind.wrap .i64 (s2.2.2.1 + 1)), r5.2)))))))) else (some (0, (image_reader.bad_s s2.2.2.2 true)))) FUEL (0, 0, 0, a0)
theorem c_image_reader_number (g900 : Nat) (a0 : image_reader) : Cb Tryz.prog 86 [own g900 0] [(some g900, box kimage_reader a0)] (image_reader_number a0) (fun r (h : Unit) => rd kInt r.1) (fun r h => [(some g900, box kimage_reader r.2)]) := by
  unfold image_reader_number
  refine enterB Tryz.func86 rfl Tryz.ntmps86 rfl (by kernel_rfl) fun z => c_seq<|c_reg<|l_p (po_asg (ev_i _)) rfl<|l_nil<|x_tn<|c_seq<|c_reg<|l_p (po_asg (ev_i _)) rfl<|l_nil<|x_tn<|c_seq<|c_seq<|c_reg<|l_p (po_mov (ev_i _)) rfl<|l_nil<|x_tn<|c_blk<|c_loop (fun (s2 : (Int × Int × Int × image_reader)) (e3 : Unit) => [(0, own g900 0), (2, rd kInt s2.1), (3, rd kInt s2.2.1), (6, rd kInt s2.2.2.1)]) (fun (s2 : (Int × Int × Int × image_reader)) (e3 : Unit) => [(some g900, box kimage_reader s2.2.2.2)]) () ⟨rfl, rfl, rfl, rfl, trivial⟩ (.c (.nil _)) fun s2 e3 k1 => c_seq<|c_reg<|l_p (po_lt (.t rfl) (ev_i _)) rfl<|l_nil<|x_tn<|c_seq<|c_if rfl (fun h4 => ?_) (fun h4 => ?_)
  · refine c_skip<|x_tn<|c_seq<|c_blk<|c_seq<|c_reg<|l_p (po_mov (.t rfl)) rfl<|l_p (po_asg (.t rfl)) rfl<|l_nil<|x_tn<|c_seq<|c_reg<|l_p (po_mov (.t rfl)) rfl<|l_callb (c_image_reader_take g900 _ _) (.l .nil) ⟨(.t rfl), (ev_i _), trivial⟩ rfl fun r5 e7 h6 => l_p (po_asg (.t rfl)) rfl<|l_nil<|x_tn<|c_seq<|c_seq<|c_reg<|l_p (po_mov (.t rfl)) rfl<|l_p (po_nck (.t rfl)) rfl<|l_p (po_fo (.t rfl) fs92_1) rfl<|l_p (po_lo 0 (.t rfl) rfl F_image_reader_bad ty4) rfl<|l_nil<|x_tn<|c_if rfl (fun h8 => ?_) (fun h8 => ?_)
    · exact c_seq<|c_reg<|l_p (po_asg (ev_i _)) rfl<|l_nil<|x_tn<|c_ret<|x_tr<|x_br<|x_tr<|x_mr<|x_br<|x_tr<|x_rb1 () rfl (.t rfl) (.c (.nil _))
    · refine c_skip<|x_tn<|c_seq<|c_reg<|l_p (po_mov (.t rfl)) rfl<|l_p (po_mov (.t rfl)) rfl<|l_bind fun u10 h9 => l_p (po_six (.t rfl) (ev_i _) h9 un9) rfl<|l_p (po_ann (.t rfl) (ev_y _)) rfl<|l_p (po_cv (b2 := 8) (lo2 := -9223372036854775808) (hi2 := 9223372036854775807) (.t rfl) un5 un3) rfl<|l_p (po_mov (.t rfl)) rfl<|l_p (po_mul (ev_i _) (.t rfl)) rfl<|l_bind fun u12 h11 => l_p (po_shl (.t rfl) (.t rfl) (nn_ge h11)) rfl<|l_p (po_or (.t rfl) (.t rfl)) rfl<|l_p (po_asg (.t rfl)) rfl<|l_nil<|x_tn<|c_seq<|c_reg<|l_p (po_mov (.t rfl)) rfl<|l_bind fun u14 h13 => l_p (po_six (.t rfl) (ev_i _) h13 un9) rfl<|l_p (po_and (.t rfl) (ev_y _)) rfl<|l_p (po_eq (.t rfl) (ev_y _)) rfl<|l_nil<|x_tn<|c_if rfl (fun h15 => ?_) (fun h15 => ?_)
      · exact c_seq<|c_reg<|l_p (po_mov (.t rfl)) rfl<|l_p (po_asg (.t rfl)) rfl<|l_nil<|x_tn<|c_ret<|x_br<|x_tr<|x_mr<|x_br<|x_tr<|x_rb1 () rfl (.t rfl) (.c (.nil _))
      · exact c_skip<|x_bn<|x_tn<|c_reg<|l_p (po_add (.t rfl) (ev_i _)) rfl<|l_p (po_mov (.t rfl)) rfl<|l_nil<|x_mid ((s2.1, (bOr .i64 s2.2.1 (bShl .i64 (IntKind.wrap .i64 (bNot .u8 u10 128)) (IntKind.wrap .i64 (7 * s2.2.2.1)))), (IntKind.wrap .i64 (s2.2.2.1 + 1)), r5.2), ()) rfl ⟨rfl, rfl, rfl, rfl, trivial⟩ (.c (.nil _))
  · exact c_exit<|x_te<|x_me<|x_be<|x_tn<|c_seq<|c_reg<|l_p (po_mov (.t rfl)) rfl<|l_p (po_nck (.t rfl)) rfl<|l_p (po_fo (.t rfl) fs92_1) rfl<|l_st 0 (.t rfl) (.b _) rfl F_image_reader_bad ty4<|l_nil<|x_tn<|c_seq<|c_reg<|l_p (po_asg (ev_i _)) rfl<|l_nil<|x_tn<|c_ret<|x_rb1 () rfl (.t rfl) (.c (.nil _))
noncomputable def hr0_EqFile (a0 : File) (a1 : File) : Option Bool :=
  jn (fun (b4 : Bool) => jn (fun (b8 : Bool) => jn (fun (b12 : Bool) => jn (fun (b18 : Bool) => some b18) (fun k17 => if b12 = true then ((hr0_EqLinks (File.list a0) (File.list a1)).bind (fun r21 => k17 r21)) else (k17 false))) (fun k11 => if b8 = true then ((hr0_EqNumbers (File.blocks a0) (File.blocks a1)).bind (fun r15 => k11 r15)) else (k11 false))) (fun k7 => if b4 = true then (k7 ((File.size a0) == (File.size a1))) else (k7 false))) (fun k3 => if ((File.iD a0) == (File.iD a1)) = true then (k3 ((File.dir a0) == (File.dir a1))) else (k3 false))
theorem c_hr0_EqFile (a0 : File) (a1 : File) : Ct Tryz.prog 203 [rd kFile a0, rd kFile a1] (hr0_EqFile a0 a1) (fun r => rd kBool r) := by
  unfold hr0_EqFile
  refine enter Tryz.func203 rfl Tryz.ntmps203 rfl (by kernel_rfl) fun z => c_seq<|c_reg<|l_box (.t rfl) rfl fun g1 => l_box (.t rfl) rfl fun g2 => l_p (po_asg (.b _)) rfl<|l_nil<|x_tn<|c_seq<|c_reg<|l_p (po_fo (.t rfl) fs165_0) rfl<|l_p (po_lo 1 (.t rfl) rfl F_File_iD ty3) rfl<|l_p (po_fo (.t rfl) fs165_0) rfl<|l_p (po_lo 0 (.t rfl) rfl F_File_iD ty3) rfl<|l_p (po_eq (.t rfl) (.t rfl)) rfl<|l_p (po_mov (.t rfl)) rfl<|l_jn 6 (fun (b4 : Bool) (e5 : Unit) => [(2, own g1 0), (3, own g2 0), (4, rd kBool false), (16, rd kBool b4)]) (fun (b4 : Bool) (e5 : Unit) => [(some g2, box kFile a1), (some g1, box kFile a0)]) (fun k3 => ?_) (fun b4 e5 => ?_)
  · refine l_if (fun h6 => ?_) (fun h6 => ?_)
    · exact l_po ⟨_, rfl, _, rfl, h6⟩ (po_fo (.t rfl) fs165_1) rfl<|l_po ⟨_, rfl, _, rfl, h6⟩ (po_lo 1 (.t rfl) rfl F_File_dir ty4) rfl<|l_po ⟨_, rfl, _, rfl, h6⟩ (po_fo (.t rfl) fs165_1) rfl<|l_po ⟨_, rfl, _, rfl, h6⟩ (po_lo 0 (.t rfl) rfl F_File_dir ty4) rfl<|l_po ⟨_, rfl, _, rfl, h6⟩ (po_beq (.t rfl) (.t rfl) un4) rfl<|l_p (po_pickt (t := rd kBool ((File.dir a0) == (File.dir a1))) (.t rfl) h6 (.t rfl)) rfl<|l_nil<|x_mid (((File.dir a0) == (File.dir a1)), ()) rfl ⟨rfl, rfl, rfl, rfl, trivial⟩ (.c (.c (.nil _)))
    · exact l_skipn 5 5 true ⟨_, rfl, _, rfl, ne_t h6⟩ rfl<|l_p (po_pickf (t := rd kBool false) (.t rfl) h6 (.b _)) rfl<|l_nil<|x_mid (false, ()) rfl ⟨rfl, rfl, rfl, rfl, trivial⟩ (.c (.c (.nil _)))
  · refine l_p (po_mov (.t rfl)) rfl<|l_jn 6 (fun (b8 : Bool) (e9 : Unit) => [(2, own g1 0), (3, own g2 0), (4, rd kBool false), (23, rd kBool b8)]) (fun (b8 : Bool) (e9 : Unit) => [(some g2, box kFile a1), (some g1, box kFile a0)]) (fun k7 => ?_) (fun b8 e9 => ?_)
    · refine l_if (fun h10 => ?_) (fun h10 => ?_)
      · exact l_po ⟨_, rfl, _, rfl, h10⟩ (po_fo (.t rfl) fs165_2) rfl<|l_po ⟨_, rfl, _, rfl, h10⟩ (po_lo 1 (.t rfl) rfl F_File_size ty3) rfl<|l_po ⟨_, rfl, _, rfl, h10⟩ (po_fo (.t rfl) fs165_2) rfl<|l_po ⟨_, rfl, _, rfl, h10⟩ (po_lo 0 (.t rfl) rfl F_File_size ty3) rfl<|l_po ⟨_, rfl, _, rfl, h10⟩ (po_eq (.t rfl) (.t rfl)) rfl<|l_p (po_pickt (t := rd kBool ((File.size a0) == (File.size a1))) (.t rfl) h10 (.t rfl)) rfl<|l_nil<|x_mid (((File.size a0) == (File.size a1)), ()) rfl ⟨rfl, rfl, rfl, rfl, trivial⟩ (.c (.c (.nil _)))
      · exact l_skipn 5 12 true ⟨_, rfl, _, rfl, ne_t h10⟩ rfl<|l_p (po_pickf (t := rd kBool false) (.t rfl) h10 (.b _)) rfl<|l_nil<|x_mid (false, ()) rfl ⟨rfl, rfl, rfl, rfl, trivial⟩ (.c (.c (.nil _)))
    · refine l_p (po_mov (.t rfl)) rfl<|l_jn 6 (fun (b12 : Bool) (e13 : Unit) => [(2, own g1 0), (3, own g2 0), (4, rd kBool false), (30, rd kBool b12)]) (fun (b12 : Bool) (e13 : Unit) => [(some g2, box kFile a1), (some g1, box kFile a0)]) (fun k11 => ?_) (fun b12 e13 => ?_)
      · refine l_if (fun h14 => ?_) (fun h14 => ?_)
        · exact l_po ⟨_, rfl, _, rfl, h14⟩ (po_fo (.t rfl) fs165_3) rfl<|l_po ⟨_, rfl, _, rfl, h14⟩ (po_lo 1 (.t rfl) rfl F_File_blocks ty24) rfl<|l_po ⟨_, rfl, _, rfl, h14⟩ (po_fo (.t rfl) fs165_3) rfl<|l_po ⟨_, rfl, _, rfl, h14⟩ (po_lo 0 (.t rfl) rfl F_File_blocks ty24) rfl<|l_callg ⟨_, rfl, _, rfl, h14⟩ (c_hr0_EqNumbers _ _) ⟨(.t rfl), (.t rfl), trivial⟩ rfl fun r15 h16 => l_p (po_pickt (t := rd kBool r15) (.t rfl) h14 (.t rfl)) rfl<|l_nil<|x_mid (r15, ()) rfl ⟨rfl, rfl, rfl, rfl, trivial⟩ (.c (.c (.nil _)))
        · exact l_skipn 5 19 true ⟨_, rfl, _, rfl, ne_t h14⟩ rfl<|l_p (po_pickf (t := rd kBool false) (.t rfl) h14 (.b _)) rfl<|l_nil<|x_mid (false, ()) rfl ⟨rfl, rfl, rfl, rfl, trivial⟩ (.c (.c (.nil _)))
      · refine l_p (po_mov (.t rfl)) rfl<|l_jn 6 (fun (b18 : Bool) (e19 : Unit) => [(4, rd kBool false), (37, rd kBool b18)]) (fun (b18 : Bool) (e19 : Unit) => []) (fun k17 => ?_) (fun b18 e19 => ?_)
        · refine l_if (fun h20 => ?_) (fun h20 => ?_)
          · exact l_po ⟨_, rfl, _, rfl, h20⟩ (po_fo (.t rfl) fs165_4) rfl<|l_po ⟨_, rfl, _, rfl, h20⟩ (po_lo 1 (.t rfl) rfl F_File_list ty163) rfl<|l_po ⟨_, rfl, _, rfl, h20⟩ (po_fo (.t rfl) fs165_4) rfl<|l_po ⟨_, rfl, _, rfl, h20⟩ (po_lo 0 (.t rfl) rfl F_File_list ty163) rfl<|l_callg ⟨_, rfl, _, rfl, h20⟩ (c_hr0_EqLinks _ _) ⟨(.t rfl), (.t rfl), trivial⟩ rfl fun r21 h22 => l_p (po_pickt (t := rd kBool r21) (.t rfl) h20 (.t rfl)) rfl<|l_nil<|x_mid (r21, ()) rfl ⟨rfl, rfl, trivial⟩ (.nil _)
          · exact l_skipn 5 26 true ⟨_, rfl, _, rfl, ne_t h20⟩ rfl<|l_p (po_pickf (t := rd kBool false) (.t rfl) h20 (.b _)) rfl<|l_nil<|x_mid (false, ()) rfl ⟨rfl, rfl, trivial⟩ (.nil _)
        · exact l_p (po_asg (.t rfl)) rfl<|l_nil<|x_tn<|c_ret<|x_ret1 rfl (.t rfl)
noncomputable def hr0_EqDevice (a0 : Device) (a1 : Device) : Option Bool :=
  jn (fun (b4 : Bool) => jn (fun (b8 : Bool) => jn (fun (b14 : Bool) => some b14) (fun k13 => if b8 = true then ((hr0_EqSegs (Device.late a0) (Device.late a1)).bind (fun r17 => k13 r17)) else (k13 false))) (fun k7 => if b4 = true then ((hr0_EqSegs (Device.free a0) (Device.free a1)).bind (fun r11 => k7 r11)) else (k7 false))) (fun k3 => if ((Device.iD a0) == (Device.iD a1)) = true then (k3 ((Device.size a0) == (Device.size a1))) else (k3 false))
theorem c_hr0_EqDevice (a0 : Device) (a1 : Device) : Ct Tryz.prog 153 [rd kDevice a0, rd kDevice a1] (hr0_EqDevice a0 a1) (fun r => rd kBool r) := by
  unfold hr0_EqDevice
  refine enter Tryz.func153 rfl Tryz.ntmps153 rfl (by kernel_rfl) fun z => c_seq<|c_reg<|l_box (.t rfl) rfl fun g1 => l_box (.t rfl) rfl fun g2 => l_p (po_asg (.b _)) rfl<|l_nil<|x_tn<|c_seq<|c_reg<|l_p (po_fo (.t rfl) fs85_0) rfl<|l_p (po_lo 1 (.t rfl) rfl F_Device_iD ty3) rfl<|l_p (po_fo (.t rfl) fs85_0) rfl<|l_p (po_lo 0 (.t rfl) rfl F_Device_iD ty3) rfl<|l_p (po_eq (.t rfl) (.t rfl)) rfl<|l_p (po_mov (.t rfl)) rfl<|l_jn 6 (fun (b4 : Bool) (e5 : Unit) => [(2, own g1 0), (3, own g2 0), (4, rd kBool false), (16, rd kBool b4)]) (fun (b4 : Bool) (e5 : Unit) => [(some g2, box kDevice a1), (some g1, box kDevice a0)]) (fun k3 => ?_) (fun b4 e5 => ?_)
  · refine l_if (fun h6 => ?_) (fun h6 => ?_)
    · exact l_po ⟨_, rfl, _, rfl, h6⟩ (po_fo (.t rfl) fs85_1) rfl<|l_po ⟨_, rfl, _, rfl, h6⟩ (po_lo 1 (.t rfl) rfl F_Device_size ty3) rfl<|l_po ⟨_, rfl, _, rfl, h6⟩ (po_fo (.t rfl) fs85_1) rfl<|l_po ⟨_, rfl, _, rfl, h6⟩ (po_lo 0 (.t rfl) rfl F_Device_size ty3) rfl<|l_po ⟨_, rfl, _, rfl, h6⟩ (po_eq (.t rfl) (.t rfl)) rfl<|l_p (po_pickt (t := rd kBool ((Device.size a0) == (Device.size a1))) (.t rfl) h6 (.t rfl)) rfl<|l_nil<|x_mid (((Device.size a0) == (Device.size a1)), ()) rfl ⟨rfl, rfl, rfl, rfl, trivial⟩ (.c (.c (.nil _)))
    · exact l_skipn 5 5 true ⟨_, rfl, _, rfl, ne_t h6⟩ rfl<|l_p (po_pickf (t := rd kBool false) (.t rfl) h6 (.b _)) rfl<|l_nil<|x_mid (false, ()) rfl ⟨rfl, rfl, rfl, rfl, trivial⟩ (.c (.c (.nil _)))
  · refine l_p (po_mov (.t rfl)) rfl<|l_jn 6 (fun (b8 : Bool) (e9 : Unit) => [(2, own g1 0), (3, own g2 0), (4, rd kBool false), (23, rd kBool b8)]) (fun (b8 : Bool) (e9 : Unit) => [(some g2, box kDevice a1), (some g1, box kDevice a0)]) (fun k7 => ?_) (fun b8 e9 => ?_)
    · refine l_if (fun h10 => ?_) (fun h10 => ?_)
      · exact l_po ⟨_, rfl, _, rfl, h10⟩ (po_fo (.t rfl) fs85_2) rfl<|l_po ⟨_, rfl, _, rfl, h10⟩ (po_lo 1 (.t rfl) rfl F_Device_free ty83) rfl<|l_po ⟨_, rfl, _, rfl, h10⟩ (po_fo (.t rfl) fs85_2) rfl<|l_po ⟨_, rfl, _, rfl, h10⟩ (po_lo 0 (.t rfl) rfl F_Device_free ty83) rfl<|l_callg ⟨_, rfl, _, rfl, h10⟩ (c_hr0_EqSegs _ _) ⟨(.t rfl), (.t rfl), trivial⟩ rfl fun r11 h12 => l_p (po_pickt (t := rd kBool r11) (.t rfl) h10 (.t rfl)) rfl<|l_nil<|x_mid (r11, ()) rfl ⟨rfl, rfl, rfl, rfl, trivial⟩ (.c (.c (.nil _)))
      · exact l_skipn 5 12 true ⟨_, rfl, _, rfl, ne_t h10⟩ rfl<|l_p (po_pickf (t := rd kBool false) (.t rfl) h10 (.b _)) rfl<|l_nil<|x_mid (false, ()) rfl ⟨rfl, rfl, rfl, rfl, trivial⟩ (.c (.c (.nil _)))
    · refine l_p (po_mov (.t rfl)) rfl<|l_jn 6 (fun (b14 : Bool) (e15 : Unit) => [(4, rd kBool false), (30, rd kBool b14)]) (fun (b14 : Bool) (e15 : Unit) => []) (fun k13 => ?_) (fun b14 e15 => ?_)
      · refine l_if (fun h16 => ?_) (fun h16 => ?_)
        · exact l_po ⟨_, rfl, _, rfl, h16⟩ (po_fo (.t rfl) fs85_3) rfl<|l_po ⟨_, rfl, _, rfl, h16⟩ (po_lo 1 (.t rfl) rfl F_Device_late ty83) rfl<|l_po ⟨_, rfl, _, rfl, h16⟩ (po_fo (.t rfl) fs85_3) rfl<|l_po ⟨_, rfl, _, rfl, h16⟩ (po_lo 0 (.t rfl) rfl F_Device_late ty83) rfl<|l_callg ⟨_, rfl, _, rfl, h16⟩ (c_hr0_EqSegs _ _) ⟨(.t rfl), (.t rfl), trivial⟩ rfl fun r17 h18 => l_p (po_pickt (t := rd kBool r17) (.t rfl) h16 (.t rfl)) rfl<|l_nil<|x_mid (r17, ()) rfl ⟨rfl, rfl, trivial⟩ (.nil _)
        · exact l_skipn 5 19 true ⟨_, rfl, _, rfl, ne_t h16⟩ rfl<|l_p (po_pickf (t := rd kBool false) (.t rfl) h16 (.b _)) rfl<|l_nil<|x_mid (false, ()) rfl ⟨rfl, rfl, trivial⟩ (.nil _)
      · exact l_p (po_asg (.t rfl)) rfl<|l_nil<|x_tn<|c_ret<|x_ret1 rfl (.t rfl)
noncomputable def hr0_EqTable (a0 : Table) (a1 : Table) : Option Bool :=
  jn (fun (b4 : Bool) => jn (fun (b8 : Bool) => some b8) (fun k7 => if b4 = true then ((hr0_EqEntries (Table.list a0) (Table.list a1)).bind (fun r11 => k7 r11)) else (k7 false))) (fun k3 => if ((Table.dev a0) == (Table.dev a1)) = true then (k3 ((Table.size a0) == (Table.size a1))) else (k3 false))
theorem c_hr0_EqTable (a0 : Table) (a1 : Table) : Ct Tryz.prog 94 [rd kTable a0, rd kTable a1] (hr0_EqTable a0 a1) (fun r => rd kBool r) := by
  unfold hr0_EqTable
  refine enter Tryz.func94 rfl Tryz.ntmps94 rfl (by kernel_rfl) fun z => c_seq<|c_reg<|l_box (.t rfl) rfl fun g1 => l_box (.t rfl) rfl fun g2 => l_p (po_asg (.b _)) rfl<|l_nil<|x_tn<|c_seq<|c_reg<|l_p (po_fo (.t rfl) fs35_0) rfl<|l_p (po_lo 1 (.t rfl) rfl F_Table_dev ty3) rfl<|l_p (po_fo (.t rfl) fs35_0) rfl<|l_p (po_lo 0 (.t rfl) rfl F_Table_dev ty3) rfl<|l_p (po_eq (.t rfl) (.t rfl)) rfl<|l_p (po_mov (.t rfl)) rfl<|l_jn 6 (fun (b4 : Bool) (e5 : Unit) => [(2, own g1 0), (3, own g2 0), (4, rd kBool false), (16, rd kBool b4)]) (fun (b4 : Bool) (e5 : Unit) => [(some g2, box kTable a1), (some g1, box kTable a0)]) (fun k3 => ?_) (fun b4 e5 => ?_)
  · refine l_if (fun h6 => ?_) (fun h6 => ?_)
    · exact l_po ⟨_, rfl, _, rfl, h6⟩ (po_fo (.t rfl) fs35_1) rfl<|l_po ⟨_, rfl, _, rfl, h6⟩ (po_lo 1 (.t rfl) rfl F_Table_size ty3) rfl<|l_po ⟨_, rfl, _, rfl, h6⟩ (po_fo (.t rfl) fs35_1) rfl<|l_po ⟨_, rfl, _, rfl, h6⟩ (po_lo 0 (.t rfl) rfl F_Table_size ty3) rfl<|l_po ⟨_, rfl, _, rfl, h6⟩ (po_eq (.t rfl) (.t rfl)) rfl<|l_p (po_pickt (t := rd kBool ((Table.size a0) == (Table.size a1))) (.t rfl) h6 (.t rfl)) rfl<|l_nil<|x_mid (((Table.size a0) == (Table.size a1)), ()) rfl ⟨rfl, rfl, rfl, rfl, trivial⟩ (.c (.c (.nil _)))
    · exact l_skipn 5 5 true ⟨_, rfl, _, rfl, ne_t h6⟩ rfl<|l_p (po_pickf (t := rd kBool false) (.t rfl) h6 (.b _)) rfl<|l_nil<|x_mid (false, ()) rfl ⟨rfl, rfl, rfl, rfl, trivial⟩ (.c (.c (.nil _)))
  · refine l_p (po_mov (.t rfl)) rfl<|l_jn 6 (fun (b8 : Bool) (e9 : Unit) => [(4, rd kBool false), (23, rd kBool b8)]) (fun (b8 : Bool) (e9 : Unit) => []) (fun k7 => ?_) (fun b8 e9 => ?_)
    · refine l_if (fun h10 => ?_) (fun h10 => ?_)
      · exact l_po ⟨_, rfl, _, rfl, h10⟩ (po_fo (.t rfl) fs35_2) rfl<|l_po ⟨_, rfl, _, rfl, h10⟩ (po_lo 1 (.t rfl) rfl F_Table_list ty33) rfl<|l_po ⟨_, rfl, _, rfl, h10⟩ (po_fo (.t rfl) fs35_2) rfl<|l_po ⟨_, rfl, _, rfl, h10⟩ (po_lo 0 (.t rfl) rfl F_Table_list ty33) rfl<|l_callg ⟨_, rfl, _, rfl, h10⟩ (c_hr0_EqEntries _ _) ⟨(.t rfl), (.t rfl), trivial⟩ rfl fun r11 h12 => l_p (po_pickt (t := rd kBool r11) (.t rfl) h10 (.t rfl)) rfl<|l_nil<|x_mid (r11, ()) rfl ⟨rfl, rfl, trivial⟩ (.nil _)
      · exact l_skipn 5 12 true ⟨_, rfl, _, rfl, ne_t h10⟩ rfl<|l_p (po_pickf (t := rd kBool false) (.t rfl) h10 (.b _)) rfl<|l_nil<|x_mid (false, ()) rfl ⟨rfl, rfl, trivial⟩ (.nil _)
    · exact l_p (po_asg (.t rfl)) rfl<|l_nil<|x_tn<|c_ret<|x_ret1 rfl (.t rfl)
noncomputable def hr14_New (a0 : (List Int)) : Option State :=
  (hr2_New 1).bind (fun r2 => rep (fun (s6 : (Int × (List Device))) k5 => if (decide (s6.1 < (a0.length : Int))) = true then ((at? a0 s6.1).bind (fun u10 => (at? a0 s6.1).bind (fun u12 => (app s6.2 [(Device.free_s (Device.size_s (Device.iD_s kDevice.z (IntKind.wrap .i64 (s6.1 + 1))) u10) [(Seg.len_s (Seg.at__s kSeg.z 0) u12)])]).bind (fun u13 => k5 ((IntKind.wrap .i64 (s6.1 + 1)), u13))))) else (some (State.pool_s (State.pool_s (State.nextVol_s (State.vols_s kState.z [r2]) 2) (Pool.next_s kPool.z (IntKind.wrap .i64 ((a0.length : Int) + 1)))) (Pool.devices_s (State.pool (State.pool_s (State.nextVol_s (State.vols_s kState.z [r2]) 2) (Pool.next_s kPool.z (IntKind.wrap .i64 ((a0.length : Int) + 1))))) s6.2)))) FUEL (0, ([] : List Device)))
theorem c_hr14_New (a0 : (List Int)) : Ct Tryz.prog 18 [rd (kSl kInt) a0] (hr14_New a0) (fun r => rd kState r) := by
  unfold hr14_New
  refine enter Tryz.func18 rfl Tryz.ntmps18 rfl (by kernel_rfl) fun z => c_seq<|c_reg<|l_new kState tz41 rfl fun g1 => l_nil<|x_tn<|c_seq<|c_reg<|l_call (c_hr2_New _) ⟨(ev_i _), trivial⟩ rfl fun r2 h3 => l_bsl kVol sz29 rfl (.cons (.t rfl) (.nil _)) rfl<|l_p (po_mov (.t rfl)) rfl<|l_p (po_len (ty := 0) (.t rfl) sl24) rfl<|l_p (po_add (.t rfl) (ev_i _)) rfl<|l_nilr kDevice 85<|l_p (po_buildr (kRaw kPool 0 rfl) rfl (tzI (by kernel_rfl)) ps39 (.cons pl39_3 (Fld.raw rfl F_Pool_next rfl).fst' (.t rfl) (.nil _))) rfl ?_
  refine l_p (po_buildr (kRaw kState 4 rfl) rfl (tzI (by kernel_rfl)) ps41 (.cons pl41_0 (Fld.raw rfl F_State_vols rfl).fst' (.t rfl) (.cons pl41_1 (Fld.raw rfl F_State_nextVol rfl).fst' (ev_i _) (.cons (l := (kRaw kPool 0 rfl)) pl41_4 (Fst.subr (o := 4) (off := 0) rfl rfl F_State_pool) (.t rfl) (.nil _))))) rfl ?_
  refine l_new (kRaw kState 4 rfl) (tzI (by kernel_rfl)) rfl fun g4 => l_nilr kDevice 85<|l_stf 1 (.t rfl) (.t rfl) rfl (Fst.whole rfl) (ty_raw ty41)<|l_nil<|x_tn<|c_seq<|c_seq<|c_reg<|l_p (po_asg (ev_i _)) rfl<|l_nil<|x_tn<|c_blk<|c_loop (fun (s6 : (Int × (List Device))) (e7 : (Option Nat × Nat)) => [(0, rd (kSl kInt) a0), (2, own g1 0), (3, own g4 0), (4, rd kInt s6.1)]) (fun (s6 : (Int × (List Device))) (e7 : (Option Nat × Nat)) => [(e7.1, rows kDevice 85 s6.2 e7.2), (some g4, box (kRaw kState 4 rfl) ((State.pool_s (State.nextVol_s (State.vols_s kState.z [r2]) 2) (Pool.next_s kPool.z (IntKind.wrap .i64 ((a0.length : Int) + 1)))), s6.2.length, e7.1, e7.2)), (some g1, box kState kState.z)]) (none, 0) ⟨rfl, rfl, rfl, rfl, trivial⟩ (.c (.c (.s (.c (.nil _))))) fun s6 e7 k5 => c_seq<|c_seq<|c_reg<|l_p (po_mov (.t rfl)) rfl<|l_p (po_mov (.t rfl)) rfl<|l_p (po_len (ty := 0) (.t rfl) sl24) rfl<|l_p (po_lt (.t rfl) (.t rfl)) rfl<|l_nil<|x_tn<|c_if rfl (fun h8 => ?_) (fun h8 => ?_)
  · exact c_skip<|x_tn<|c_seq<|c_blk<|c_draw [0, 1, 2, 3, 4, 5, 6, 7, 8, 9, 10, 11, 12, 13, 14, 15, 16, 17, 18, 19, 20] [14, 16, 17, 20] [17, 20] (by kernel_rfl) (by kernel_rfl)<|w_p rfl rfl (po_fo (.t rfl) fs41_4) rfl<|w_p rfl rfl (po_fo (.t rfl) fs39_0) rfl<|w_p rfl rfl (po_loh (kx := kDevice) 1 (.t rfl) rfl (Hat.me rfl) rfl th31) rfl<|w_p rfl rfl (po_mov (.t rfl)) rfl<|w_p rfl rfl (po_add (.t rfl) (ev_i _)) rfl<|w_p rfl rfl (po_mov (.t rfl)) rfl<|w_p rfl rfl (po_mov (.t rfl)) rfl<|w_bind fun u10 h9 => w_p rfl rfl (po_ia (.t rfl) (.t rfl) h9 sl24) rfl<|w_p rfl rfl (po_la (.t rfl) ty3) rfl<|w_p rfl rfl (po_mov (.t rfl)) rfl<|w_p rfl rfl (po_mov (.t rfl)) rfl<|w_bind fun u12 h11 => w_p rfl rfl (po_ia (.t rfl) (.t rfl) h11 sl24) rfl<|w_p rfl rfl (po_la (.t rfl) ty3) rfl<|w_p rfl rfl (po_build kSeg rfl tz108 ps108 (.cons pl108_0 F_Seg_at_ (ev_i _) (.cons pl108_1 F_Seg_len (.t rfl) (.nil _)))) rfl<|w_bsl kSeg rfl rfl sz83 rfl (.cons (.t rfl) (.nil _)) rfl<|w_p rfl rfl (po_build kDevice rfl tz85 ps85 (.cons pl85_0 F_Device_iD (.t rfl) (.cons pl85_1 F_Device_size (.t rfl) (.cons pl85_2 F_Device_free (.t rfl) (.nil _))))) rfl<|w_bsl kDevice rfl rfl sz31 rfl (.cons (.t rfl) (.nil _)) rfl<|w_app 0 rfl rfl rfl (.t rfl) rfl (.t rfl) ap31 rfl fun u13 o14 c15 => w_p rfl rfl (po_fo (.t rfl) fs41_4) rfl<|w_p rfl rfl (po_fo (.t rfl) fs39_0) rfl<|w_stf 1 rfl rfl rfl (.t rfl) (ev_row (.t rfl)) rfl (Fst.hr rfl) th31<|w_nil<|x_bn<|x_tn<|c_reg<|l_p (po_mov (.t rfl)) rfl<|l_p (po_add (.t rfl) (ev_i _)) rfl<|l_p (po_asg (.t rfl)) rfl<|l_nil<|x_mid (((IntKind.wrap .i64 (s6.1 + 1)), u13), (o14, c15)) rfl ⟨rfl, rfl, rfl, rfl, trivial⟩ (.c (.c (.c (.nil _))))
  · exact c_exit<|x_te<|x_me<|x_be<|x_tn<|c_seq<|c_reg<|l_unr 1 0 rfl (F_State_pool.comp F_Pool_devices) rfl<|l_p (po_lo 0 (.t rfl) rfl (Fld.me _) ty41) rfl<|l_st 1 (.t rfl) (.t rfl) rfl (Fld.me _) ty41<|l_nil<|x_tn<|c_ret<|x_ret1 rfl (.c 1 rfl rfl ty41)
end Go.Proofs.YtmnmcobpfpkibaaGreatDoor
namespace Go.Proofs.YtmnmcobpfpkibaaGreatDoor
open Go.RowKit
set_option linter.unusedVariables false
set_option maxRecDepth 20000
noncomputable def hl0_VolWeight (a0 : Vol) : Option Int :=
  rep (fun (s3 : (Int × Int)) k2 => jn (fun (b6 : Bool) => if b6 = true then ((at? (Vol.files a0) s3.2).bind (fun u11 => (at? (Vol.files a0) s3.2).bind (fun u13 => rep (fun (s15 : (Int × Int)) k14 => (at? (Vol.files a0) s3.2).bind (fun u18 => jn (fun (b20 : Bool) => if b20 = true then ((at? (Vol.files a0) s3.2).bind (fun u25 => (at? (File.list u25) s15.2).bind (fun u27 => k14 ((IntKind.wrap .i64 (s15.1 + (IntKind.wrap .i64 (Int.tdiv ((Link.name u27).size : Int) 4)))), (IntKind.wrap .i64 (s15.2 + 1)))))) else (k2 (s15.1, (IntKind.wrap .i64 (s3.2 + 1))))) (fun k19 => if (decide (s15.2 < ((File.list u18).length : Int))) = true then (k19 (decide (s15.1 < 1048576))) else (k19 false)))) FUEL ((IntKind.wrap .i64 ((IntKind.wrap .i64 (s3.1 + ((File.blocks u11).length : Int))) + ((File.list u13).length : Int))), 0)))) else (some s3.1)) (fun k5 => if (decide (s3.2 < ((Vol.files a0).length : Int))) = true then (k5 (decide (s3.1 < 1048576))) else (k5 false))) FUEL (((Vol.files a0).length : Int), 0)
theorem c_hl0_VolWeight (a0 : Vol) : Ct Tryz.prog 54 [rd kVol a0] (hl0_VolWeight a0) (fun r => rd kInt r) := by
  unfold hl0_VolWeight
  refine enter Tryz.func54 rfl Tryz.ntmps54 rfl (by kernel_rfl) fun z => c_seq<|c_reg<|l_box (.t rfl) rfl fun g1 => l_p (po_asg (ev_i _)) rfl<|l_nil<|x_tn<|c_seq<|c_reg<|l_p (po_fo (.t rfl) fs105_3) rfl<|l_p (po_lo 0 (.t rfl) rfl F_Vol_files ty103) rfl<|l_p (po_len (ty := 0) (.t rfl) sl103) rfl<|l_p (po_asg (.t rfl)) rfl<|l_nil<|x_tn<|c_seq<|c_seq<|c_reg<|l_p (po_asg (ev_i _)) rfl<|l_nil<|x_tn<|c_blk<|c_loop (fun (s3 : (Int × Int)) (e4 : Unit) => [(1, own g1 0), (2, rd kInt 0), (3, rd kInt s3.1), (4, rd kInt s3.2)]) (fun (s3 : (Int × Int)) (e4 : Unit) => [(some g1, box kVol a0)]) () ⟨rfl, rfl, rfl, rfl, trivial⟩ (.c (.nil _)) fun s3 e4 k2 => c_seq<|c_seq<|c_reg<|l_p (po_mov (.t rfl)) rfl<|l_p (po_fo (.t rfl) fs105_3) rfl<|l_p (po_lo 0 (.t rfl) rfl F_Vol_files ty103) rfl<|l_p (po_len (ty := 0) (.t rfl) sl103) rfl<|l_p (po_lt (.t rfl) (.t rfl)) rfl<|l_p (po_mov (.t rfl)) rfl<|l_jn 3 (fun (b6 : Bool) (e7 : Unit) => [(1, own g1 0), (2, rd kInt 0), (3, rd kInt s3.1), (4, rd kInt s3.2), (17, rd kBool b6)]) (fun (b6 : Bool) (e7 : Unit) => [(some g1, box kVol a0)]) (fun k5 => ?_) (fun b6 e7 => ?_)
  · refine l_if (fun h8 => ?_) (fun h8 => ?_)
    · exact l_po ⟨_, rfl, _, rfl, h8⟩ (po_mov (.t rfl)) rfl<|l_po ⟨_, rfl, _, rfl, h8⟩ (po_lt (.t rfl) (ev_i _)) rfl<|l_p (po_pickt (t := rd kBool (decide (s3.1 < 1048576))) (.t rfl) h8 (.t rfl)) rfl<|l_nil<|x_mid ((decide (s3.1 < 1048576)), ()) rfl ⟨rfl, rfl, rfl, rfl, rfl, trivial⟩ (.c (.nil _))
    · exact l_skipn 2 5 true ⟨_, rfl, _, rfl, ne_t h8⟩ rfl<|l_p (po_pickf (t := rd kBool false) (.t rfl) h8 (.b _)) rfl<|l_nil<|x_mid (false, ()) rfl ⟨rfl, rfl, rfl, rfl, rfl, trivial⟩ (.c (.nil _))
  · refine l_nil<|x_tn<|c_if rfl (fun h9 => ?_) (fun h9 => ?_)
    · refine c_skip<|x_tn<|c_seq<|c_blk<|c_seq<|c_draw [0, 1, 2, 3, 4, 5, 6, 7, 8, 9, 10, 11, 12, 13, 14, 15, 16, 17] [] [] (by kernel_rfl) (by kernel_rfl)<|w_p rfl rfl (po_mov (.t rfl)) rfl<|w_p rfl rfl (po_fo (.t rfl) fs105_3) rfl<|w_p rfl rfl (po_lo 0 (.t rfl) rfl F_Vol_files ty103) rfl<|w_p rfl rfl (po_mov (.t rfl)) rfl<|w_bind fun u11 h10 => w_p rfl rfl (po_ia (.t rfl) (.t rfl) h10 sl103) rfl<|w_p rfl rfl (po_fa (.t rfl) fs165_3 F_File_blocks) rfl<|w_p rfl rfl (po_la (.t rfl) ty24) rfl<|w_p rfl rfl (po_len (ty := 0) (.t rfl) sl24) rfl<|w_p rfl rfl (po_add (.t rfl) (.t rfl)) rfl<|w_p rfl rfl (po_fo (.t rfl) fs105_3) rfl<|w_p rfl rfl (po_lo 0 (.t rfl) rfl F_Vol_files ty103) rfl<|w_p rfl rfl (po_mov (.t rfl)) rfl<|w_bind fun u13 h12 => w_p rfl rfl (po_ia (.t rfl) (.t rfl) h12 sl103) rfl<|w_p rfl rfl (po_fa (.t rfl) fs165_4 F_File_list) rfl<|w_p rfl rfl (po_la (.t rfl) ty163) rfl<|w_p rfl rfl (po_len (ty := 0) (.t rfl) sl163) rfl<|w_p rfl rfl (po_add (.t rfl) (.t rfl)) rfl<|w_p rfl rfl (po_asg (.t rfl)) rfl<|w_nil<|x_tn<|c_seq<|c_reg<|l_p (po_asg (ev_i _)) rfl<|l_nil<|x_tn<|c_blk<|c_loop (fun (s15 : (Int × Int)) (e16 : Unit) => [(1, own g1 0), (2, rd kInt 0), (3, rd kInt s15.1), (4, rd kInt s3.2), (5, rd kInt s15.2)]) (fun (s15 : (Int × Int)) (e16 : Unit) => [(some g1, box kVol a0)]) () ⟨rfl, rfl, rfl, rfl, rfl, trivial⟩ (.c (.nil _)) fun s15 e16 k14 => c_seq<|c_seq<|c_reg<|l_p (po_mov (.t rfl)) rfl<|l_p (po_fo (.t rfl) fs105_3) rfl ?_
      refine l_p (po_lo 0 (.t rfl) rfl F_Vol_files ty103) rfl<|l_p (po_mov (.t rfl)) rfl<|l_bind fun u18 h17 => l_p (po_ia (.t rfl) (.t rfl) h17 sl103) rfl<|l_p (po_fa (.t rfl) fs165_4 F_File_list) rfl<|l_p (po_la (.t rfl) ty163) rfl<|l_p (po_len (ty := 0) (.t rfl) sl163) rfl<|l_p (po_lt (.t rfl) (.t rfl)) rfl<|l_p (po_mov (.t rfl)) rfl<|l_jn 3 (fun (b20 : Bool) (e21 : Unit) => [(1, own g1 0), (2, rd kInt 0), (3, rd kInt s15.1), (4, rd kInt s3.2), (5, rd kInt s15.2), (49, rd kBool b20)]) (fun (b20 : Bool) (e21 : Unit) => [(some g1, box kVol a0)]) (fun k19 => ?_) (fun b20 e21 => ?_)
      · refine l_if (fun h22 => ?_) (fun h22 => ?_)
        · exact l_po ⟨_, rfl, _, rfl, h22⟩ (po_mov (.t rfl)) rfl<|l_po ⟨_, rfl, _, rfl, h22⟩ (po_lt (.t rfl) (ev_i _)) rfl<|l_p (po_pickt (t := rd kBool (decide (s15.1 < 1048576))) (.t rfl) h22 (.t rfl)) rfl<|l_nil<|x_mid ((decide (s15.1 < 1048576)), ()) rfl ⟨rfl, rfl, rfl, rfl, rfl, rfl, trivial⟩ (.c (.nil _))
        · exact l_skipn 2 9 true ⟨_, rfl, _, rfl, ne_t h22⟩ rfl<|l_p (po_pickf (t := rd kBool false) (.t rfl) h22 (.b _)) rfl<|l_nil<|x_mid (false, ()) rfl ⟨rfl, rfl, rfl, rfl, rfl, rfl, trivial⟩ (.c (.nil _))
      · refine l_nil<|x_tn<|c_if rfl (fun h23 => ?_) (fun h23 => ?_)
        · exact c_skip<|x_tn<|c_seq<|c_blk<|c_reg<|l_p (po_mov (.t rfl)) rfl<|l_p (po_fo (.t rfl) fs105_3) rfl<|l_p (po_lo 0 (.t rfl) rfl F_Vol_files ty103) rfl<|l_p (po_mov (.t rfl)) rfl<|l_bind fun u25 h24 => l_p (po_ia (.t rfl) (.t rfl) h24 sl103) rfl<|l_p (po_fa (.t rfl) fs165_4 F_File_list) rfl<|l_p (po_la (.t rfl) ty163) rfl<|l_p (po_mov (.t rfl)) rfl<|l_bind fun u27 h26 => l_p (po_ia (.t rfl) (.t rfl) h26 sl163) rfl<|l_p (po_fa (.t rfl) fs169_0 F_Link_name) rfl<|l_p (po_la (.t rfl) ty9) rfl<|l_p (po_lens (.t rfl) un9) rfl<|l_p (po_quo (.t rfl) (ev_i _) (by decide)) rfl<|l_p (po_add (.t rfl) (.t rfl)) rfl<|l_p (po_asg (.t rfl)) rfl<|l_nil<|x_bn<|x_tn<|c_reg<|l_p (po_mov (.t rfl)) rfl<|l_p (po_add (.t rfl) (ev_i _)) rfl<|l_p (po_asg (.t rfl)) rfl<|l_nil<|x_mid (((IntKind.wrap .i64 (s15.1 + (IntKind.wrap .i64 (Int.tdiv ((Link.name u27).size : Int) 4)))), (IntKind.wrap .i64 (s15.2 + 1))), ()) rfl ⟨rfl, rfl, rfl, rfl, rfl, trivial⟩ (.c (.nil _))
        · exact c_exit<|x_te<|x_me<|x_be<|x_bn<|x_tn<|c_reg<|l_p (po_mov (.t rfl)) rfl<|l_p (po_add (.t rfl) (ev_i _)) rfl<|l_p (po_asg (.t rfl)) rfl<|l_nil<|x_mid ((s15.1, (IntKind.wrap .i64 (s3.2 + 1))), ()) rfl ⟨rfl, rfl, rfl, rfl, trivial⟩ (.c (.nil _))
    · exact c_exit<|x_te<|x_me<|x_be<|x_tn<|c_seq<|c_reg<|l_p (po_mov (.t rfl)) rfl<|l_p (po_asg (.t rfl)) rfl<|l_nil<|x_tn<|c_ret<|x_ret1 rfl (.t rfl)
noncomputable def hl0_BlocksWeight (a0 : (List Block)) : Option Int :=
  rep (fun (s2 : (Int × Int)) k1 => jn (fun (b5 : Bool) => if b5 = true then ((at? a0 s2.2).bind (fun u10 => k1 ((IntKind.wrap .i64 (s2.1 + (IntKind.wrap .i64 (Int.tdiv ((Block.text u10).size : Int) 8)))), (IntKind.wrap .i64 (s2.2 + 1))))) else (some s2.1)) (fun k4 => if (decide (s2.2 < (a0.length : Int))) = true then (k4 (decide (s2.1 < 1048576))) else (k4 false))) FUEL ((a0.length : Int), 0)
theorem c_hl0_BlocksWeight (a0 : (List Block)) : Ct Tryz.prog 52 [rd (kSl kBlock) a0] (hl0_BlocksWeight a0) (fun r => rd kInt r) := by
  unfold hl0_BlocksWeight
  refine enter Tryz.func52 rfl Tryz.ntmps52 rfl (by kernel_rfl) fun z => c_seq<|c_reg<|l_p (po_asg (ev_i _)) rfl<|l_nil<|x_tn<|c_seq<|c_reg<|l_p (po_mov (.t rfl)) rfl<|l_p (po_len (ty := 0) (.t rfl) sl30) rfl<|l_p (po_asg (.t rfl)) rfl<|l_nil<|x_tn<|c_seq<|c_seq<|c_reg<|l_p (po_asg (ev_i _)) rfl<|l_nil<|x_tn<|c_blk<|c_loop (fun (s2 : (Int × Int)) (e3 : Unit) => [(0, rd (kSl kBlock) a0), (2, rd kInt 0), (3, rd kInt s2.1), (4, rd kInt s2.2)]) (fun (s2 : (Int × Int)) (e3 : Unit) => []) () ⟨rfl, rfl, rfl, rfl, trivial⟩ (.nil _) fun s2 e3 k1 => c_seq<|c_seq<|c_reg<|l_p (po_mov (.t rfl)) rfl<|l_p (po_mov (.t rfl)) rfl<|l_p (po_len (ty := 0) (.t rfl) sl30) rfl<|l_p (po_lt (.t rfl) (.t rfl)) rfl<|l_p (po_mov (.t rfl)) rfl<|l_jn 3 (fun (b5 : Bool) (e6 : Unit) => [(0, rd (kSl kBlock) a0), (2, rd kInt 0), (3, rd kInt s2.1), (4, rd kInt s2.2), (14, rd kBool b5)]) (fun (b5 : Bool) (e6 : Unit) => []) (fun k4 => ?_) (fun b5 e6 => ?_)
  · refine l_if (fun h7 => ?_) (fun h7 => ?_)
    · exact l_po ⟨_, rfl, _, rfl, h7⟩ (po_mov (.t rfl)) rfl<|l_po ⟨_, rfl, _, rfl, h7⟩ (po_lt (.t rfl) (ev_i _)) rfl<|l_p (po_pickt (t := rd kBool (decide (s2.1 < 1048576))) (.t rfl) h7 (.t rfl)) rfl<|l_nil<|x_mid ((decide (s2.1 < 1048576)), ()) rfl ⟨rfl, rfl, rfl, rfl, rfl, trivial⟩ (.nil _)
    · exact l_skipn 2 4 true ⟨_, rfl, _, rfl, ne_t h7⟩ rfl<|l_p (po_pickf (t := rd kBool false) (.t rfl) h7 (.b _)) rfl<|l_nil<|x_mid (false, ()) rfl ⟨rfl, rfl, rfl, rfl, rfl, trivial⟩ (.nil _)
  · refine l_nil<|x_tn<|c_if rfl (fun h8 => ?_) (fun h8 => ?_)
    · exact c_skip<|x_tn<|c_seq<|c_blk<|c_reg<|l_p (po_mov (.t rfl)) rfl<|l_p (po_mov (.t rfl)) rfl<|l_p (po_mov (.t rfl)) rfl<|l_bind fun u10 h9 => l_p (po_ia (.t rfl) (.t rfl) h9 sl30) rfl<|l_p (po_fa (.t rfl) fs61_2 F_Block_text) rfl<|l_p (po_la (.t rfl) ty9) rfl<|l_p (po_lens (.t rfl) un9) rfl<|l_p (po_quo (.t rfl) (ev_i _) (by decide)) rfl<|l_p (po_add (.t rfl) (.t rfl)) rfl<|l_p (po_asg (.t rfl)) rfl<|l_nil<|x_bn<|x_tn<|c_reg<|l_p (po_mov (.t rfl)) rfl<|l_p (po_add (.t rfl) (ev_i _)) rfl<|l_p (po_asg (.t rfl)) rfl<|l_nil<|x_mid (((IntKind.wrap .i64 (s2.1 + (IntKind.wrap .i64 (Int.tdiv ((Block.text u10).size : Int) 8)))), (IntKind.wrap .i64 (s2.2 + 1))), ()) rfl ⟨rfl, rfl, rfl, rfl, trivial⟩ (.nil _)
    · exact c_exit<|x_te<|x_me<|x_be<|x_tn<|c_seq<|c_reg<|l_p (po_mov (.t rfl)) rfl<|l_p (po_asg (.t rfl)) rfl<|l_nil<|x_tn<|c_ret<|x_ret1 rfl (.t rfl)
noncomputable def hl0_DevicesWeight (a0 : (List Device)) : Option Int :=
  rep (fun (s2 : (Int × Int)) k1 => jn (fun (b5 : Bool) => if b5 = true then ((at? a0 s2.2).bind (fun u10 => (at? a0 s2.2).bind (fun u12 => k1 ((IntKind.wrap .i64 ((IntKind.wrap .i64 (s2.1 + ((Device.free u10).length : Int))) + ((Device.late u12).length : Int))), (IntKind.wrap .i64 (s2.2 + 1)))))) else (some s2.1)) (fun k4 => if (decide (s2.2 < (a0.length : Int))) = true then (k4 (decide (s2.1 < 1048576))) else (k4 false))) FUEL ((a0.length : Int), 0)
theorem c_hl0_DevicesWeight (a0 : (List Device)) : Ct Tryz.prog 102 [rd (kSl kDevice) a0] (hl0_DevicesWeight a0) (fun r => rd kInt r) := by
  unfold hl0_DevicesWeight
  refine enter Tryz.func102 rfl Tryz.ntmps102 rfl (by kernel_rfl) fun z => c_seq<|c_reg<|l_p (po_asg (ev_i _)) rfl<|l_nil<|x_tn<|c_seq<|c_reg<|l_p (po_mov (.t rfl)) rfl<|l_p (po_len (ty := 0) (.t rfl) sl31) rfl<|l_p (po_asg (.t rfl)) rfl<|l_nil<|x_tn<|c_seq<|c_seq<|c_reg<|l_p (po_asg (ev_i _)) rfl<|l_nil<|x_tn<|c_blk<|c_loop (fun (s2 : (Int × Int)) (e3 : Unit) => [(0, rd (kSl kDevice) a0), (2, rd kInt 0), (3, rd kInt s2.1), (4, rd kInt s2.2)]) (fun (s2 : (Int × Int)) (e3 : Unit) => []) () ⟨rfl, rfl, rfl, rfl, trivial⟩ (.nil _) fun s2 e3 k1 => c_seq<|c_seq<|c_reg<|l_p (po_mov (.t rfl)) rfl<|l_p (po_mov (.t rfl)) rfl<|l_p (po_len (ty := 0) (.t rfl) sl31) rfl<|l_p (po_lt (.t rfl) (.t rfl)) rfl<|l_p (po_mov (.t rfl)) rfl<|l_jn 3 (fun (b5 : Bool) (e6 : Unit) => [(0, rd (kSl kDevice) a0), (2, rd kInt 0), (3, rd kInt s2.1), (4, rd kInt s2.2), (14, rd kBool b5)]) (fun (b5 : Bool) (e6 : Unit) => []) (fun k4 => ?_) (fun b5 e6 => ?_)
  · refine l_if (fun h7 => ?_) (fun h7 => ?_)
    · exact l_po ⟨_, rfl, _, rfl, h7⟩ (po_mov (.t rfl)) rfl<|l_po ⟨_, rfl, _, rfl, h7⟩ (po_lt (.t rfl) (ev_i _)) rfl<|l_p (po_pickt (t := rd kBool (decide (s2.1 < 1048576))) (.t rfl) h7 (.t rfl)) rfl<|l_nil<|x_mid ((decide (s2.1 < 1048576)), ()) rfl ⟨rfl, rfl, rfl, rfl, rfl, trivial⟩ (.nil _)
    · exact l_skipn 2 4 true ⟨_, rfl, _, rfl, ne_t h7⟩ rfl<|l_p (po_pickf (t := rd kBool false) (.t rfl) h7 (.b _)) rfl<|l_nil<|x_mid (false, ()) rfl ⟨rfl, rfl, rfl, rfl, rfl, trivial⟩ (.nil _)
  · refine l_nil<|x_tn<|c_if rfl (fun h8 => ?_) (fun h8 => ?_)
    · exact c_skip<|x_tn<|c_seq<|c_blk<|c_draw [0, 1, 2, 3, 4, 5, 6, 7, 8, 9, 10, 11, 12, 13, 14, 15] [] [] (by kernel_rfl) (by kernel_rfl)<|w_p rfl rfl (po_mov (.t rfl)) rfl<|w_p rfl rfl (po_mov (.t rfl)) rfl<|w_p rfl rfl (po_mov (.t rfl)) rfl<|w_bind fun u10 h9 => w_p rfl rfl (po_ia (.t rfl) (.t rfl) h9 sl31) rfl<|w_p rfl rfl (po_fa (.t rfl) fs85_2 F_Device_free) rfl<|w_p rfl rfl (po_la (.t rfl) ty83) rfl<|w_p rfl rfl (po_len (ty := 0) (.t rfl) sl83) rfl<|w_p rfl rfl (po_add (.t rfl) (.t rfl)) rfl<|w_p rfl rfl (po_mov (.t rfl)) rfl<|w_p rfl rfl (po_mov (.t rfl)) rfl<|w_bind fun u12 h11 => w_p rfl rfl (po_ia (.t rfl) (.t rfl) h11 sl31) rfl<|w_p rfl rfl (po_fa (.t rfl) fs85_3 F_Device_late) rfl<|w_p rfl rfl (po_la (.t rfl) ty83) rfl<|w_p rfl rfl (po_len (ty := 0) (.t rfl) sl83) rfl<|w_p rfl rfl (po_add (.t rfl) (.t rfl)) rfl<|w_p rfl rfl (po_asg (.t rfl)) rfl<|w_nil<|x_bn<|x_tn<|c_reg<|l_p (po_mov (.t rfl)) rfl<|l_p (po_add (.t rfl) (ev_i _)) rfl<|l_p (po_asg (.t rfl)) rfl<|l_nil<|x_mid (((IntKind.wrap .i64 ((IntKind.wrap .i64 (s2.1 + ((Device.free u10).length : Int))) + ((Device.late u12).length : Int))), (IntKind.wrap .i64 (s2.2 + 1))), ()) rfl ⟨rfl, rfl, rfl, rfl, trivial⟩ (.nil _)
    · exact c_exit<|x_te<|x_me<|x_be<|x_tn<|c_seq<|c_reg<|l_p (po_mov (.t rfl)) rfl<|l_p (po_asg (.t rfl)) rfl<|l_nil<|x_tn<|c_ret<|x_ret1 rfl (.t rfl)
noncomputable def hl0_Texts (a0 : (List ByteArray)) : Option Int :=
  rep (fun (s2 : (Int × Int)) k1 => jn (fun (b5 : Bool) => if b5 = true then ((at? a0 s2.2).bind (fun u10 => k1 ((IntKind.wrap .i64 (s2.1 + (u10.size : Int))), (IntKind.wrap .i64 (s2.2 + 1))))) else (some s2.1)) (fun k4 => if (decide (s2.2 < (a0.length : Int))) = true then (k4 (decide (s2.1 < 1048576))) else (k4 false))) FUEL ((a0.length : Int), 0)
theorem c_hl0_Texts (a0 : (List ByteArray)) : Ct Tryz.prog 25 [rd (kSl kStr) a0] (hl0_Texts a0) (fun r => rd kInt r) := by
  unfold hl0_Texts
  refine enter Tryz.func25 rfl Tryz.ntmps25 rfl (by kernel_rfl) fun z => c_seq<|c_reg<|l_p (po_asg (ev_i _)) rfl<|l_nil<|x_tn<|c_seq<|c_reg<|l_p (po_mov (.t rfl)) rfl<|l_p (po_len (ty := 0) (.t rfl) sl28) rfl<|l_p (po_asg (.t rfl)) rfl<|l_nil<|x_tn<|c_seq<|c_seq<|c_reg<|l_p (po_asg (ev_i _)) rfl<|l_nil<|x_tn<|c_blk<|c_loop (fun (s2 : (Int × Int)) (e3 : Unit) => [(0, rd (kSl kStr) a0), (2, rd kInt 0), (3, rd kInt s2.1), (4, rd kInt s2.2)]) (fun (s2 : (Int × Int)) (e3 : Unit) => []) () ⟨rfl, rfl, rfl, rfl, trivial⟩ (.nil _) fun s2 e3 k1 => c_seq<|c_seq<|c_reg<|l_p (po_mov (.t rfl)) rfl<|l_p (po_mov (.t rfl)) rfl<|l_p (po_len (ty := 0) (.t rfl) sl28) rfl<|l_p (po_lt (.t rfl) (.t rfl)) rfl<|l_p (po_mov (.t rfl)) rfl<|l_jn 3 (fun (b5 : Bool) (e6 : Unit) => [(0, rd (kSl kStr) a0), (2, rd kInt 0), (3, rd kInt s2.1), (4, rd kInt s2.2), (14, rd kBool b5)]) (fun (b5 : Bool) (e6 : Unit) => []) (fun k4 => ?_) (fun b5 e6 => ?_)
  · refine l_if (fun h7 => ?_) (fun h7 => ?_)
    · exact l_po ⟨_, rfl, _, rfl, h7⟩ (po_mov (.t rfl)) rfl<|l_po ⟨_, rfl, _, rfl, h7⟩ (po_lt (.t rfl) (ev_i _)) rfl<|l_p (po_pickt (t := rd kBool (decide (s2.1 < 1048576))) (.t rfl) h7 (.t rfl)) rfl<|l_nil<|x_mid ((decide (s2.1 < 1048576)), ()) rfl ⟨rfl, rfl, rfl, rfl, rfl, trivial⟩ (.nil _)
    · exact l_skipn 2 4 true ⟨_, rfl, _, rfl, ne_t h7⟩ rfl<|l_p (po_pickf (t := rd kBool false) (.t rfl) h7 (.b _)) rfl<|l_nil<|x_mid (false, ()) rfl ⟨rfl, rfl, rfl, rfl, rfl, trivial⟩ (.nil _)
  · refine l_nil<|x_tn<|c_if rfl (fun h8 => ?_) (fun h8 => ?_)
    · exact c_skip<|x_tn<|c_seq<|c_blk<|c_reg<|l_p (po_mov (.t rfl)) rfl<|l_p (po_mov (.t rfl)) rfl<|l_p (po_mov (.t rfl)) rfl<|l_bind fun u10 h9 => l_p (po_ia (.t rfl) (.t rfl) h9 sl28) rfl<|l_p (po_la (.t rfl) ty9) rfl<|l_p (po_lens (.t rfl) un9) rfl<|l_p (po_add (.t rfl) (.t rfl)) rfl<|l_p (po_asg (.t rfl)) rfl<|l_nil<|x_bn<|x_tn<|c_reg<|l_p (po_mov (.t rfl)) rfl<|l_p (po_add (.t rfl) (ev_i _)) rfl<|l_p (po_asg (.t rfl)) rfl<|l_nil<|x_mid (((IntKind.wrap .i64 (s2.1 + (u10.size : Int))), (IntKind.wrap .i64 (s2.2 + 1))), ()) rfl ⟨rfl, rfl, rfl, rfl, trivial⟩ (.nil _)
    · exact c_exit<|x_te<|x_me<|x_be<|x_tn<|c_seq<|c_reg<|l_p (po_mov (.t rfl)) rfl<|l_p (po_asg (.t rfl)) rfl<|l_nil<|x_tn<|c_ret<|x_ret1 rfl (.t rfl)
noncomputable def tree_number (a0 : Int) : Option Bool :=
  jn (fun (b2 : Bool) => some b2) (fun k1 => if (decide (a0 ≥ 0)) = true then (k1 (decide (a0 ≤ 1073741824))) else (k1 false))
theorem c_tree_number (a0 : Int) : Ct Tryz.prog 213 [rd kInt a0] (tree_number a0) (fun r => rd kBool r) := by
  unfold tree_number
  refine enter Tryz.func213 rfl Tryz.ntmps213 rfl (by kernel_rfl) fun z => c_seq<|c_reg<|l_p (po_asg (.b _)) rfl<|l_nil<|x_tn<|c_seq<|c_reg<|l_p (po_mov (.t rfl)) rfl<|l_p (po_ge (.t rfl) (ev_i _)) rfl<|l_p (po_mov (.t rfl)) rfl<|l_jn 3 (fun (b2 : Bool) (e3 : Unit) => [(2, rd kBool false), (8, rd kBool b2)]) (fun (b2 : Bool) (e3 : Unit) => []) (fun k1 => ?_) (fun b2 e3 => ?_)
  · refine l_if (fun h4 => ?_) (fun h4 => ?_)
    · exact l_po ⟨_, rfl, _, rfl, h4⟩ (po_mov (.t rfl)) rfl<|l_po ⟨_, rfl, _, rfl, h4⟩ (po_le (.t rfl) (ev_i _)) rfl<|l_p (po_pickt (t := rd kBool (decide (a0 ≤ 1073741824))) (.t rfl) h4 (.t rfl)) rfl<|l_nil<|x_mid ((decide (a0 ≤ 1073741824)), ()) rfl ⟨rfl, rfl, trivial⟩ (.nil _)
    · exact l_skipn 2 2 true ⟨_, rfl, _, rfl, ne_t h4⟩ rfl<|l_p (po_pickf (t := rd kBool false) (.t rfl) h4 (.b _)) rfl<|l_nil<|x_mid (false, ()) rfl ⟨rfl, rfl, trivial⟩ (.nil _)
  · exact l_p (po_asg (.t rfl)) rfl<|l_nil<|x_tn<|c_ret<|x_ret1 rfl (.t rfl)
noncomputable def tree_blocks_1 (a0 : Int) : Option Bool :=
  jn (fun (b2 : Bool) => some b2) (fun k1 => if (decide (a0 < 0)) = true then (k1 true) else (k1 (decide (a0 ≥ 1073741824))))
theorem c_tree_blocks_1 (a0 : Int) : Ct Tryz.prog 256 [rd kInt a0] (tree_blocks_1 a0) (fun r => rd kBool r) := by
  unfold tree_blocks_1
  refine enter Tryz.func256 rfl Tryz.ntmps256 rfl (by kernel_rfl) fun z => c_seq<|c_reg<|l_p (po_asg (.b _)) rfl<|l_nil<|x_tn<|c_seq<|c_reg<|l_p (po_mov (.t rfl)) rfl<|l_p (po_lt (.t rfl) (ev_i _)) rfl<|l_p (po_mov (.t rfl)) rfl<|l_jn 3 (fun (b2 : Bool) (e3 : Unit) => [(2, rd kBool false), (8, rd kBool b2)]) (fun (b2 : Bool) (e3 : Unit) => []) (fun k1 => ?_) (fun b2 e3 => ?_)
  · refine l_if (fun h4 => ?_) (fun h4 => ?_)
    · exact l_skipn 2 2 false ⟨_, rfl, _, rfl, ne_f h4⟩ rfl<|l_p (po_pickt (t := rd kBool true) (.t rfl) h4 (.b _)) rfl<|l_nil<|x_mid (true, ()) rfl ⟨rfl, rfl, trivial⟩ (.nil _)
    · exact l_po ⟨_, rfl, _, rfl, h4⟩ (po_mov (.t rfl)) rfl<|l_po ⟨_, rfl, _, rfl, h4⟩ (po_ge (.t rfl) (ev_i _)) rfl<|l_p (po_pickf (t := rd kBool (decide (a0 ≥ 1073741824))) (.t rfl) h4 (.t rfl)) rfl<|l_nil<|x_mid ((decide (a0 ≥ 1073741824)), ()) rfl ⟨rfl, rfl, trivial⟩ (.nil _)
  · exact l_p (po_asg (.t rfl)) rfl<|l_nil<|x_tn<|c_ret<|x_ret1 rfl (.t rfl)
noncomputable def body_Many (a0 : Int) : Option Int :=
  some (IntKind.wrap .i64 (Int.tdiv (IntKind.wrap .i64 ((IntKind.wrap .i64 (a0 + 32)) - 1)) 32))
theorem c_body_Many (a0 : Int) : Ct Tryz.prog 257 [rd kInt a0] (body_Many a0) (fun r => rd kInt r) := by
  unfold body_Many
  exact enter Tryz.func257 rfl Tryz.ntmps257 rfl (by kernel_rfl) fun z => c_seq<|c_reg<|l_p (po_asg (ev_i _)) rfl<|l_nil<|x_tn<|c_seq<|c_reg<|l_p (po_mov (.t rfl)) rfl<|l_p (po_add (.t rfl) (ev_i _)) rfl<|l_p (po_sub (.t rfl) (ev_i _)) rfl<|l_p (po_quo (.t rfl) (ev_i _) (by decide)) rfl<|l_p (po_asg (.t rfl)) rfl<|l_nil<|x_tn<|c_ret<|x_ret1 rfl (.t rfl)
noncomputable def slices_IndexFunc_277 (a0 : (List Int)) (a1 : (Int → Option Bool)) : Option Int :=
  lfold (fun (i4 : Int) (x5 : Int) (s2 : Int) k1 => (a1 x5).bind (fun r7 => if r7 = true then (some i4) else (k1 s2))) (fun (s2 : Int) => some (-1)) 0 a0 0
theorem c_slices_IndexFunc_277 (a0 : (List Int)) (a1 : (Int → Option Bool)) : Ct Tryz.prog 277 [rd (kSl kInt) a0, fnv Tryz.prog (fun (x : Int) => [rd kInt x]) a1 (fun r => rd kBool r)] (slices_IndexFunc_277 a0 a1) (fun r => rd kInt r) := by
  unfold slices_IndexFunc_277
  refine enter Tryz.func277 rfl Tryz.ntmps277 rfl (by kernel_rfl) fun z => c_seq<|c_reg<|l_p (po_asg (ev_i _)) rfl<|l_nil<|x_tn<|c_seq<|c_seq<|c_reg<|l_p (po_mov (.t rfl)) rfl<|l_p (po_len (ty := 0) (.t rfl) sl24) rfl<|l_p (po_mov (ev_i _)) rfl<|l_nil<|x_tn<|c_blk<|c_rng (tx := 0) (fun (s2 : Int) (e3 : Unit) => [(1, fnv Tryz.prog (fun (x : Int) => [rd kInt x]) a1 (fun r => rd kBool r)), (4, rd kInt s2)]) (fun (s2 : Int) (e3 : Unit) => []) () ⟨rfl, rfl, trivial⟩ (.nil _) rfl rfl rfl ⟨rfl, rfl, rfl, rfl, rfl, rfl, rfl, rfl, rfl, rfl, rfl, rfl⟩ (fun _ _ => rfl) (fun i4 x5 s2 e3 k1 h6 => ?_) (fun s2 e3 => ?_)
  · refine c_seq<|c_reg<|l_p (po_mov (.t rfl)) rfl<|l_p (po_asg (.t rfl)) rfl<|l_nil<|x_tn<|c_seq<|c_reg<|l_p (po_mov (.t rfl)) rfl<|l_p (po_mov (.t rfl)) rfl<|l_p (po_mov (.t rfl)) rfl<|l_p (po_ia (.t rfl) (.t rfl) (at_nat h6) sl24) rfl<|l_p (po_la (.t rfl) ty3) rfl<|l_callv x5 (.t rfl) ⟨(.t rfl), trivial⟩ rfl fun r7 h8 => l_nil<|x_tn<|c_if rfl (fun h9 => ?_) (fun h9 => ?_)
    · exact c_seq<|c_reg<|l_p (po_mov (.t rfl)) rfl<|l_p (po_asg (.t rfl)) rfl<|l_nil<|x_tn<|c_ret<|x_br<|x_mr<|x_br<|x_tr<|x_ret1 rfl (.t rfl)
    · exact c_skip<|x_bn<|x_mid (s2, ()) rfl ⟨rfl, rfl, rfl, rfl, rfl, trivial⟩ (.nil _)
  · exact x_be<|x_tn<|c_seq<|c_reg<|l_p (po_asg (ev_i _)) rfl<|l_nil<|x_tn<|c_ret<|x_ret1 rfl (.t rfl)
end Go.Proofs.YtmnmcobpfpkibaaGreatDoor
namespace Go.Proofs.YtmnmcobpfpkibaaGreatDoor
open Go.RowKit
set_option linter.unusedVariables false
set_option maxRecDepth 20000
noncomputable def slices_BinarySearchFunc_278 (a0 : (List File)) (a1 : Int) (a2 : ((File × Int) → Option Int)) : Option (Int × Bool) :=
  rep (fun (s2 : (Int × Int)) k1 => if (decide (s2.1 < s2.2)) = true then ((at? a0 (IntKind.wrap .i64 (bShr .u64 (IntKind.wrap .u64 (IntKind.wrap .i64 (s2.1 + s2.2))) 1))).bind (fun u6 => (a2 (u6, a1)).bind (fun r7 => if (decide (r7 < 0)) = true then (k1 ((IntKind.wrap .i64 ((IntKind.wrap .i64 (bShr .u64 (IntKind.wrap .u64 (IntKind.wrap .i64 (s2.1 + s2.2))) 1)) + 1)), s2.2)) else (k1 (s2.1, (IntKind.wrap .i64 (bShr .u64 (IntKind.wrap .u64 (IntKind.wrap .i64 (s2.1 + s2.2))) 1))))))) else (jn (fun (b11 : Bool) => some (s2.1, b11)) (fun k10 => if (decide (s2.1 < (a0.length : Int))) = true then ((at? a0 s2.1).bind (fun u15 => (a2 (u15, a1)).bind (fun r16 => k10 (r16 == 0)))) else (k10 false)))) FUEL (0, (a0.length : Int))
theorem c_slices_BinarySearchFunc_278 (a0 : (List File)) (a1 : Int) (a2 : ((File × Int) → Option Int)) : Ct Tryz.prog 278 [rd (kSl kFile) a0, rd kInt a1, fnv Tryz.prog (fun (x : (File × Int)) => [rd kFile x.1, rd kInt x.2]) a2 (fun r => rd kInt r)] (slices_BinarySearchFunc_278 a0 a1 a2) (fun r => tup [rd kInt r.1, rd kBool r.2]) := by
  unfold slices_BinarySearchFunc_278
  refine enter Tryz.func278 rfl Tryz.ntmps278 rfl (by kernel_rfl) fun z => c_seq<|c_reg<|l_p (po_asg (ev_i _)) rfl<|l_p (po_asg (.b _)) rfl<|l_nil<|x_tn<|c_seq<|c_reg<|l_p (po_mov (.t rfl)) rfl<|l_p (po_len (ty := 0) (.t rfl) sl103) rfl<|l_p (po_asg (.t rfl)) rfl<|l_nil<|x_tn<|c_seq<|c_reg<|l_p (po_mov (.t rfl)) rfl<|l_p (po_asg (ev_i _)) rfl<|l_p (po_asg (.t rfl)) rfl<|l_nil<|x_tn<|c_seq<|c_blk<|c_loop (fun (s2 : (Int × Int)) (e3 : Unit) => [(0, rd (kSl kFile) a0), (1, rd kInt a1), (2, fnv Tryz.prog (fun (x : (File × Int)) => [rd kFile x.1, rd kInt x.2]) a2 (fun r => rd kInt r)), (6, rd kInt 0), (7, rd kBool false), (8, rd kInt (a0.length : Int)), (9, rd kInt s2.1), (10, rd kInt s2.2)]) (fun (s2 : (Int × Int)) (e3 : Unit) => []) () ⟨rfl, rfl, rfl, rfl, rfl, rfl, rfl, rfl, trivial⟩ (.nil _) fun s2 e3 k1 => c_seq<|c_seq<|c_reg<|l_p (po_mov (.t rfl)) rfl<|l_p (po_mov (.t rfl)) rfl<|l_p (po_lt (.t rfl) (.t rfl)) rfl<|l_nil<|x_tn<|c_if rfl (fun h4 => ?_) (fun h4 => ?_)
  · refine c_skip<|x_tn<|c_blk<|c_seq<|c_reg<|l_p (po_mov (.t rfl)) rfl<|l_p (po_mov (.t rfl)) rfl<|l_p (po_add (.t rfl) (.t rfl)) rfl<|l_p (po_cv (b2 := 8) (lo2 := 0) (hi2 := 18446744073709551615) (.t rfl) un3 un100) rfl<|l_p (po_shr (.t rfl) (ev_u _) (by decide)) rfl<|l_p (po_cv (b2 := 8) (lo2 := -9223372036854775808) (hi2 := 9223372036854775807) (.t rfl) un100 un3) rfl<|l_p (po_asg (.t rfl)) rfl<|l_nil<|x_tn<|c_seq<|c_reg<|l_p (po_mov (.t rfl)) rfl<|l_p (po_mov (.t rfl)) rfl<|l_p (po_mov (.t rfl)) rfl<|l_bind fun u6 h5 => l_p (po_ia (.t rfl) (.t rfl) h5 sl103) rfl<|l_p (po_la (.t rfl) ty165) rfl<|l_p (po_mov (.t rfl)) rfl<|l_callv (u6, a1) (.t rfl) ⟨(.t rfl), (.t rfl), trivial⟩ rfl fun r7 h8 => l_p (po_lt (.t rfl) (ev_i _)) rfl<|l_nil<|x_tn<|c_if rfl (fun h9 => ?_) (fun h9 => ?_)
    · exact c_reg<|l_p (po_mov (.t rfl)) rfl<|l_p (po_add (.t rfl) (ev_i _)) rfl<|l_p (po_asg (.t rfl)) rfl<|l_nil<|x_bn<|x_mid (((IntKind.wrap .i64 ((IntKind.wrap .i64 (bShr .u64 (IntKind.wrap .u64 (IntKind.wrap .i64 (s2.1 + s2.2))) 1)) + 1)), s2.2), ()) rfl ⟨rfl, rfl, rfl, rfl, rfl, rfl, rfl, rfl, trivial⟩ (.nil _)
    · exact c_reg<|l_p (po_mov (.t rfl)) rfl<|l_p (po_asg (.t rfl)) rfl<|l_nil<|x_bn<|x_mid ((s2.1, (IntKind.wrap .i64 (bShr .u64 (IntKind.wrap .u64 (IntKind.wrap .i64 (s2.1 + s2.2))) 1))), ()) rfl ⟨rfl, rfl, rfl, rfl, rfl, rfl, rfl, rfl, trivial⟩ (.nil _)
  · refine c_exit<|x_te<|x_me<|x_be<|x_tn<|c_seq<|c_reg<|l_p (po_mov (.t rfl)) rfl<|l_p (po_mov (.t rfl)) rfl<|l_p (po_mov (.t rfl)) rfl<|l_p (po_lt (.t rfl) (.t rfl)) rfl<|l_p (po_mov (.t rfl)) rfl<|l_jn 9 (fun (b11 : Bool) (e12 : Unit) => [(6, rd kInt 0), (7, rd kBool false), (35, rd kInt s2.1), (48, rd kBool b11)]) (fun (b11 : Bool) (e12 : Unit) => []) (fun k10 => ?_) (fun b11 e12 => ?_)
    · refine l_if (fun h13 => ?_) (fun h13 => ?_)
      · exact l_po ⟨_, rfl, _, rfl, h13⟩ (po_mov (.t rfl)) rfl<|l_po ⟨_, rfl, _, rfl, h13⟩ (po_mov (.t rfl)) rfl<|l_po ⟨_, rfl, _, rfl, h13⟩ (po_mov (.t rfl)) rfl<|l_bind fun u15 h14 => l_po ⟨_, rfl, _, rfl, h13⟩ (po_ia (.t rfl) (.t rfl) h14 sl103) rfl<|l_po ⟨_, rfl, _, rfl, h13⟩ (po_la (.t rfl) ty165) rfl<|l_po ⟨_, rfl, _, rfl, h13⟩ (po_mov (.t rfl)) rfl<|l_callvg (u15, a1) ⟨_, rfl, _, rfl, h13⟩ (.t rfl) ⟨(.t rfl), (.t rfl), trivial⟩ rfl fun r16 h17 => l_po ⟨_, rfl, _, rfl, h13⟩ (po_eq (.t rfl) (ev_i _)) rfl<|l_p (po_pickt (t := rd kBool (r16 == 0)) (.t rfl) h13 (.t rfl)) rfl<|l_nil<|x_mid ((r16 == 0), ()) rfl ⟨rfl, rfl, rfl, rfl, trivial⟩ (.nil _)
      · exact l_skipn 8 4 true ⟨_, rfl, _, rfl, ne_t h13⟩ rfl<|l_p (po_pickf (t := rd kBool false) (.t rfl) h13 (.b _)) rfl<|l_nil<|x_mid (false, ()) rfl ⟨rfl, rfl, rfl, rfl, trivial⟩ (.nil _)
    · exact l_p (po_asg (.t rfl)) rfl<|l_p (po_asg (.t rfl)) rfl<|l_nil<|x_tn<|c_ret<|x_retn rfl rfl rfl ⟨(.t rfl), (.t rfl), trivial⟩
noncomputable def tree_at_1 (a0 : File) (a1 : Int) : Option Int :=
  some (IntKind.wrap .i64 ((File.iD a0) - a1))
theorem c_tree_at_1 (a0 : File) (a1 : Int) : Ct Tryz.prog 279 [rd kFile a0, rd kInt a1] (tree_at_1 a0 a1) (fun r => rd kInt r) := by
  unfold tree_at_1
  exact enter Tryz.func279 rfl Tryz.ntmps279 rfl (by kernel_rfl) fun z => c_seq<|c_reg<|l_box (.t rfl) rfl fun g1 => l_p (po_asg (ev_i _)) rfl<|l_nil<|x_tn<|c_seq<|c_reg<|l_p (po_fo (.t rfl) fs165_0) rfl<|l_p (po_lo 0 (.t rfl) rfl F_File_iD ty3) rfl<|l_p (po_mov (.t rfl)) rfl<|l_p (po_sub (.t rfl) (.t rfl)) rfl<|l_p (po_asg (.t rfl)) rfl<|l_nil<|x_tn<|c_ret<|x_ret1 rfl (.t rfl)
noncomputable def name_letter (a0 : Int) : Option Bool :=
  jn (fun (b2 : Bool) => jn (fun (b6 : Bool) => jn (fun (b14 : Bool) => jn (fun (b18 : Bool) => jn (fun (b22 : Bool) => some b22) (fun k21 => if b18 = true then (k21 true) else (k21 (a0 == 45)))) (fun k17 => if b14 = true then (k17 true) else (k17 (a0 == 95)))) (fun k13 => if b6 = true then (k13 true) else (k13 (a0 == 46)))) (fun k5 => if b2 = true then (k5 true) else (jn (fun (b10 : Bool) => k5 b10) (fun k9 => if (decide (a0 ≥ 48)) = true then (k9 (decide (a0 ≤ 57))) else (k9 false))))) (fun k1 => if (decide (a0 ≥ 97)) = true then (k1 (decide (a0 ≤ 122))) else (k1 false))
theorem c_name_letter (a0 : Int) : Ct Tryz.prog 280 [rd kByte a0] (name_letter a0) (fun r => rd kBool r) := by
  unfold name_letter
  refine enter Tryz.func280 rfl Tryz.ntmps280 rfl (by kernel_rfl) fun z => c_seq<|c_reg<|l_p (po_asg (.b _)) rfl<|l_nil<|x_tn<|c_seq<|c_reg<|l_p (po_mov (.t rfl)) rfl<|l_p (po_ge (.t rfl) (ev_y _)) rfl<|l_p (po_mov (.t rfl)) rfl<|l_jn 3 (fun (b2 : Bool) (e3 : Unit) => [(0, rd kByte a0), (2, rd kBool false), (8, rd kBool b2)]) (fun (b2 : Bool) (e3 : Unit) => []) (fun k1 => ?_) (fun b2 e3 => ?_)
  · refine l_if (fun h4 => ?_) (fun h4 => ?_)
    · exact l_po ⟨_, rfl, _, rfl, h4⟩ (po_mov (.t rfl)) rfl<|l_po ⟨_, rfl, _, rfl, h4⟩ (po_le (.t rfl) (ev_y _)) rfl<|l_p (po_pickt (t := rd kBool (decide (a0 ≤ 122))) (.t rfl) h4 (.t rfl)) rfl<|l_nil<|x_mid ((decide (a0 ≤ 122)), ()) rfl ⟨rfl, rfl, rfl, trivial⟩ (.nil _)
    · exact l_skipn 2 2 true ⟨_, rfl, _, rfl, ne_t h4⟩ rfl<|l_p (po_pickf (t := rd kBool false) (.t rfl) h4 (.b _)) rfl<|l_nil<|x_mid (false, ()) rfl ⟨rfl, rfl, rfl, trivial⟩ (.nil _)
  · refine l_p (po_mov (.t rfl)) rfl<|l_jn 7 (fun (b6 : Bool) (e7 : Unit) => [(0, rd kByte a0), (2, rd kBool false), (16, rd kBool b6)]) (fun (b6 : Bool) (e7 : Unit) => []) (fun k5 => ?_) (fun b6 e7 => ?_)
    · refine l_if (fun h8 => ?_) (fun h8 => ?_)
      · exact l_skipn 6 6 false ⟨_, rfl, _, rfl, ne_f h8⟩ rfl<|l_p (po_pickt (t := rd kBool true) (.t rfl) h8 (.b _)) rfl<|l_nil<|x_mid (true, ()) rfl ⟨rfl, rfl, rfl, trivial⟩ (.nil _)
      · refine l_po ⟨_, rfl, _, rfl, h8⟩ (po_mov (.t rfl)) rfl<|l_po ⟨_, rfl, _, rfl, h8⟩ (po_ge (.t rfl) (ev_y _)) rfl<|l_po ⟨_, rfl, _, rfl, h8⟩ (po_mov (.t rfl)) rfl<|l_jn 3 (fun (b10 : Bool) (e11 : Unit) => [(0, rd kByte a0), (2, rd kBool false), (9, rd kBool b2), (15, rd kBool b10)]) (fun (b10 : Bool) (e11 : Unit) => []) (fun k9 => ?_) (fun b10 e11 => ?_)
        · refine l_if (fun h12 => ?_) (fun h12 => ?_)
          · exact l_po ⟨_, rfl, _, rfl, h12⟩ (po_mov (.t rfl)) rfl<|l_po ⟨_, rfl, _, rfl, h12⟩ (po_le (.t rfl) (ev_y _)) rfl<|l_po ⟨_, rfl, _, rfl, h8⟩ (po_pickt (t := rd kBool (decide (a0 ≤ 57))) (.t rfl) h12 (.t rfl)) rfl<|l_nil<|x_mid ((decide (a0 ≤ 57)), ()) rfl ⟨rfl, rfl, rfl, rfl, trivial⟩ (.nil _)
          · exact l_skipn 2 9 true ⟨_, rfl, _, rfl, ne_t h12⟩ rfl<|l_po ⟨_, rfl, _, rfl, h8⟩ (po_pickf (t := rd kBool false) (.t rfl) h12 (.b _)) rfl<|l_nil<|x_mid (false, ()) rfl ⟨rfl, rfl, rfl, rfl, trivial⟩ (.nil _)
        · exact l_p (po_pickf (t := rd kBool b10) (.t rfl) h8 (.t rfl)) rfl<|l_nil<|x_mid (b10, ()) rfl ⟨rfl, rfl, rfl, trivial⟩ (.nil _)
    · refine l_p (po_mov (.t rfl)) rfl<|l_jn 3 (fun (b14 : Bool) (e15 : Unit) => [(0, rd kByte a0), (2, rd kBool false), (20, rd kBool b14)]) (fun (b14 : Bool) (e15 : Unit) => []) (fun k13 => ?_) (fun b14 e15 => ?_)
      · refine l_if (fun h16 => ?_) (fun h16 => ?_)
        · exact l_skipn 2 14 false ⟨_, rfl, _, rfl, ne_f h16⟩ rfl<|l_p (po_pickt (t := rd kBool true) (.t rfl) h16 (.b _)) rfl<|l_nil<|x_mid (true, ()) rfl ⟨rfl, rfl, rfl, trivial⟩ (.nil _)
        · exact l_po ⟨_, rfl, _, rfl, h16⟩ (po_mov (.t rfl)) rfl<|l_po ⟨_, rfl, _, rfl, h16⟩ (po_eq (.t rfl) (ev_y _)) rfl<|l_p (po_pickf (t := rd kBool (a0 == 46)) (.t rfl) h16 (.t rfl)) rfl<|l_nil<|x_mid ((a0 == 46), ()) rfl ⟨rfl, rfl, rfl, trivial⟩ (.nil _)
      · refine l_p (po_mov (.t rfl)) rfl<|l_jn 3 (fun (b18 : Bool) (e19 : Unit) => [(0, rd kByte a0), (2, rd kBool false), (24, rd kBool b18)]) (fun (b18 : Bool) (e19 : Unit) => []) (fun k17 => ?_) (fun b18 e19 => ?_)
        · refine l_if (fun h20 => ?_) (fun h20 => ?_)
          · exact l_skipn 2 18 false ⟨_, rfl, _, rfl, ne_f h20⟩ rfl<|l_p (po_pickt (t := rd kBool true) (.t rfl) h20 (.b _)) rfl<|l_nil<|x_mid (true, ()) rfl ⟨rfl, rfl, rfl, trivial⟩ (.nil _)
          · exact l_po ⟨_, rfl, _, rfl, h20⟩ (po_mov (.t rfl)) rfl<|l_po ⟨_, rfl, _, rfl, h20⟩ (po_eq (.t rfl) (ev_y _)) rfl<|l_p (po_pickf (t := rd kBool (a0 == 95)) (.t rfl) h20 (.t rfl)) rfl<|l_nil<|x_mid ((a0 == 95), ()) rfl ⟨rfl, rfl, rfl, trivial⟩ (.nil _)
        · refine l_p (po_mov (.t rfl)) rfl<|l_jn 3 (fun (b22 : Bool) (e23 : Unit) => [(2, rd kBool false), (28, rd kBool b22)]) (fun (b22 : Bool) (e23 : Unit) => []) (fun k21 => ?_) (fun b22 e23 => ?_)
          · refine l_if (fun h24 => ?_) (fun h24 => ?_)
            · exact l_skipn 2 22 false ⟨_, rfl, _, rfl, ne_f h24⟩ rfl<|l_p (po_pickt (t := rd kBool true) (.t rfl) h24 (.b _)) rfl<|l_nil<|x_mid (true, ()) rfl ⟨rfl, rfl, trivial⟩ (.nil _)
            · exact l_po ⟨_, rfl, _, rfl, h24⟩ (po_mov (.t rfl)) rfl<|l_po ⟨_, rfl, _, rfl, h24⟩ (po_eq (.t rfl) (ev_y _)) rfl<|l_p (po_pickf (t := rd kBool (a0 == 45)) (.t rfl) h24 (.t rfl)) rfl<|l_nil<|x_mid ((a0 == 45), ()) rfl ⟨rfl, rfl, trivial⟩ (.nil _)
          · exact l_p (po_asg (.t rfl)) rfl<|l_nil<|x_tn<|c_ret<|x_ret1 rfl (.t rfl)
noncomputable def tree_count (a0 : Vol) (a1 : Int) : Option Int :=
  rep (fun (s3 : (Int × Int)) k2 => if (decide (s3.2 < ((Vol.files a0).length : Int))) = true then ((at? (Vol.files a0) s3.2).bind (fun u7 => rep (fun (s10 : (Int × Int)) k9 => if (decide (s10.2 < ((File.list u7).length : Int))) = true then (jn (fun (s14 : Int) => k9 (s14, (IntKind.wrap .i64 (s10.2 + 1)))) (fun k13 => (at? (File.list u7) s10.2).bind (fun u17 => if ((Link.iD u17) == a1) = true then (k13 (IntKind.wrap .i64 (s10.1 + 1))) else (k13 s10.1)))) else (k2 (s10.1, (IntKind.wrap .i64 (s3.2 + 1))))) FUEL (s3.1, 0))) else (some s3.1)) FUEL (0, 0)
theorem c_tree_count (a0 : Vol) (a1 : Int) : Ct Tryz.prog 240 [rd kVol a0, rd kInt a1] (tree_count a0 a1) (fun r => rd kInt r) := by
  unfold tree_count
  refine enter Tryz.func240 rfl Tryz.ntmps240 rfl (by kernel_rfl) fun z => c_seq<|c_reg<|l_box (.t rfl) rfl fun g1 => l_p (po_asg (ev_i _)) rfl<|l_nil<|x_tn<|c_seq<|c_reg<|l_p (po_asg (ev_i _)) rfl<|l_nil<|x_tn<|c_seq<|c_seq<|c_reg<|l_p (po_fo (.t rfl) fs105_3) rfl<|l_p (po_lo 0 (.t rfl) rfl F_Vol_files ty103) rfl<|l_p (po_len (ty := 0) (.t rfl) sl103) rfl<|l_p (po_mov (ev_i _)) rfl<|l_nil<|x_tn<|c_blk<|c_loop (fun (s3 : (Int × Int)) (e4 : Unit) => [(1, rd kInt a1), (4, rd kInt 0), (5, rd kInt s3.1), (11, rd (kSl kFile) (Vol.files a0)), (12, rd kInt ((Vol.files a0).length : Int)), (13, rd kInt s3.2)]) (fun (s3 : (Int × Int)) (e4 : Unit) => []) () ⟨rfl, rfl, rfl, rfl, rfl, rfl, trivial⟩ (.nil _) fun s3 e4 k2 => c_seq<|c_reg<|l_p (po_lt (.t rfl) (.t rfl)) rfl<|l_nil<|x_tn<|c_seq<|c_if rfl (fun h5 => ?_) (fun h5 => ?_)
  · refine c_skip<|x_tn<|c_seq<|c_blk<|c_seq<|c_reg<|l_bind fun u7 h6 => l_p (po_ia (.t rfl) (.t rfl) h6 sl103) rfl<|l_p (po_la (.t rfl) ty165) rfl<|l_new kFile tz165 rfl fun g8 => l_st 0 (.t rfl) (.t rfl) rfl (Fld.me _) ty165<|l_nil<|x_tn<|c_seq<|c_reg<|l_p (po_fo (.t rfl) fs165_4) rfl<|l_p (po_lo 0 (.t rfl) rfl F_File_list ty163) rfl<|l_p (po_len (ty := 0) (.t rfl) sl163) rfl<|l_p (po_mov (ev_i _)) rfl<|l_nil<|x_tn<|c_blk<|c_loop (fun (s10 : (Int × Int)) (e11 : Unit) => [(1, rd kInt a1), (4, rd kInt 0), (5, rd kInt s10.1), (11, rd (kSl kFile) (Vol.files a0)), (12, rd kInt ((Vol.files a0).length : Int)), (13, rd kInt s3.2), (18, rd (kSl kLink) (File.list u7)), (19, rd kInt ((File.list u7).length : Int)), (20, rd kInt s10.2)]) (fun (s10 : (Int × Int)) (e11 : Unit) => []) () ⟨rfl, rfl, rfl, rfl, rfl, rfl, rfl, rfl, rfl, trivial⟩ (.nil _) fun s10 e11 k9 => c_seq<|c_reg<|l_p (po_lt (.t rfl) (.t rfl)) rfl<|l_nil<|x_tn<|c_seq<|c_if rfl (fun h12 => ?_) (fun h12 => ?_)
    · refine c_skip<|x_tn<|c_jn (fun (s14 : Int) (e15 : Unit) => [(1, rd kInt a1), (4, rd kInt 0), (11, rd (kSl kFile) (Vol.files a0)), (12, rd kInt ((Vol.files a0).length : Int)), (13, rd kInt s3.2), (18, rd (kSl kLink) (File.list u7)), (19, rd kInt ((File.list u7).length : Int)), (20, rd kInt s10.2), (5, rd kInt s14)]) (fun (s14 : Int) (e15 : Unit) => []) (fun k13 => ?_) (fun s14 e15 => ?_)
      · refine c_blk<|c_seq<|c_reg<|l_bind fun u17 h16 => l_p (po_ia (.t rfl) (.t rfl) h16 sl163) rfl<|l_p (po_la (.t rfl) ty169) rfl<|l_new kLink tz169 rfl fun g18 => l_st 0 (.t rfl) (.t rfl) rfl (Fld.me _) ty169<|l_nil<|x_tn<|c_seq<|c_reg<|l_p (po_fo (.t rfl) fs169_1) rfl<|l_p (po_lo 0 (.t rfl) rfl F_Link_iD ty3) rfl<|l_p (po_mov (.t rfl)) rfl<|l_p (po_eq (.t rfl) (.t rfl)) rfl<|l_nil<|x_tn<|c_if rfl (fun h19 => ?_) (fun h19 => ?_)
        · exact c_reg<|l_p (po_mov (.t rfl)) rfl<|l_p (po_add (.t rfl) (ev_i _)) rfl<|l_p (po_asg (.t rfl)) rfl<|l_nil<|x_bn<|x_mid ((IntKind.wrap .i64 (s10.1 + 1)), ()) rfl ⟨rfl, rfl, rfl, rfl, rfl, rfl, rfl, rfl, rfl, trivial⟩ (.nil _)
        · exact c_skip<|x_bn<|x_mid (s10.1, ()) rfl ⟨rfl, rfl, rfl, rfl, rfl, rfl, rfl, rfl, rfl, trivial⟩ (.nil _)
      · exact c_reg<|l_p (po_add (.t rfl) (ev_i _)) rfl<|l_p (po_mov (.t rfl)) rfl<|l_nil<|x_mid ((s14, (IntKind.wrap .i64 (s10.2 + 1))), ()) rfl ⟨rfl, rfl, rfl, rfl, rfl, rfl, rfl, rfl, rfl, trivial⟩ (.nil _)
    · exact c_exit<|x_te<|x_me<|x_be<|x_bn<|x_tn<|c_reg<|l_p (po_add (.t rfl) (ev_i _)) rfl<|l_p (po_mov (.t rfl)) rfl<|l_nil<|x_mid ((s10.1, (IntKind.wrap .i64 (s3.2 + 1))), ()) rfl ⟨rfl, rfl, rfl, rfl, rfl, rfl, trivial⟩ (.nil _)
  · exact c_exit<|x_te<|x_me<|x_be<|x_tn<|c_seq<|c_reg<|l_p (po_mov (.t rfl)) rfl<|l_p (po_asg (.t rfl)) rfl<|l_nil<|x_tn<|c_ret<|x_ret1 rfl (.t rfl)
noncomputable def slices_BinarySearchFunc_216 (a0 : (List Vol)) (a1 : Int) (a2 : ((Vol × Int) → Option Int)) : Option (Int × Bool) :=
  rep (fun (s2 : (Int × Int)) k1 => if (decide (s2.1 < s2.2)) = true then ((at? a0 (IntKind.wrap .i64 (bShr .u64 (IntKind.wrap .u64 (IntKind.wrap .i64 (s2.1 + s2.2))) 1))).bind (fun u6 => (a2 (u6, a1)).bind (fun r7 => if (decide (r7 < 0)) = true then (k1 ((IntKind.wrap .i64 ((IntKind.wrap .i64 (bShr .u64 (IntKind.wrap .u64 (IntKind.wrap .i64 (s2.1 + s2.2))) 1)) + 1)), s2.2)) else (k1 (s2.1, (IntKind.wrap .i64 (bShr .u64 (IntKind.wrap .u64 (IntKind.wrap .i64 (s2.1 + s2.2))) 1))))))) else (jn (fun (b11 : Bool) => some (s2.1, b11)) (fun k10 => if (decide (s2.1 < (a0.length : Int))) = true then ((at? a0 s2.1).bind (fun u15 => (a2 (u15, a1)).bind (fun r16 => k10 (r16 == 0)))) else (k10 false)))) FUEL (0, (a0.length : Int))
theorem c_slices_BinarySearchFunc_216 (a0 : (List Vol)) (a1 : Int) (a2 : ((Vol × Int) → Option Int)) : Ct Tryz.prog 216 [rd (kSl kVol) a0, rd kInt a1, fnv Tryz.prog (fun (x : (Vol × Int)) => [rd kVol x.1, rd kInt x.2]) a2 (fun r => rd kInt r)] (slices_BinarySearchFunc_216 a0 a1 a2) (fun r => tup [rd kInt r.1, rd kBool r.2]) := by
  unfold slices_BinarySearchFunc_216
  refine enter Tryz.func216 rfl Tryz.ntmps216 rfl (by kernel_rfl) fun z => c_seq<|c_reg<|l_p (po_asg (ev_i _)) rfl<|l_p (po_asg (.b _)) rfl<|l_nil<|x_tn<|c_seq<|c_reg<|l_p (po_mov (.t rfl)) rfl<|l_p (po_len (ty := 0) (.t rfl) sl29) rfl<|l_p (po_asg (.t rfl)) rfl<|l_nil<|x_tn<|c_seq<|c_reg<|l_p (po_mov (.t rfl)) rfl<|l_p (po_asg (ev_i _)) rfl<|l_p (po_asg (.t rfl)) rfl<|l_nil<|x_tn<|c_seq<|c_blk<|c_loop (fun (s2 : (Int × Int)) (e3 : Unit) => [(0, rd (kSl kVol) a0), (1, rd kInt a1), (2, fnv Tryz.prog (fun (x : (Vol × Int)) => [rd kVol x.1, rd kInt x.2]) a2 (fun r => rd kInt r)), (6, rd kInt 0), (7, rd kBool false), (8, rd kInt (a0.length : Int)), (9, rd kInt s2.1), (10, rd kInt s2.2)]) (fun (s2 : (Int × Int)) (e3 : Unit) => []) () ⟨rfl, rfl, rfl, rfl, rfl, rfl, rfl, rfl, trivial⟩ (.nil _) fun s2 e3 k1 => c_seq<|c_seq<|c_reg<|l_p (po_mov (.t rfl)) rfl<|l_p (po_mov (.t rfl)) rfl<|l_p (po_lt (.t rfl) (.t rfl)) rfl<|l_nil<|x_tn<|c_if rfl (fun h4 => ?_) (fun h4 => ?_)
  · refine c_skip<|x_tn<|c_blk<|c_seq<|c_reg<|l_p (po_mov (.t rfl)) rfl<|l_p (po_mov (.t rfl)) rfl<|l_p (po_add (.t rfl) (.t rfl)) rfl<|l_p (po_cv (b2 := 8) (lo2 := 0) (hi2 := 18446744073709551615) (.t rfl) un3 un100) rfl<|l_p (po_shr (.t rfl) (ev_u _) (by decide)) rfl<|l_p (po_cv (b2 := 8) (lo2 := -9223372036854775808) (hi2 := 9223372036854775807) (.t rfl) un100 un3) rfl<|l_p (po_asg (.t rfl)) rfl<|l_nil<|x_tn<|c_seq<|c_reg<|l_p (po_mov (.t rfl)) rfl<|l_p (po_mov (.t rfl)) rfl<|l_p (po_mov (.t rfl)) rfl<|l_bind fun u6 h5 => l_p (po_ia (.t rfl) (.t rfl) h5 sl29) rfl<|l_p (po_la (.t rfl) ty105) rfl<|l_p (po_mov (.t rfl)) rfl<|l_callv (u6, a1) (.t rfl) ⟨(.t rfl), (.t rfl), trivial⟩ rfl fun r7 h8 => l_p (po_lt (.t rfl) (ev_i _)) rfl<|l_nil<|x_tn<|c_if rfl (fun h9 => ?_) (fun h9 => ?_)
    · exact c_reg<|l_p (po_mov (.t rfl)) rfl<|l_p (po_add (.t rfl) (ev_i _)) rfl<|l_p (po_asg (.t rfl)) rfl<|l_nil<|x_bn<|x_mid (((IntKind.wrap .i64 ((IntKind.wrap .i64 (bShr .u64 (IntKind.wrap .u64 (IntKind.wrap .i64 (s2.1 + s2.2))) 1)) + 1)), s2.2), ()) rfl ⟨rfl, rfl, rfl, rfl, rfl, rfl, rfl, rfl, trivial⟩ (.nil _)
    · exact c_reg<|l_p (po_mov (.t rfl)) rfl<|l_p (po_asg (.t rfl)) rfl<|l_nil<|x_bn<|x_mid ((s2.1, (IntKind.wrap .i64 (bShr .u64 (IntKind.wrap .u64 (IntKind.wrap .i64 (s2.1 + s2.2))) 1))), ()) rfl ⟨rfl, rfl, rfl, rfl, rfl, rfl, rfl, rfl, trivial⟩ (.nil _)
  · refine c_exit<|x_te<|x_me<|x_be<|x_tn<|c_seq<|c_reg<|l_p (po_mov (.t rfl)) rfl<|l_p (po_mov (.t rfl)) rfl<|l_p (po_mov (.t rfl)) rfl<|l_p (po_lt (.t rfl) (.t rfl)) rfl<|l_p (po_mov (.t rfl)) rfl<|l_jn 9 (fun (b11 : Bool) (e12 : Unit) => [(6, rd kInt 0), (7, rd kBool false), (35, rd kInt s2.1), (48, rd kBool b11)]) (fun (b11 : Bool) (e12 : Unit) => []) (fun k10 => ?_) (fun b11 e12 => ?_)
    · refine l_if (fun h13 => ?_) (fun h13 => ?_)
      · exact l_po ⟨_, rfl, _, rfl, h13⟩ (po_mov (.t rfl)) rfl<|l_po ⟨_, rfl, _, rfl, h13⟩ (po_mov (.t rfl)) rfl<|l_po ⟨_, rfl, _, rfl, h13⟩ (po_mov (.t rfl)) rfl<|l_bind fun u15 h14 => l_po ⟨_, rfl, _, rfl, h13⟩ (po_ia (.t rfl) (.t rfl) h14 sl29) rfl<|l_po ⟨_, rfl, _, rfl, h13⟩ (po_la (.t rfl) ty105) rfl<|l_po ⟨_, rfl, _, rfl, h13⟩ (po_mov (.t rfl)) rfl<|l_callvg (u15, a1) ⟨_, rfl, _, rfl, h13⟩ (.t rfl) ⟨(.t rfl), (.t rfl), trivial⟩ rfl fun r16 h17 => l_po ⟨_, rfl, _, rfl, h13⟩ (po_eq (.t rfl) (ev_i _)) rfl<|l_p (po_pickt (t := rd kBool (r16 == 0)) (.t rfl) h13 (.t rfl)) rfl<|l_nil<|x_mid ((r16 == 0), ()) rfl ⟨rfl, rfl, rfl, rfl, trivial⟩ (.nil _)
      · exact l_skipn 8 4 true ⟨_, rfl, _, rfl, ne_t h13⟩ rfl<|l_p (po_pickf (t := rd kBool false) (.t rfl) h13 (.b _)) rfl<|l_nil<|x_mid (false, ()) rfl ⟨rfl, rfl, rfl, rfl, trivial⟩ (.nil _)
    · exact l_p (po_asg (.t rfl)) rfl<|l_p (po_asg (.t rfl)) rfl<|l_nil<|x_tn<|c_ret<|x_retn rfl rfl rfl ⟨(.t rfl), (.t rfl), trivial⟩
noncomputable def vol_At_1 (a0 : Vol) (a1 : Int) : Option Int :=
  some (IntKind.wrap .i64 ((Vol.iD a0) - a1))
theorem c_vol_At_1 (a0 : Vol) (a1 : Int) : Ct Tryz.prog 217 [rd kVol a0, rd kInt a1] (vol_At_1 a0 a1) (fun r => rd kInt r) := by
  unfold vol_At_1
  exact enter Tryz.func217 rfl Tryz.ntmps217 rfl (by kernel_rfl) fun z => c_seq<|c_reg<|l_box (.t rfl) rfl fun g1 => l_p (po_asg (ev_i _)) rfl<|l_nil<|x_tn<|c_seq<|c_reg<|l_p (po_fo (.t rfl) fs105_0) rfl<|l_p (po_lo 0 (.t rfl) rfl F_Vol_iD ty3) rfl<|l_p (po_mov (.t rfl)) rfl<|l_p (po_sub (.t rfl) (.t rfl)) rfl<|l_p (po_asg (.t rfl)) rfl<|l_nil<|x_tn<|c_ret<|x_ret1 rfl (.t rfl)
noncomputable def body_Is (a0 : ByteArray) : Option Bool :=
  some ((a0.size : Int) == 32)
theorem c_body_Is (a0 : ByteArray) : Ct Tryz.prog 50 [rd kStr a0] (body_Is a0) (fun r => rd kBool r) := by
  unfold body_Is
  exact enter Tryz.func50 rfl Tryz.ntmps50 rfl (by kernel_rfl) fun z => c_seq<|c_reg<|l_p (po_asg (.b _)) rfl<|l_nil<|x_tn<|c_seq<|c_reg<|l_p (po_mov (.t rfl)) rfl<|l_p (po_lens (.t rfl) un9) rfl<|l_p (po_eq (.t rfl) (ev_i _)) rfl<|l_p (po_asg (.t rfl)) rfl<|l_nil<|x_tn<|c_ret<|x_ret1 rfl (.t rfl)
noncomputable def whole_IDs (a0 : (List Block)) : Option (List Int) :=
  lfold (fun (i4 : Int) (x5 : Block) (s2 : (List Int)) k1 => (app s2 [(Block.iD x5)]).bind (fun u8 => k1 u8)) (fun (s2 : (List Int)) => some s2) 0 a0 []
theorem c_whole_IDs (a0 : (List Block)) : Ct Tryz.prog 108 [rd (kSl kBlock) a0] (whole_IDs a0) (fun r => rd (kSl kInt) r) := by
  unfold whole_IDs
  refine enter Tryz.func108 rfl Tryz.ntmps108 rfl (by kernel_rfl) fun z => c_seq<|c_reg<|l_rnil kInt 3 rfl rfl<|l_nil<|x_tn<|c_seq<|c_seq<|c_reg<|l_p (po_mov (.t rfl)) rfl<|l_p (po_len (ty := 0) (.t rfl) sl30) rfl<|l_p (po_mov (ev_i _)) rfl<|l_nil<|x_tn<|c_blk<|c_rng (tx := 5) (fun (s2 : (List Int)) (e3 : (Option Nat × Nat)) => [(2, row kInt s2 e3.1 e3.2)]) (fun (s2 : (List Int)) (e3 : (Option Nat × Nat)) => [(e3.1, rows kInt 3 s2 e3.2)]) (none, 0) ⟨rfl, trivial⟩ (.c (.nil _)) rfl rfl rfl ⟨rfl, rfl, rfl, rfl, rfl, rfl, rfl, rfl, rfl, rfl, rfl, rfl⟩ (fun _ _ => rfl) (fun i4 x5 s2 e3 k1 h6 => ?_) (fun s2 e3 => ?_)
  · exact c_seq<|c_reg<|l_p (po_ia (.t rfl) (.t rfl) (at_nat h6) sl30) rfl<|l_p (po_la (.t rfl) ty61) rfl<|l_new kBlock tz61 rfl fun g7 => l_st 0 (.t rfl) (.t rfl) rfl (Fld.me _) ty61<|l_nil<|x_tn<|c_reg<|l_p (po_mov (.t rfl)) rfl<|l_p (po_fo (.t rfl) fs61_0) rfl<|l_p (po_lo 0 (.t rfl) rfl F_Block_iD ty3) rfl<|l_bsl kInt sz24 rfl (.cons (.t rfl) (.nil _)) rfl<|l_app 1 (.t rfl) rfl (.t rfl) ap24 rfl fun u8 o9 c10 => l_p (po_asg (.t rfl)) rfl<|l_nil<|x_bn<|x_mid (u8, (o9, c10)) rfl ⟨rfl, rfl, rfl, rfl, trivial⟩ (.s (.c (.nil _)))
  · exact x_be<|x_tn<|c_seq<|c_reg<|l_p (po_mov (.t rfl)) rfl<|l_p (po_asg (.t rfl)) rfl<|l_nil<|x_tn<|c_ret<|x_frz 2 0 rfl rfl<|x_ret1 rfl (.t rfl)
end Go.Proofs.YtmnmcobpfpkibaaGreatDoor
namespace Go.Proofs.YtmnmcobpfpkibaaGreatDoor
open Go.RowKit
set_option linter.unusedVariables false
set_option maxRecDepth 20000
noncomputable def slices_Equal_109 (a0 : (List Int)) (a1 : (List Int)) : Option Bool :=
  if ((a0.length : Int) != (a1.length : Int)) = true then (some false) else (lfold (fun (i5 : Int) (x6 : Int) (s3 : Bool) k2 => (at? a1 i5).bind (fun u9 => if (x6 != u9) = true then (some false) else (k2 s3))) (fun (s3 : Bool) => some true) 0 a0 false)
theorem c_slices_Equal_109 (a0 : (List Int)) (a1 : (List Int)) : Ct Tryz.prog 109 [rd (kSl kInt) a0, rd (kSl kInt) a1] (slices_Equal_109 a0 a1) (fun r => rd kBool r) := by
  unfold slices_Equal_109
  refine enter Tryz.func109 rfl Tryz.ntmps109 rfl (by kernel_rfl) fun z => c_seq<|c_reg<|l_p (po_asg (.b _)) rfl<|l_nil<|x_tn<|c_seq<|c_seq<|c_reg<|l_p (po_mov (.t rfl)) rfl<|l_p (po_len (ty := 0) (.t rfl) sl24) rfl<|l_p (po_mov (.t rfl)) rfl<|l_p (po_len (ty := 0) (.t rfl) sl24) rfl<|l_p (po_ne (.t rfl) (.t rfl)) rfl<|l_nil<|x_tn<|c_if rfl (fun h1 => ?_) (fun h1 => ?_)
  · exact c_seq<|c_reg<|l_p (po_asg (.b _)) rfl<|l_nil<|x_tn<|c_ret<|x_tr<|x_ret1 rfl (.t rfl)
  · refine c_skip<|x_tn<|c_seq<|c_seq<|c_reg<|l_p (po_mov (.t rfl)) rfl<|l_p (po_len (ty := 0) (.t rfl) sl24) rfl<|l_p (po_mov (ev_i _)) rfl<|l_nil<|x_tn<|c_blk<|c_rng (tx := 0) (fun (s3 : Bool) (e4 : Unit) => [(1, rd (kSl kInt) a1), (4, rd kBool s3)]) (fun (s3 : Bool) (e4 : Unit) => []) () ⟨rfl, rfl, trivial⟩ (.nil _) rfl rfl rfl ⟨rfl, rfl, rfl, rfl, rfl, rfl, rfl, rfl, rfl, rfl, rfl, rfl⟩ (fun _ _ => rfl) (fun i5 x6 s3 e4 k2 h7 => ?_) (fun s3 e4 => ?_)
    · refine c_seq<|c_reg<|l_p (po_mov (.t rfl)) rfl<|l_p (po_asg (.t rfl)) rfl<|l_nil<|x_tn<|c_seq<|c_draw [0, 1, 2, 3, 4, 5, 6, 7, 8] [] [] (by kernel_rfl) (by kernel_rfl)<|w_p rfl rfl (po_mov (.t rfl)) rfl<|w_p rfl rfl (po_mov (.t rfl)) rfl<|w_p rfl rfl (po_ia (.t rfl) (.t rfl) (at_nat h7) sl24) rfl<|w_p rfl rfl (po_la (.t rfl) ty3) rfl<|w_p rfl rfl (po_mov (.t rfl)) rfl<|w_p rfl rfl (po_mov (.t rfl)) rfl<|w_bind fun u9 h8 => w_p rfl rfl (po_ia (.t rfl) (.t rfl) h8 sl24) rfl<|w_p rfl rfl (po_la (.t rfl) ty3) rfl<|w_p rfl rfl (po_ne (.t rfl) (.t rfl)) rfl<|w_nil<|x_tn<|c_if rfl (fun h10 => ?_) (fun h10 => ?_)
      · exact c_seq<|c_reg<|l_p (po_asg (.b _)) rfl<|l_nil<|x_tn<|c_ret<|x_br<|x_mr<|x_br<|x_tr<|x_ret1 rfl (.t rfl)
      · exact c_skip<|x_bn<|x_mid (s3, ()) rfl ⟨rfl, rfl, rfl, rfl, rfl, trivial⟩ (.nil _)
    · exact x_be<|x_tn<|c_seq<|c_reg<|l_p (po_asg (.b _)) rfl<|l_nil<|x_tn<|c_ret<|x_ret1 rfl (.t rfl)
noncomputable def reach_counts (a0 : (List Vol)) : Option (List (Int × Int)) :=
  lfold (fun (i5 : Int) (x6 : Vol) (s3 : (List (Int × Int))) k2 => rep (fun (s10 : (Int × (List (Int × Int)))) k9 => if (decide (s10.1 < ((Vol.files x6).length : Int))) = true then ((at? (Vol.files x6) s10.1).bind (fun u14 => rep (fun (s17 : (Int × (List (Int × Int)))) k16 => if (decide (s17.1 < ((File.blocks u14).length : Int))) = true then ((at? (File.blocks u14) s17.1).bind (fun u21 => k16 ((IntKind.wrap .i64 (s17.1 + 1)), (mset s17.2 u21 (IntKind.wrap .i64 (((mget s17.2 u21).getD kInt.z) + 1)))))) else (k9 ((IntKind.wrap .i64 (s10.1 + 1)), s17.2))) FUEL (0, s10.2))) else (k2 s10.2)) FUEL (0, s3)) (fun (s3 : (List (Int × Int))) => some s3) 0 a0 []
theorem c_reach_counts (a0 : (List Vol)) : Ct Tryz.prog 167 [rd (kSl kVol) a0] (reach_counts a0) (fun r => rd (kMap kInt) r) := by
  unfold reach_counts
  refine enter Tryz.func167 rfl Tryz.ntmps167 rfl (by kernel_rfl) fun z => c_seq<|c_reg<|l_p (po_asg (ev_mnil kInt)) rfl<|l_nil<|x_tn<|c_seq<|c_reg<|l_mkmap kInt rfl rfl fun g1 => l_p (po_asg (.t rfl)) rfl<|l_nil<|x_tn<|c_seq<|c_seq<|c_reg<|l_p (po_mov (.t rfl)) rfl<|l_p (po_len (ty := 0) (.t rfl) sl29) rfl<|l_p (po_mov (ev_i _)) rfl<|l_nil<|x_tn<|c_blk<|c_rng (tx := 11) (fun (s3 : (List (Int × Int))) (e4 : Unit) => [(2, rd (kMap kInt) []), (3, mown g1)]) (fun (s3 : (List (Int × Int))) (e4 : Unit) => [(some g1, mapx kInt s3)]) () ⟨rfl, rfl, trivial⟩ (.c (.nil _)) rfl rfl rfl ⟨rfl, rfl, rfl, rfl, rfl, rfl, rfl, rfl, rfl, rfl, rfl, rfl⟩ (fun _ _ => rfl) (fun i5 x6 s3 e4 k2 h7 => ?_) (fun s3 e4 => ?_)
  · refine c_seq<|c_reg<|l_p (po_ia (.t rfl) (.t rfl) (at_nat h7) sl29) rfl<|l_p (po_la (.t rfl) ty105) rfl<|l_new kVol tz105 rfl fun g8 => l_st 0 (.t rfl) (.t rfl) rfl (Fld.me _) ty105<|l_nil<|x_tn<|c_seq<|c_reg<|l_p (po_fo (.t rfl) fs105_3) rfl<|l_p (po_lo 0 (.t rfl) rfl F_Vol_files ty103) rfl<|l_p (po_len (ty := 0) (.t rfl) sl103) rfl<|l_p (po_mov (ev_i _)) rfl<|l_nil<|x_tn<|c_blk<|c_loop (fun (s10 : (Int × (List (Int × Int)))) (e11 : Unit) => [(13, rd kInt (i5 : Int)), (12, rd kInt (a0.length : Int)), (11, rd (kSl kVol) a0), (2, rd (kMap kInt) []), (3, mown g1), (18, rd (kSl kFile) (Vol.files x6)), (19, rd kInt ((Vol.files x6).length : Int)), (20, rd kInt s10.1)]) (fun (s10 : (Int × (List (Int × Int)))) (e11 : Unit) => [(some g1, mapx kInt s10.2)]) () ⟨rfl, rfl, rfl, rfl, rfl, rfl, rfl, rfl, trivial⟩ (.s (.c (.nil _))) fun s10 e11 k9 => c_seq<|c_reg<|l_p (po_lt (.t rfl) (.t rfl)) rfl<|l_nil<|x_tn<|c_seq<|c_if rfl (fun h12 => ?_) (fun h12 => ?_)
    · refine c_skip<|x_tn<|c_seq<|c_blk<|c_seq<|c_reg<|l_bind fun u14 h13 => l_p (po_ia (.t rfl) (.t rfl) h13 sl103) rfl<|l_p (po_la (.t rfl) ty165) rfl<|l_new kFile tz165 rfl fun g15 => l_st 0 (.t rfl) (.t rfl) rfl (Fld.me _) ty165<|l_nil<|x_tn<|c_seq<|c_reg<|l_p (po_fo (.t rfl) fs165_3) rfl<|l_p (po_lo 0 (.t rfl) rfl F_File_blocks ty24) rfl<|l_p (po_len (ty := 0) (.t rfl) sl24) rfl<|l_p (po_mov (ev_i _)) rfl<|l_nil<|x_tn<|c_blk<|c_loop (fun (s17 : (Int × (List (Int × Int)))) (e18 : Unit) => [(13, rd kInt (i5 : Int)), (12, rd kInt (a0.length : Int)), (11, rd (kSl kVol) a0), (2, rd (kMap kInt) []), (3, mown g1), (18, rd (kSl kFile) (Vol.files x6)), (19, rd kInt ((Vol.files x6).length : Int)), (20, rd kInt s10.1), (25, rd (kSl kInt) (File.blocks u14)), (26, rd kInt ((File.blocks u14).length : Int)), (27, rd kInt s17.1)]) (fun (s17 : (Int × (List (Int × Int)))) (e18 : Unit) => [(some g1, mapx kInt s17.2)]) () ⟨rfl, rfl, rfl, rfl, rfl, rfl, rfl, rfl, rfl, rfl, rfl, trivial⟩ (.s (.c (.nil _))) fun s17 e18 k16 => c_seq<|c_reg<|l_p (po_lt (.t rfl) (.t rfl)) rfl<|l_nil<|x_tn<|c_seq<|c_if rfl (fun h19 => ?_) (fun h19 => ?_)
      · exact c_skip<|x_tn<|c_seq<|c_blk<|c_seq<|c_reg<|l_bind fun u21 h20 => l_p (po_ia (.t rfl) (.t rfl) h20 sl24) rfl<|l_p (po_la (.t rfl) ty3) rfl<|l_p (po_asg (.t rfl)) rfl<|l_nil<|x_tn<|c_reg<|l_p (po_mov (.t rfl)) rfl<|l_p (po_mov (.t rfl)) rfl<|l_p (po_mlk 0 (.t rfl) rfl (.t rfl) ma232 tz3) rfl<|l_p (po_add (.t rfl) (ev_i _)) rfl<|l_mset 0 (.t rfl) (.t rfl) (.t rfl) rfl ma232<|l_nil<|x_bn<|x_tn<|c_reg<|l_p (po_add (.t rfl) (ev_i _)) rfl<|l_p (po_mov (.t rfl)) rfl<|l_nil<|x_mid (((IntKind.wrap .i64 (s17.1 + 1)), (mset s17.2 u21 (IntKind.wrap .i64 (((mget s17.2 u21).getD kInt.z) + 1)))), ()) rfl ⟨rfl, rfl, rfl, rfl, rfl, rfl, rfl, rfl, rfl, rfl, rfl, trivial⟩ (.c (.nil _))
      · exact c_exit<|x_te<|x_me<|x_be<|x_bn<|x_tn<|c_reg<|l_p (po_add (.t rfl) (ev_i _)) rfl<|l_p (po_mov (.t rfl)) rfl<|l_nil<|x_mid (((IntKind.wrap .i64 (s10.1 + 1)), s17.2), ()) rfl ⟨rfl, rfl, rfl, rfl, rfl, rfl, rfl, rfl, trivial⟩ (.c (.nil _))
    · exact c_exit<|x_te<|x_me<|x_be<|x_bn<|x_mid (s10.2, ()) rfl ⟨rfl, rfl, rfl, rfl, rfl, trivial⟩ (.c (.nil _))
  · exact x_be<|x_tn<|c_seq<|c_reg<|l_p (po_mov (.t rfl)) rfl<|l_p (po_asg (.t rfl)) rfl<|l_nil<|x_tn<|c_ret<|x_mfz 2 0 rfl rfl<|x_ret1 rfl (.t rfl)
noncomputable def slices_IndexFunc_221 (a0 : (List File)) (a1 : (File → Option Bool)) : Option Int :=
  lfold (fun (i4 : Int) (x5 : File) (s2 : Int) k1 => (a1 x5).bind (fun r7 => if r7 = true then (some i4) else (k1 s2))) (fun (s2 : Int) => some (-1)) 0 a0 0
theorem c_slices_IndexFunc_221 (a0 : (List File)) (a1 : (File → Option Bool)) : Ct Tryz.prog 221 [rd (kSl kFile) a0, fnv Tryz.prog (fun (x : File) => [rd kFile x]) a1 (fun r => rd kBool r)] (slices_IndexFunc_221 a0 a1) (fun r => rd kInt r) := by
  unfold slices_IndexFunc_221
  refine enter Tryz.func221 rfl Tryz.ntmps221 rfl (by kernel_rfl) fun z => c_seq<|c_reg<|l_p (po_asg (ev_i _)) rfl<|l_nil<|x_tn<|c_seq<|c_seq<|c_reg<|l_p (po_mov (.t rfl)) rfl<|l_p (po_len (ty := 0) (.t rfl) sl103) rfl<|l_p (po_mov (ev_i _)) rfl<|l_nil<|x_tn<|c_blk<|c_rng (tx := 0) (fun (s2 : Int) (e3 : Unit) => [(1, fnv Tryz.prog (fun (x : File) => [rd kFile x]) a1 (fun r => rd kBool r)), (4, rd kInt s2)]) (fun (s2 : Int) (e3 : Unit) => []) () ⟨rfl, rfl, trivial⟩ (.nil _) rfl rfl rfl ⟨rfl, rfl, rfl, rfl, rfl, rfl, rfl, rfl, rfl, rfl, rfl, rfl⟩ (fun _ _ => rfl) (fun i4 x5 s2 e3 k1 h6 => ?_) (fun s2 e3 => ?_)
  · refine c_seq<|c_reg<|l_p (po_mov (.t rfl)) rfl<|l_p (po_asg (.t rfl)) rfl<|l_nil<|x_tn<|c_seq<|c_reg<|l_p (po_mov (.t rfl)) rfl<|l_p (po_mov (.t rfl)) rfl<|l_p (po_mov (.t rfl)) rfl<|l_p (po_ia (.t rfl) (.t rfl) (at_nat h6) sl103) rfl<|l_p (po_la (.t rfl) ty165) rfl<|l_callv x5 (.t rfl) ⟨(.t rfl), trivial⟩ rfl fun r7 h8 => l_nil<|x_tn<|c_if rfl (fun h9 => ?_) (fun h9 => ?_)
    · exact c_seq<|c_reg<|l_p (po_mov (.t rfl)) rfl<|l_p (po_asg (.t rfl)) rfl<|l_nil<|x_tn<|c_ret<|x_br<|x_mr<|x_br<|x_tr<|x_ret1 rfl (.t rfl)
    · exact c_skip<|x_bn<|x_mid (s2, ()) rfl ⟨rfl, rfl, rfl, rfl, rfl, trivial⟩ (.nil _)
  · exact x_be<|x_tn<|c_seq<|c_reg<|l_p (po_asg (ev_i _)) rfl<|l_nil<|x_tn<|c_ret<|x_ret1 rfl (.t rfl)
noncomputable def slices_BinarySearchFunc_245 (a0 : (List Block)) (a1 : Int) (a2 : ((Block × Int) → Option Int)) : Option (Int × Bool) :=
  rep (fun (s2 : (Int × Int)) k1 => if (decide (s2.1 < s2.2)) = true then ((at? a0 (IntKind.wrap .i64 (bShr .u64 (IntKind.wrap .u64 (IntKind.wrap .i64 (s2.1 + s2.2))) 1))).bind (fun u6 => (a2 (u6, a1)).bind (fun r7 => if (decide (r7 < 0)) = true then (k1 ((IntKind.wrap .i64 ((IntKind.wrap .i64 (bShr .u64 (IntKind.wrap .u64 (IntKind.wrap .i64 (s2.1 + s2.2))) 1)) + 1)), s2.2)) else (k1 (s2.1, (IntKind.wrap .i64 (bShr .u64 (IntKind.wrap .u64 (IntKind.wrap .i64 (s2.1 + s2.2))) 1))))))) else (jn (fun (b11 : Bool) => some (s2.1, b11)) (fun k10 => if (decide (s2.1 < (a0.length : Int))) = true then ((at? a0 s2.1).bind (fun u15 => (a2 (u15, a1)).bind (fun r16 => k10 (r16 == 0)))) else (k10 false)))) FUEL (0, (a0.length : Int))
theorem c_slices_BinarySearchFunc_245 (a0 : (List Block)) (a1 : Int) (a2 : ((Block × Int) → Option Int)) : Ct Tryz.prog 245 [rd (kSl kBlock) a0, rd kInt a1, fnv Tryz.prog (fun (x : (Block × Int)) => [rd kBlock x.1, rd kInt x.2]) a2 (fun r => rd kInt r)] (slices_BinarySearchFunc_245 a0 a1 a2) (fun r => tup [rd kInt r.1, rd kBool r.2]) := by
  unfold slices_BinarySearchFunc_245
  refine enter Tryz.func245 rfl Tryz.ntmps245 rfl (by kernel_rfl) fun z => c_seq<|c_reg<|l_p (po_asg (ev_i _)) rfl<|l_p (po_asg (.b _)) rfl<|l_nil<|x_tn<|c_seq<|c_reg<|l_p (po_mov (.t rfl)) rfl<|l_p (po_len (ty := 0) (.t rfl) sl30) rfl<|l_p (po_asg (.t rfl)) rfl<|l_nil<|x_tn<|c_seq<|c_reg<|l_p (po_mov (.t rfl)) rfl<|l_p (po_asg (ev_i _)) rfl<|l_p (po_asg (.t rfl)) rfl<|l_nil<|x_tn<|c_seq<|c_blk<|c_loop (fun (s2 : (Int × Int)) (e3 : Unit) => [(0, rd (kSl kBlock) a0), (1, rd kInt a1), (2, fnv Tryz.prog (fun (x : (Block × Int)) => [rd kBlock x.1, rd kInt x.2]) a2 (fun r => rd kInt r)), (6, rd kInt 0), (7, rd kBool false), (8, rd kInt (a0.length : Int)), (9, rd kInt s2.1), (10, rd kInt s2.2)]) (fun (s2 : (Int × Int)) (e3 : Unit) => []) () ⟨rfl, rfl, rfl, rfl, rfl, rfl, rfl, rfl, trivial⟩ (.nil _) fun s2 e3 k1 => c_seq<|c_seq<|c_reg<|l_p (po_mov (.t rfl)) rfl<|l_p (po_mov (.t rfl)) rfl<|l_p (po_lt (.t rfl) (.t rfl)) rfl<|l_nil<|x_tn<|c_if rfl (fun h4 => ?_) (fun h4 => ?_)
  · refine c_skip<|x_tn<|c_blk<|c_seq<|c_reg<|l_p (po_mov (.t rfl)) rfl<|l_p (po_mov (.t rfl)) rfl<|l_p (po_add (.t rfl) (.t rfl)) rfl<|l_p (po_cv (b2 := 8) (lo2 := 0) (hi2 := 18446744073709551615) (.t rfl) un3 un100) rfl<|l_p (po_shr (.t rfl) (ev_u _) (by decide)) rfl<|l_p (po_cv (b2 := 8) (lo2 := -9223372036854775808) (hi2 := 9223372036854775807) (.t rfl) un100 un3) rfl<|l_p (po_asg (.t rfl)) rfl<|l_nil<|x_tn<|c_seq<|c_reg<|l_p (po_mov (.t rfl)) rfl<|l_p (po_mov (.t rfl)) rfl<|l_p (po_mov (.t rfl)) rfl<|l_bind fun u6 h5 => l_p (po_ia (.t rfl) (.t rfl) h5 sl30) rfl<|l_p (po_la (.t rfl) ty61) rfl<|l_p (po_mov (.t rfl)) rfl<|l_callv (u6, a1) (.t rfl) ⟨(.t rfl), (.t rfl), trivial⟩ rfl fun r7 h8 => l_p (po_lt (.t rfl) (ev_i _)) rfl<|l_nil<|x_tn<|c_if rfl (fun h9 => ?_) (fun h9 => ?_)
    · exact c_reg<|l_p (po_mov (.t rfl)) rfl<|l_p (po_add (.t rfl) (ev_i _)) rfl<|l_p (po_asg (.t rfl)) rfl<|l_nil<|x_bn<|x_mid (((IntKind.wrap .i64 ((IntKind.wrap .i64 (bShr .u64 (IntKind.wrap .u64 (IntKind.wrap .i64 (s2.1 + s2.2))) 1)) + 1)), s2.2), ()) rfl ⟨rfl, rfl, rfl, rfl, rfl, rfl, rfl, rfl, trivial⟩ (.nil _)
    · exact c_reg<|l_p (po_mov (.t rfl)) rfl<|l_p (po_asg (.t rfl)) rfl<|l_nil<|x_bn<|x_mid ((s2.1, (IntKind.wrap .i64 (bShr .u64 (IntKind.wrap .u64 (IntKind.wrap .i64 (s2.1 + s2.2))) 1))), ()) rfl ⟨rfl, rfl, rfl, rfl, rfl, rfl, rfl, rfl, trivial⟩ (.nil _)
  · refine c_exit<|x_te<|x_me<|x_be<|x_tn<|c_seq<|c_reg<|l_p (po_mov (.t rfl)) rfl<|l_p (po_mov (.t rfl)) rfl<|l_p (po_mov (.t rfl)) rfl<|l_p (po_lt (.t rfl) (.t rfl)) rfl<|l_p (po_mov (.t rfl)) rfl<|l_jn 9 (fun (b11 : Bool) (e12 : Unit) => [(6, rd kInt 0), (7, rd kBool false), (35, rd kInt s2.1), (48, rd kBool b11)]) (fun (b11 : Bool) (e12 : Unit) => []) (fun k10 => ?_) (fun b11 e12 => ?_)
    · refine l_if (fun h13 => ?_) (fun h13 => ?_)
      · exact l_po ⟨_, rfl, _, rfl, h13⟩ (po_mov (.t rfl)) rfl<|l_po ⟨_, rfl, _, rfl, h13⟩ (po_mov (.t rfl)) rfl<|l_po ⟨_, rfl, _, rfl, h13⟩ (po_mov (.t rfl)) rfl<|l_bind fun u15 h14 => l_po ⟨_, rfl, _, rfl, h13⟩ (po_ia (.t rfl) (.t rfl) h14 sl30) rfl<|l_po ⟨_, rfl, _, rfl, h13⟩ (po_la (.t rfl) ty61) rfl<|l_po ⟨_, rfl, _, rfl, h13⟩ (po_mov (.t rfl)) rfl<|l_callvg (u15, a1) ⟨_, rfl, _, rfl, h13⟩ (.t rfl) ⟨(.t rfl), (.t rfl), trivial⟩ rfl fun r16 h17 => l_po ⟨_, rfl, _, rfl, h13⟩ (po_eq (.t rfl) (ev_i _)) rfl<|l_p (po_pickt (t := rd kBool (r16 == 0)) (.t rfl) h13 (.t rfl)) rfl<|l_nil<|x_mid ((r16 == 0), ()) rfl ⟨rfl, rfl, rfl, rfl, trivial⟩ (.nil _)
      · exact l_skipn 8 4 true ⟨_, rfl, _, rfl, ne_t h13⟩ rfl<|l_p (po_pickf (t := rd kBool false) (.t rfl) h13 (.b _)) rfl<|l_nil<|x_mid (false, ()) rfl ⟨rfl, rfl, rfl, rfl, trivial⟩ (.nil _)
    · exact l_p (po_asg (.t rfl)) rfl<|l_p (po_asg (.t rfl)) rfl<|l_nil<|x_tn<|c_ret<|x_retn rfl rfl rfl ⟨(.t rfl), (.t rfl), trivial⟩
noncomputable def walk_Find_1 (a0 : Block) (a1 : Int) : Option Int :=
  if (decide ((Block.iD a0) < a1)) = true then (some (-1)) else (if (decide ((Block.iD a0) > a1)) = true then (some 1) else (some 0))
theorem c_walk_Find_1 (a0 : Block) (a1 : Int) : Ct Tryz.prog 246 [rd kBlock a0, rd kInt a1] (walk_Find_1 a0 a1) (fun r => rd kInt r) := by
  unfold walk_Find_1
  refine enter Tryz.func246 rfl Tryz.ntmps246 rfl (by kernel_rfl) fun z => c_seq<|c_reg<|l_box (.t rfl) rfl fun g1 => l_p (po_asg (ev_i _)) rfl<|l_nil<|x_tn<|c_seq<|c_blk<|c_seq<|c_reg<|l_p (po_fo (.t rfl) fs61_0) rfl<|l_p (po_lo 0 (.t rfl) rfl F_Block_iD ty3) rfl<|l_p (po_mov (.t rfl)) rfl<|l_p (po_lt (.t rfl) (.t rfl)) rfl<|l_p (po_asg (.t rfl)) rfl<|l_nil<|x_tn<|c_if rfl (fun h2 => ?_) (fun h2 => ?_)
  · exact c_seq<|c_reg<|l_p (po_asg (ev_i _)) rfl<|l_nil<|x_tn<|c_ret<|x_br<|x_tr<|x_ret1 rfl (.t rfl)
  · refine c_seq<|c_reg<|l_p (po_fo (.t rfl) fs61_0) rfl<|l_p (po_lo 0 (.t rfl) rfl F_Block_iD ty3) rfl<|l_p (po_mov (.t rfl)) rfl<|l_p (po_gt (.t rfl) (.t rfl)) rfl<|l_p (po_asg (.t rfl)) rfl<|l_nil<|x_tn<|c_if rfl (fun h3 => ?_) (fun h3 => ?_)
    · exact c_seq<|c_reg<|l_p (po_asg (ev_i _)) rfl<|l_nil<|x_tn<|c_ret<|x_br<|x_tr<|x_ret1 rfl (.t rfl)
    · exact c_skip<|x_bn<|x_tn<|c_seq<|c_reg<|l_p (po_asg (ev_i _)) rfl<|l_nil<|x_tn<|c_ret<|x_ret1 rfl (.t rfl)
noncomputable def strings_trimLeftByte (a0 : ByteArray) (a1 : Int) : Option ByteArray :=
  rep (fun (s2 : ByteArray) k1 => jn (fun (b5 : Bool) => if b5 = true then ((sSub s2 1 (s2.size : Int)).bind (fun u12 => k1 u12)) else (some s2)) (fun k4 => if (decide ((s2.size : Int) > 0)) = true then ((sAt s2 0).bind (fun u9 => k4 (u9 == a1))) else (k4 false))) FUEL a0
theorem c_strings_trimLeftByte (a0 : ByteArray) (a1 : Int) : Ct Tryz.prog 247 [rd kStr a0, rd kByte a1] (strings_trimLeftByte a0 a1) (fun r => rd kStr r) := by
  unfold strings_trimLeftByte
  refine enter Tryz.func247 rfl Tryz.ntmps247 rfl (by kernel_rfl) fun z => c_seq<|c_reg<|l_p (po_asg (.s _)) rfl<|l_nil<|x_tn<|c_seq<|c_blk<|c_loop (fun (s2 : ByteArray) (e3 : Unit) => [(0, rd kStr s2), (1, rd kByte a1), (4, rd kStr (ByteArray.mk #[]))]) (fun (s2 : ByteArray) (e3 : Unit) => []) () ⟨rfl, rfl, rfl, trivial⟩ (.nil _) fun s2 e3 k1 => c_seq<|c_seq<|c_reg<|l_p (po_mov (.t rfl)) rfl<|l_p (po_lens (.t rfl) un9) rfl<|l_p (po_gt (.t rfl) (ev_i _)) rfl<|l_p (po_mov (.t rfl)) rfl<|l_jn 5 (fun (b5 : Bool) (e6 : Unit) => [(0, rd kStr s2), (1, rd kByte a1), (4, rd kStr (ByteArray.mk #[])), (13, rd kBool b5)]) (fun (b5 : Bool) (e6 : Unit) => []) (fun k4 => ?_) (fun b5 e6 => ?_)
  · refine l_if (fun h7 => ?_) (fun h7 => ?_)
    · exact l_po ⟨_, rfl, _, rfl, h7⟩ (po_mov (.t rfl)) rfl<|l_bind fun u9 h8 => l_po ⟨_, rfl, _, rfl, h7⟩ (po_six (.t rfl) (ev_i _) h8 un9) rfl<|l_po ⟨_, rfl, _, rfl, h7⟩ (po_mov (.t rfl)) rfl<|l_po ⟨_, rfl, _, rfl, h7⟩ (po_eq (.t rfl) (.t rfl)) rfl<|l_p (po_pickt (t := rd kBool (u9 == a1)) (.t rfl) h7 (.t rfl)) rfl<|l_nil<|x_mid ((u9 == a1), ()) rfl ⟨rfl, rfl, rfl, rfl, trivial⟩ (.nil _)
    · exact l_skipn 4 3 true ⟨_, rfl, _, rfl, ne_t h7⟩ rfl<|l_p (po_pickf (t := rd kBool false) (.t rfl) h7 (.b _)) rfl<|l_nil<|x_mid (false, ()) rfl ⟨rfl, rfl, rfl, rfl, trivial⟩ (.nil _)
  · refine l_nil<|x_tn<|c_if rfl (fun h10 => ?_) (fun h10 => ?_)
    · exact c_skip<|x_tn<|c_blk<|c_reg<|l_p (po_mov (.t rfl)) rfl<|l_bind fun u12 h11 => l_p (po_ssub (.t rfl) (.so (ev_i _)) .no h11 un9) rfl<|l_p (po_asg (.t rfl)) rfl<|l_nil<|x_bn<|x_mid (u12, ()) rfl ⟨rfl, rfl, rfl, trivial⟩ (.nil _)
    · exact c_exit<|x_te<|x_me<|x_be<|x_tn<|c_seq<|c_reg<|l_p (po_mov (.t rfl)) rfl<|l_p (po_asg (.t rfl)) rfl<|l_nil<|x_tn<|c_ret<|x_ret1 rfl (.t rfl)
noncomputable def strings_trimRightByte (a0 : ByteArray) (a1 : Int) : Option ByteArray :=
  rep (fun (s2 : ByteArray) k1 => jn (fun (b5 : Bool) => if b5 = true then ((sSub s2 0 (IntKind.wrap .i64 ((s2.size : Int) - 1))).bind (fun u12 => k1 u12)) else (some s2)) (fun k4 => if (decide ((s2.size : Int) > 0)) = true then ((sAt s2 (IntKind.wrap .i64 ((s2.size : Int) - 1))).bind (fun u9 => k4 (u9 == a1))) else (k4 false))) FUEL a0
theorem c_strings_trimRightByte (a0 : ByteArray) (a1 : Int) : Ct Tryz.prog 248 [rd kStr a0, rd kByte a1] (strings_trimRightByte a0 a1) (fun r => rd kStr r) := by
  unfold strings_trimRightByte
  refine enter Tryz.func248 rfl Tryz.ntmps248 rfl (by kernel_rfl) fun z => c_seq<|c_reg<|l_p (po_asg (.s _)) rfl<|l_nil<|x_tn<|c_seq<|c_blk<|c_loop (fun (s2 : ByteArray) (e3 : Unit) => [(0, rd kStr s2), (1, rd kByte a1), (4, rd kStr (ByteArray.mk #[]))]) (fun (s2 : ByteArray) (e3 : Unit) => []) () ⟨rfl, rfl, rfl, trivial⟩ (.nil _) fun s2 e3 k1 => c_seq<|c_seq<|c_reg<|l_p (po_mov (.t rfl)) rfl<|l_p (po_lens (.t rfl) un9) rfl<|l_p (po_gt (.t rfl) (ev_i _)) rfl<|l_p (po_mov (.t rfl)) rfl<|l_jn 8 (fun (b5 : Bool) (e6 : Unit) => [(0, rd kStr s2), (1, rd kByte a1), (4, rd kStr (ByteArray.mk #[])), (16, rd kBool b5)]) (fun (b5 : Bool) (e6 : Unit) => []) (fun k4 => ?_) (fun b5 e6 => ?_)
  · refine l_if (fun h7 => ?_) (fun h7 => ?_)
    · exact l_po ⟨_, rfl, _, rfl, h7⟩ (po_mov (.t rfl)) rfl<|l_po ⟨_, rfl, _, rfl, h7⟩ (po_mov (.t rfl)) rfl<|l_po ⟨_, rfl, _, rfl, h7⟩ (po_lens (.t rfl) un9) rfl<|l_po ⟨_, rfl, _, rfl, h7⟩ (po_sub (.t rfl) (ev_i _)) rfl<|l_bind fun u9 h8 => l_po ⟨_, rfl, _, rfl, h7⟩ (po_six (.t rfl) (.t rfl) h8 un9) rfl<|l_po ⟨_, rfl, _, rfl, h7⟩ (po_mov (.t rfl)) rfl<|l_po ⟨_, rfl, _, rfl, h7⟩ (po_eq (.t rfl) (.t rfl)) rfl<|l_p (po_pickt (t := rd kBool (u9 == a1)) (.t rfl) h7 (.t rfl)) rfl<|l_nil<|x_mid ((u9 == a1), ()) rfl ⟨rfl, rfl, rfl, rfl, trivial⟩ (.nil _)
    · exact l_skipn 7 3 true ⟨_, rfl, _, rfl, ne_t h7⟩ rfl<|l_p (po_pickf (t := rd kBool false) (.t rfl) h7 (.b _)) rfl<|l_nil<|x_mid (false, ()) rfl ⟨rfl, rfl, rfl, rfl, trivial⟩ (.nil _)
  · refine l_nil<|x_tn<|c_if rfl (fun h10 => ?_) (fun h10 => ?_)
    · exact c_skip<|x_tn<|c_blk<|c_reg<|l_p (po_mov (.t rfl)) rfl<|l_p (po_mov (.t rfl)) rfl<|l_p (po_lens (.t rfl) un9) rfl<|l_p (po_sub (.t rfl) (ev_i _)) rfl<|l_bind fun u12 h11 => l_p (po_ssub (.t rfl) .no (.so (.t rfl)) h11 un9) rfl<|l_p (po_asg (.t rfl)) rfl<|l_nil<|x_bn<|x_mid (u12, ()) rfl ⟨rfl, rfl, rfl, trivial⟩ (.nil _)
    · exact c_exit<|x_te<|x_me<|x_be<|x_tn<|c_seq<|c_reg<|l_p (po_mov (.t rfl)) rfl<|l_p (po_asg (.t rfl)) rfl<|l_nil<|x_tn<|c_ret<|x_ret1 rfl (.t rfl)
noncomputable def slices_IndexFunc_124 (a0 : (List Device)) (a1 : (Device → Option Bool)) : Option Int :=
  lfold (fun (i4 : Int) (x5 : Device) (s2 : Int) k1 => (a1 x5).bind (fun r7 => if r7 = true then (some i4) else (k1 s2))) (fun (s2 : Int) => some (-1)) 0 a0 0
theorem c_slices_IndexFunc_124 (a0 : (List Device)) (a1 : (Device → Option Bool)) : Ct Tryz.prog 124 [rd (kSl kDevice) a0, fnv Tryz.prog (fun (x : Device) => [rd kDevice x]) a1 (fun r => rd kBool r)] (slices_IndexFunc_124 a0 a1) (fun r => rd kInt r) := by
  unfold slices_IndexFunc_124
  refine enter Tryz.func124 rfl Tryz.ntmps124 rfl (by kernel_rfl) fun z => c_seq<|c_reg<|l_p (po_asg (ev_i _)) rfl<|l_nil<|x_tn<|c_seq<|c_seq<|c_reg<|l_p (po_mov (.t rfl)) rfl<|l_p (po_len (ty := 0) (.t rfl) sl31) rfl<|l_p (po_mov (ev_i _)) rfl<|l_nil<|x_tn<|c_blk<|c_rng (tx := 0) (fun (s2 : Int) (e3 : Unit) => [(1, fnv Tryz.prog (fun (x : Device) => [rd kDevice x]) a1 (fun r => rd kBool r)), (4, rd kInt s2)]) (fun (s2 : Int) (e3 : Unit) => []) () ⟨rfl, rfl, trivial⟩ (.nil _) rfl rfl rfl ⟨rfl, rfl, rfl, rfl, rfl, rfl, rfl, rfl, rfl, rfl, rfl, rfl⟩ (fun _ _ => rfl) (fun i4 x5 s2 e3 k1 h6 => ?_) (fun s2 e3 => ?_)
  · refine c_seq<|c_reg<|l_p (po_mov (.t rfl)) rfl<|l_p (po_asg (.t rfl)) rfl<|l_nil<|x_tn<|c_seq<|c_reg<|l_p (po_mov (.t rfl)) rfl<|l_p (po_mov (.t rfl)) rfl<|l_p (po_mov (.t rfl)) rfl<|l_p (po_ia (.t rfl) (.t rfl) (at_nat h6) sl31) rfl<|l_p (po_la (.t rfl) ty85) rfl<|l_callv x5 (.t rfl) ⟨(.t rfl), trivial⟩ rfl fun r7 h8 => l_nil<|x_tn<|c_if rfl (fun h9 => ?_) (fun h9 => ?_)
    · exact c_seq<|c_reg<|l_p (po_mov (.t rfl)) rfl<|l_p (po_asg (.t rfl)) rfl<|l_nil<|x_tn<|c_ret<|x_br<|x_mr<|x_br<|x_tr<|x_ret1 rfl (.t rfl)
    · exact c_skip<|x_bn<|x_mid (s2, ()) rfl ⟨rfl, rfl, rfl, rfl, rfl, trivial⟩ (.nil _)
  · exact x_be<|x_tn<|c_seq<|c_reg<|l_p (po_asg (ev_i _)) rfl<|l_nil<|x_tn<|c_ret<|x_ret1 rfl (.t rfl)
end Go.Proofs.YtmnmcobpfpkibaaGreatDoor
namespace Go.Proofs.YtmnmcobpfpkibaaGreatDoor
open Go.RowKit
set_option linter.unusedVariables false
set_option maxRecDepth 20000
noncomputable def hl0_VolsWeight (a0 : (List Vol)) : Option Int :=
  rep (fun (s2 : (Int × Int)) k1 => jn (fun (b5 : Bool) => if b5 = true then ((at? a0 s2.2).bind (fun u10 => (hl0_VolWeight u10).bind (fun r11 => k1 ((IntKind.wrap .i64 (s2.1 + r11)), (IntKind.wrap .i64 (s2.2 + 1)))))) else (some s2.1)) (fun k4 => if (decide (s2.2 < (a0.length : Int))) = true then (k4 (decide (s2.1 < 1048576))) else (k4 false))) FUEL ((a0.length : Int), 0)
theorem c_hl0_VolsWeight (a0 : (List Vol)) : Ct Tryz.prog 24 [rd (kSl kVol) a0] (hl0_VolsWeight a0) (fun r => rd kInt r) := by
  unfold hl0_VolsWeight
  refine enter Tryz.func24 rfl Tryz.ntmps24 rfl (by kernel_rfl) fun z => c_seq<|c_reg<|l_p (po_asg (ev_i _)) rfl<|l_nil<|x_tn<|c_seq<|c_reg<|l_p (po_mov (.t rfl)) rfl<|l_p (po_len (ty := 0) (.t rfl) sl29) rfl<|l_p (po_asg (.t rfl)) rfl<|l_nil<|x_tn<|c_seq<|c_seq<|c_reg<|l_p (po_asg (ev_i _)) rfl<|l_nil<|x_tn<|c_blk<|c_loop (fun (s2 : (Int × Int)) (e3 : Unit) => [(0, rd (kSl kVol) a0), (2, rd kInt 0), (3, rd kInt s2.1), (4, rd kInt s2.2)]) (fun (s2 : (Int × Int)) (e3 : Unit) => []) () ⟨rfl, rfl, rfl, rfl, trivial⟩ (.nil _) fun s2 e3 k1 => c_seq<|c_seq<|c_reg<|l_p (po_mov (.t rfl)) rfl<|l_p (po_mov (.t rfl)) rfl<|l_p (po_len (ty := 0) (.t rfl) sl29) rfl<|l_p (po_lt (.t rfl) (.t rfl)) rfl<|l_p (po_mov (.t rfl)) rfl<|l_jn 3 (fun (b5 : Bool) (e6 : Unit) => [(0, rd (kSl kVol) a0), (2, rd kInt 0), (3, rd kInt s2.1), (4, rd kInt s2.2), (14, rd kBool b5)]) (fun (b5 : Bool) (e6 : Unit) => []) (fun k4 => ?_) (fun b5 e6 => ?_)
  · refine l_if (fun h7 => ?_) (fun h7 => ?_)
    · exact l_po ⟨_, rfl, _, rfl, h7⟩ (po_mov (.t rfl)) rfl<|l_po ⟨_, rfl, _, rfl, h7⟩ (po_lt (.t rfl) (ev_i _)) rfl<|l_p (po_pickt (t := rd kBool (decide (s2.1 < 1048576))) (.t rfl) h7 (.t rfl)) rfl<|l_nil<|x_mid ((decide (s2.1 < 1048576)), ()) rfl ⟨rfl, rfl, rfl, rfl, rfl, trivial⟩ (.nil _)
    · exact l_skipn 2 4 true ⟨_, rfl, _, rfl, ne_t h7⟩ rfl<|l_p (po_pickf (t := rd kBool false) (.t rfl) h7 (.b _)) rfl<|l_nil<|x_mid (false, ()) rfl ⟨rfl, rfl, rfl, rfl, rfl, trivial⟩ (.nil _)
  · refine l_nil<|x_tn<|c_if rfl (fun h8 => ?_) (fun h8 => ?_)
    · exact c_skip<|x_tn<|c_seq<|c_blk<|c_reg<|l_p (po_mov (.t rfl)) rfl<|l_p (po_mov (.t rfl)) rfl<|l_p (po_mov (.t rfl)) rfl<|l_bind fun u10 h9 => l_p (po_ia (.t rfl) (.t rfl) h9 sl29) rfl<|l_p (po_la (.t rfl) ty105) rfl<|l_call (c_hl0_VolWeight _) ⟨(.t rfl), trivial⟩ rfl fun r11 h12 => l_p (po_add (.t rfl) (.t rfl)) rfl<|l_p (po_asg (.t rfl)) rfl<|l_nil<|x_bn<|x_tn<|c_reg<|l_p (po_mov (.t rfl)) rfl<|l_p (po_add (.t rfl) (ev_i _)) rfl<|l_p (po_asg (.t rfl)) rfl<|l_nil<|x_mid (((IntKind.wrap .i64 (s2.1 + r11)), (IntKind.wrap .i64 (s2.2 + 1))), ()) rfl ⟨rfl, rfl, rfl, rfl, trivial⟩ (.nil _)
    · exact c_exit<|x_te<|x_me<|x_be<|x_tn<|c_seq<|c_reg<|l_p (po_mov (.t rfl)) rfl<|l_p (po_asg (.t rfl)) rfl<|l_nil<|x_tn<|c_ret<|x_ret1 rfl (.t rfl)
noncomputable def hl0_PoolWeight (a0 : Pool) : Option Int :=
  (hl0_DevicesWeight (Pool.devices a0)).bind (fun r2 => rep (fun (s5 : (Int × Int)) k4 => jn (fun (b8 : Bool) => if b8 = true then ((at? (Pool.tables a0) s5.2).bind (fun u13 => k4 ((IntKind.wrap .i64 (s5.1 + ((Table.list u13).length : Int))), (IntKind.wrap .i64 (s5.2 + 1))))) else (some s5.1)) (fun k7 => if (decide (s5.2 < ((Pool.tables a0).length : Int))) = true then (k7 (decide (s5.1 < 1048576))) else (k7 false))) FUEL ((IntKind.wrap .i64 ((IntKind.wrap .i64 (r2 + ((Pool.tables a0).length : Int))) + ((Table.list (Job.table (Pool.job a0))).length : Int))), 0))
theorem c_hl0_PoolWeight (a0 : Pool) : Ct Tryz.prog 53 [rd kPool a0] (hl0_PoolWeight a0) (fun r => rd kInt r) := by
  unfold hl0_PoolWeight
  refine enter Tryz.func53 rfl Tryz.ntmps53 rfl (by kernel_rfl) fun z => c_seq<|c_reg<|l_box (.t rfl) rfl fun g1 => l_p (po_asg (ev_i _)) rfl<|l_nil<|x_tn<|c_seq<|c_draw [0, 1, 3, 4, 5, 7, 8, 9, 10, 11, 2, 6, 12, 13] [2] [] (by kernel_rfl) (by kernel_rfl)<|w_p rfl rfl (po_fo (.t rfl) fs39_0) rfl<|w_p rfl rfl (po_lo 0 (.t rfl) rfl F_Pool_devices ty31) rfl<|w_p rfl rfl (po_fo (.t rfl) fs39_1) rfl<|w_p rfl rfl (po_lo 0 (.t rfl) rfl F_Pool_tables ty32) rfl<|w_p rfl rfl (po_len (ty := 0) (.t rfl) sl32) rfl<|w_p rfl rfl (po_fo (.t rfl) fs39_2) rfl<|w_p rfl rfl (po_fo (.t rfl) fs37_2) rfl<|w_p rfl rfl (po_fo (.t rfl) fs35_2) rfl<|w_p rfl rfl (po_lo 0 (.t rfl) rfl ((F_Pool_job.comp F_Job_table).comp F_Table_list) ty33) rfl<|w_p rfl rfl (po_len (ty := 0) (.t rfl) sl33) rfl<|w_call rfl rfl (c_hl0_DevicesWeight _) ⟨(.t rfl), trivial⟩ rfl fun r2 h3 => w_p rfl rfl (po_add (.t rfl) (.t rfl)) rfl<|w_p rfl rfl (po_add (.t rfl) (.t rfl)) rfl<|w_p rfl rfl (po_asg (.t rfl)) rfl<|w_nil<|x_tn<|c_seq<|c_seq<|c_reg<|l_p (po_asg (ev_i _)) rfl<|l_nil<|x_tn<|c_blk<|c_loop (fun (s5 : (Int × Int)) (e6 : Unit) => [(1, own g1 0), (2, rd kInt 0), (3, rd kInt s5.1), (4, rd kInt s5.2)]) (fun (s5 : (Int × Int)) (e6 : Unit) => [(some g1, box kPool a0)]) () ⟨rfl, rfl, rfl, rfl, trivial⟩ (.c (.nil _)) fun s5 e6 k4 => c_seq<|c_seq<|c_reg<|l_p (po_mov (.t rfl)) rfl<|l_p (po_fo (.t rfl) fs39_1) rfl<|l_p (po_lo 0 (.t rfl) rfl F_Pool_tables ty32) rfl<|l_p (po_len (ty := 0) (.t rfl) sl32) rfl ?_
  refine l_p (po_lt (.t rfl) (.t rfl)) rfl<|l_p (po_mov (.t rfl)) rfl<|l_jn 3 (fun (b8 : Bool) (e9 : Unit) => [(1, own g1 0), (2, rd kInt 0), (3, rd kInt s5.1), (4, rd kInt s5.2), (26, rd kBool b8)]) (fun (b8 : Bool) (e9 : Unit) => [(some g1, box kPool a0)]) (fun k7 => ?_) (fun b8 e9 => ?_)
  · refine l_if (fun h10 => ?_) (fun h10 => ?_)
    · exact l_po ⟨_, rfl, _, rfl, h10⟩ (po_mov (.t rfl)) rfl<|l_po ⟨_, rfl, _, rfl, h10⟩ (po_lt (.t rfl) (ev_i _)) rfl<|l_p (po_pickt (t := rd kBool (decide (s5.1 < 1048576))) (.t rfl) h10 (.t rfl)) rfl<|l_nil<|x_mid ((decide (s5.1 < 1048576)), ()) rfl ⟨rfl, rfl, rfl, rfl, rfl, trivial⟩ (.c (.nil _))
    · exact l_skipn 2 5 true ⟨_, rfl, _, rfl, ne_t h10⟩ rfl<|l_p (po_pickf (t := rd kBool false) (.t rfl) h10 (.b _)) rfl<|l_nil<|x_mid (false, ()) rfl ⟨rfl, rfl, rfl, rfl, rfl, trivial⟩ (.c (.nil _))
  · refine l_nil<|x_tn<|c_if rfl (fun h11 => ?_) (fun h11 => ?_)
    · exact c_skip<|x_tn<|c_seq<|c_blk<|c_reg<|l_p (po_mov (.t rfl)) rfl<|l_p (po_fo (.t rfl) fs39_1) rfl<|l_p (po_lo 0 (.t rfl) rfl F_Pool_tables ty32) rfl<|l_p (po_mov (.t rfl)) rfl<|l_bind fun u13 h12 => l_p (po_ia (.t rfl) (.t rfl) h12 sl32) rfl<|l_p (po_fa (.t rfl) fs35_2 F_Table_list) rfl<|l_p (po_la (.t rfl) ty33) rfl<|l_p (po_len (ty := 0) (.t rfl) sl33) rfl<|l_p (po_add (.t rfl) (.t rfl)) rfl<|l_p (po_asg (.t rfl)) rfl<|l_nil<|x_bn<|x_tn<|c_reg<|l_p (po_mov (.t rfl)) rfl<|l_p (po_add (.t rfl) (ev_i _)) rfl<|l_p (po_asg (.t rfl)) rfl<|l_nil<|x_mid (((IntKind.wrap .i64 (s5.1 + ((Table.list u13).length : Int))), (IntKind.wrap .i64 (s5.2 + 1))), ()) rfl ⟨rfl, rfl, rfl, rfl, trivial⟩ (.c (.nil _))
    · exact c_exit<|x_te<|x_me<|x_be<|x_tn<|c_seq<|c_reg<|l_p (po_mov (.t rfl)) rfl<|l_p (po_asg (.t rfl)) rfl<|l_nil<|x_tn<|c_ret<|x_ret1 rfl (.t rfl)
noncomputable def slices_ContainsFunc_258 (a0 : (List Int)) (a1 : (Int → Option Bool)) : Option Bool :=
  (slices_IndexFunc_277 a0 a1).bind (fun r1 => some (decide (r1 ≥ 0)))
theorem c_slices_ContainsFunc_258 (a0 : (List Int)) (a1 : (Int → Option Bool)) : Ct Tryz.prog 258 [rd (kSl kInt) a0, fnv Tryz.prog (fun (x : Int) => [rd kInt x]) a1 (fun r => rd kBool r)] (slices_ContainsFunc_258 a0 a1) (fun r => rd kBool r) := by
  unfold slices_ContainsFunc_258
  exact enter Tryz.func258 rfl Tryz.ntmps258 rfl (by kernel_rfl) fun z => c_seq<|c_reg<|l_p (po_asg (.b _)) rfl<|l_nil<|x_tn<|c_seq<|c_reg<|l_p (po_mov (.t rfl)) rfl<|l_p (po_mov (.t rfl)) rfl<|l_call (c_slices_IndexFunc_277 _ _) ⟨(.t rfl), (.t rfl), trivial⟩ rfl fun r1 h2 => l_p (po_ge (.t rfl) (ev_i _)) rfl<|l_p (po_asg (.t rfl)) rfl<|l_nil<|x_tn<|c_ret<|x_ret1 rfl (.t rfl)
noncomputable def tree_at (a0 : Vol) (a1 : Int) : Option (Int × Bool) :=
  (slices_BinarySearchFunc_278 (Vol.files a0) a1 (fun (x : (File × Int)) => tree_at_1 x.1 x.2)).bind (fun r2 => some (r2.1, r2.2))
theorem c_tree_at (a0 : Vol) (a1 : Int) : Ct Tryz.prog 259 [rd kVol a0, rd kInt a1] (tree_at a0 a1) (fun r => tup [rd kInt r.1, rd kBool r.2]) := by
  unfold tree_at
  exact enter Tryz.func259 rfl Tryz.ntmps259 rfl (by kernel_rfl) fun z => c_seq<|c_reg<|l_box (.t rfl) rfl fun g1 => l_p (po_asg (ev_i _)) rfl<|l_p (po_asg (.b _)) rfl<|l_nil<|x_tn<|c_seq<|c_reg<|l_p (po_fo (.t rfl) fs105_3) rfl<|l_p (po_lo 0 (.t rfl) rfl F_Vol_files ty103) rfl<|l_p (po_mov (.t rfl)) rfl<|l_call (c_slices_BinarySearchFunc_278 _ _ _) ⟨(.t rfl), (.t rfl), (ev_fn (ts := fun (x : (File × Int)) => [rd kFile x.1, rd kInt x.2]) (F := (fun (x : (File × Int)) => tree_at_1 x.1 x.2)) (res := fun r => rd kInt r) (fun x => c_tree_at_1 _ _) (kFile.z, kInt.z)), trivial⟩ rfl fun r2 h3 => l_p (po_ext (.t rfl) rfl) rfl<|l_p (po_ext (.t rfl) rfl) rfl<|l_p (po_asg (.t rfl)) rfl<|l_p (po_asg (.t rfl)) rfl<|l_nil<|x_tn<|c_ret<|x_retn rfl rfl rfl ⟨(.t rfl), (.t rfl), trivial⟩
noncomputable def name_Is (a0 : ByteArray) : Option Bool :=
  jn (fun (b2 : Bool) => jn (fun (b6 : Bool) => jn (fun (b10 : Bool) => if b10 = true then (some false) else (rep (fun (s15 : (Bool × Int)) k14 => if (decide (s15.2 < (a0.size : Int))) = true then ((sAt a0 s15.2).bind (fun u19 => (name_letter u19).bind (fun r20 => if (!r20) = true then (some false) else (k14 (s15.1, (IntKind.wrap .i64 (s15.2 + 1))))))) else (some true)) FUEL (false, 0))) (fun k9 => if b6 = true then (k9 true) else (k9 (sEq a0 (ByteArray.mk #[46, 46]))))) (fun k5 => if b2 = true then (k5 true) else (k5 (sEq a0 (ByteArray.mk #[46]))))) (fun k1 => if (sEq a0 (ByteArray.mk #[])) = true then (k1 true) else (k1 (decide ((a0.size : Int) > 8))))
theorem c_name_Is (a0 : ByteArray) : Ct Tryz.prog 260 [rd kStr a0] (name_Is a0) (fun r => rd kBool r) := by
  unfold name_Is
  refine enter Tryz.func260 rfl Tryz.ntmps260 rfl (by kernel_rfl) fun z => c_seq<|c_reg<|l_p (po_asg (.b _)) rfl<|l_nil<|x_tn<|c_seq<|c_seq<|c_reg<|l_p (po_mov (.t rfl)) rfl<|l_p (po_seq (.t rfl) (.s _)) rfl<|l_p (po_mov (.t rfl)) rfl<|l_jn 4 (fun (b2 : Bool) (e3 : Unit) => [(0, rd kStr a0), (2, rd kBool false), (10, rd kBool b2)]) (fun (b2 : Bool) (e3 : Unit) => []) (fun k1 => ?_) (fun b2 e3 => ?_)
  · refine l_if (fun h4 => ?_) (fun h4 => ?_)
    · exact l_skipn 3 2 false ⟨_, rfl, _, rfl, ne_f h4⟩ rfl<|l_p (po_pickt (t := rd kBool true) (.t rfl) h4 (.b _)) rfl<|l_nil<|x_mid (true, ()) rfl ⟨rfl, rfl, rfl, trivial⟩ (.nil _)
    · exact l_po ⟨_, rfl, _, rfl, h4⟩ (po_mov (.t rfl)) rfl<|l_po ⟨_, rfl, _, rfl, h4⟩ (po_lens (.t rfl) un9) rfl<|l_po ⟨_, rfl, _, rfl, h4⟩ (po_gt (.t rfl) (ev_i _)) rfl<|l_p (po_pickf (t := rd kBool (decide ((a0.size : Int) > 8))) (.t rfl) h4 (.t rfl)) rfl<|l_nil<|x_mid ((decide ((a0.size : Int) > 8)), ()) rfl ⟨rfl, rfl, rfl, trivial⟩ (.nil _)
  · refine l_p (po_mov (.t rfl)) rfl<|l_jn 3 (fun (b6 : Bool) (e7 : Unit) => [(0, rd kStr a0), (2, rd kBool false), (14, rd kBool b6)]) (fun (b6 : Bool) (e7 : Unit) => []) (fun k5 => ?_) (fun b6 e7 => ?_)
    · refine l_if (fun h8 => ?_) (fun h8 => ?_)
      · exact l_skipn 2 7 false ⟨_, rfl, _, rfl, ne_f h8⟩ rfl<|l_p (po_pickt (t := rd kBool true) (.t rfl) h8 (.b _)) rfl<|l_nil<|x_mid (true, ()) rfl ⟨rfl, rfl, rfl, trivial⟩ (.nil _)
      · exact l_po ⟨_, rfl, _, rfl, h8⟩ (po_mov (.t rfl)) rfl<|l_po ⟨_, rfl, _, rfl, h8⟩ (po_seq (.t rfl) (.s _)) rfl<|l_p (po_pickf (t := rd kBool (sEq a0 (ByteArray.mk #[46]))) (.t rfl) h8 (.t rfl)) rfl<|l_nil<|x_mid ((sEq a0 (ByteArray.mk #[46])), ()) rfl ⟨rfl, rfl, rfl, trivial⟩ (.nil _)
    · refine l_p (po_mov (.t rfl)) rfl<|l_jn 3 (fun (b10 : Bool) (e11 : Unit) => [(0, rd kStr a0), (2, rd kBool false), (18, rd kBool b10)]) (fun (b10 : Bool) (e11 : Unit) => []) (fun k9 => ?_) (fun b10 e11 => ?_)
      · refine l_if (fun h12 => ?_) (fun h12 => ?_)
        · exact l_skipn 2 11 false ⟨_, rfl, _, rfl, ne_f h12⟩ rfl<|l_p (po_pickt (t := rd kBool true) (.t rfl) h12 (.b _)) rfl<|l_nil<|x_mid (true, ()) rfl ⟨rfl, rfl, rfl, trivial⟩ (.nil _)
        · exact l_po ⟨_, rfl, _, rfl, h12⟩ (po_mov (.t rfl)) rfl<|l_po ⟨_, rfl, _, rfl, h12⟩ (po_seq (.t rfl) (.s _)) rfl<|l_p (po_pickf (t := rd kBool (sEq a0 (ByteArray.mk #[46, 46]))) (.t rfl) h12 (.t rfl)) rfl<|l_nil<|x_mid ((sEq a0 (ByteArray.mk #[46, 46])), ()) rfl ⟨rfl, rfl, rfl, trivial⟩ (.nil _)
      · refine l_nil<|x_tn<|c_if rfl (fun h13 => ?_) (fun h13 => ?_)
        · exact c_seq<|c_reg<|l_p (po_asg (.b _)) rfl<|l_nil<|x_tn<|c_ret<|x_tr<|x_ret1 rfl (.t rfl)
        · refine c_skip<|x_tn<|c_seq<|c_seq<|c_reg<|l_p (po_mov (.t rfl)) rfl<|l_p (po_lens (.t rfl) un9) rfl<|l_p (po_mov (ev_i _)) rfl<|l_nil<|x_tn<|c_blk<|c_loop (fun (s15 : (Bool × Int)) (e16 : Unit) => [(0, rd kStr a0), (2, rd kBool s15.1), (20, rd kInt (a0.size : Int)), (21, rd kInt s15.2)]) (fun (s15 : (Bool × Int)) (e16 : Unit) => []) () ⟨rfl, rfl, rfl, rfl, trivial⟩ (.nil _) fun s15 e16 k14 => c_seq<|c_reg<|l_p (po_lt (.t rfl) (.t rfl)) rfl<|l_nil<|x_tn<|c_seq<|c_if rfl (fun h17 => ?_) (fun h17 => ?_)
          · refine c_skip<|x_tn<|c_seq<|c_blk<|c_seq<|c_reg<|l_p (po_mov (.t rfl)) rfl<|l_p (po_asg (.t rfl)) rfl<|l_nil<|x_tn<|c_seq<|c_reg<|l_p (po_mov (.t rfl)) rfl<|l_p (po_mov (.t rfl)) rfl<|l_bind fun u19 h18 => l_p (po_six (.t rfl) (.t rfl) h18 un9) rfl<|l_call (c_name_letter _) ⟨(.t rfl), trivial⟩ rfl fun r20 h21 => l_p (po_not (.t rfl)) rfl<|l_nil<|x_tn<|c_if rfl (fun h22 => ?_) (fun h22 => ?_)
            · exact c_seq<|c_reg<|l_p (po_asg (.b _)) rfl<|l_nil<|x_tn<|c_ret<|x_br<|x_tr<|x_mr<|x_br<|x_tr<|x_ret1 rfl (.t rfl)
            · exact c_skip<|x_bn<|x_tn<|c_reg<|l_p (po_add (.t rfl) (ev_i _)) rfl<|l_p (po_mov (.t rfl)) rfl<|l_nil<|x_mid ((s15.1, (IntKind.wrap .i64 (s15.2 + 1))), ()) rfl ⟨rfl, rfl, rfl, rfl, trivial⟩ (.nil _)
          · exact c_exit<|x_te<|x_me<|x_be<|x_tn<|c_seq<|c_reg<|l_p (po_asg (.b _)) rfl<|l_nil<|x_tn<|c_ret<|x_ret1 rfl (.t rfl)
noncomputable def vol_At (a0 : (List Vol)) (a1 : Int) : Option (Int × Bool) :=
  (slices_BinarySearchFunc_216 a0 a1 (fun (x : (Vol × Int)) => vol_At_1 x.1 x.2)).bind (fun r1 => some (r1.1, r1.2))
theorem c_vol_At (a0 : (List Vol)) (a1 : Int) : Ct Tryz.prog 164 [rd (kSl kVol) a0, rd kInt a1] (vol_At a0 a1) (fun r => tup [rd kInt r.1, rd kBool r.2]) := by
  unfold vol_At
  exact enter Tryz.func164 rfl Tryz.ntmps164 rfl (by kernel_rfl) fun z => c_seq<|c_reg<|l_p (po_asg (ev_i _)) rfl<|l_p (po_asg (.b _)) rfl<|l_nil<|x_tn<|c_seq<|c_reg<|l_p (po_mov (.t rfl)) rfl<|l_p (po_mov (.t rfl)) rfl<|l_call (c_slices_BinarySearchFunc_216 _ _ _) ⟨(.t rfl), (.t rfl), (ev_fn (ts := fun (x : (Vol × Int)) => [rd kVol x.1, rd kInt x.2]) (F := (fun (x : (Vol × Int)) => vol_At_1 x.1 x.2)) (res := fun r => rd kInt r) (fun x => c_vol_At_1 _ _) (kVol.z, kInt.z)), trivial⟩ rfl fun r1 h2 => l_p (po_ext (.t rfl) rfl) rfl<|l_p (po_ext (.t rfl) rfl) rfl<|l_p (po_asg (.t rfl)) rfl<|l_p (po_asg (.t rfl)) rfl<|l_nil<|x_tn<|c_ret<|x_retn rfl rfl rfl ⟨(.t rfl), (.t rfl), trivial⟩
noncomputable def walk_Blocks (a0 : (List Block)) : Option Bool :=
  lfold (fun (i4 : Int) (x5 : Block) (s2 : Bool) k1 => jn (fun (b9 : Bool) => jn (fun (b15 : Bool) => if b15 = true then (some false) else (k1 s2)) (fun k14 => if b9 = true then (k14 true) else (jn (fun (b19 : Bool) => k14 b19) (fun k18 => if (decide (i4 > 0)) = true then ((at? a0 (IntKind.wrap .i64 (i4 - 1))).bind (fun u23 => k18 (decide ((Block.iD x5) ≤ (Block.iD u23))))) else (k18 false))))) (fun k8 => if (decide ((Block.iD x5) < 0)) = true then (k8 true) else ((body_Is (Block.text x5)).bind (fun r12 => k8 (!r12))))) (fun (s2 : Bool) => some true) 0 a0 false
theorem c_walk_Blocks (a0 : (List Block)) : Ct Tryz.prog 107 [rd (kSl kBlock) a0] (walk_Blocks a0) (fun r => rd kBool r) := by
  unfold walk_Blocks
  refine enter Tryz.func107 rfl Tryz.ntmps107 rfl (by kernel_rfl) fun z => c_seq<|c_reg<|l_p (po_asg (.b _)) rfl<|l_nil<|x_tn<|c_seq<|c_seq<|c_reg<|l_p (po_mov (.t rfl)) rfl<|l_p (po_len (ty := 0) (.t rfl) sl30) rfl<|l_p (po_mov (ev_i _)) rfl<|l_nil<|x_tn<|c_blk<|c_rng (tx := 5) (fun (s2 : Bool) (e3 : Unit) => [(0, rd (kSl kBlock) a0), (2, rd kBool s2)]) (fun (s2 : Bool) (e3 : Unit) => []) () ⟨rfl, rfl, trivial⟩ (.nil _) rfl rfl rfl ⟨rfl, rfl, rfl, rfl, rfl, rfl, rfl, rfl, rfl, rfl, rfl, rfl⟩ (fun _ _ => rfl) (fun i4 x5 s2 e3 k1 h6 => ?_) (fun s2 e3 => ?_)
  · refine c_seq<|c_reg<|l_p (po_mov (.t rfl)) rfl<|l_p (po_ia (.t rfl) (.t rfl) (at_nat h6) sl30) rfl<|l_p (po_la (.t rfl) ty61) rfl<|l_new kBlock tz61 rfl fun g7 => l_p (po_asg (.t rfl)) rfl<|l_st 0 (.t rfl) (.t rfl) rfl (Fld.me _) ty61<|l_nil<|x_tn<|c_seq<|c_draw [0, 1, 2, 3, 4, 5, 6, 7, 8, 9, 10, 11, 12, 13, 14, 15, 16, 17, 18, 19, 20, 21, 22, 23] [6] [] (by kernel_rfl) (by kernel_rfl)<|w_p rfl rfl (po_fo (.t rfl) fs61_0) rfl<|w_p rfl rfl (po_lo 0 (.t rfl) rfl F_Block_iD ty3) rfl<|w_p rfl rfl (po_lt (.t rfl) (ev_i _)) rfl<|w_p rfl rfl (po_mov (.t rfl)) rfl<|w_jn 5 (fun (b9 : Bool) (e10 : Unit) => [(7, rd kInt (i4 : Int)), (6, rd kInt (a0.length : Int)), (5, rd (kSl kBlock) a0), (0, rd (kSl kBlock) a0), (2, rd kBool s2), (4, own g7 0), (3, rd kInt (i4 : Int)), (20, rd kBool b9)]) (fun (b9 : Bool) (e10 : Unit) => [(some g7, box kBlock x5)]) (fun k8 => ?_) (fun b9 e10 => ?_)
    · refine w_if (fun h11 => ?_) (fun h11 => ?_)
      · exact w_skip rfl ⟨_, rfl, .inl ⟨_, rfl, ne_f h11⟩⟩ rfl<|w_skip rfl ⟨_, rfl, .inl ⟨_, rfl, ne_f h11⟩⟩ rfl<|w_skip rfl ⟨_, rfl, .inl ⟨_, rfl, ne_f h11⟩⟩ rfl<|w_skip rfl ⟨_, rfl, .inl ⟨_, rfl, ne_f h11⟩⟩ rfl<|w_p rfl rfl (po_pickt (t := rd kBool true) (.t rfl) h11 (.b _)) rfl<|w_nil<|x_mid (true, ()) rfl ⟨rfl, rfl, rfl, rfl, rfl, rfl, rfl, rfl, trivial⟩ (.c (.nil _))
      · exact w_po rfl rfl ⟨_, rfl, _, rfl, h11⟩ (po_fo (.t rfl) fs61_2) rfl<|w_po rfl rfl ⟨_, rfl, _, rfl, h11⟩ (po_lo 0 (.t rfl) rfl F_Block_text ty9) rfl<|w_callg rfl rfl ⟨_, rfl, _, rfl, h11⟩ (c_body_Is _) ⟨(.t rfl), trivial⟩ rfl fun r12 h13 => w_po rfl rfl ⟨_, rfl, _, rfl, h11⟩ (po_not (.t rfl)) rfl<|w_p rfl rfl (po_pickf (t := rd kBool (!r12)) (.t rfl) h11 (.t rfl)) rfl<|w_nil<|x_mid ((!r12), ()) rfl ⟨rfl, rfl, rfl, rfl, rfl, rfl, rfl, rfl, trivial⟩ (.c (.nil _))
    · refine w_p rfl rfl (po_mov (.t rfl)) rfl<|w_jn 14 (fun (b15 : Bool) (e16 : Unit) => [(7, rd kInt (i4 : Int)), (6, rd kInt (a0.length : Int)), (5, rd (kSl kBlock) a0), (0, rd (kSl kBlock) a0), (2, rd kBool s2), (35, rd kBool b15)]) (fun (b15 : Bool) (e16 : Unit) => []) (fun k14 => ?_) (fun b15 e16 => ?_)
      · refine w_if (fun h17 => ?_) (fun h17 => ?_)
        · exact w_skip rfl ⟨_, rfl, .inl ⟨_, rfl, ne_f h17⟩⟩ rfl<|w_skip rfl ⟨_, rfl, .inl ⟨_, rfl, ne_f h17⟩⟩ rfl<|w_skip rfl ⟨_, rfl, .inl ⟨_, rfl, ne_f h17⟩⟩ rfl<|w_skip rfl ⟨_, rfl, .inr rfl⟩ rfl<|w_skip rfl ⟨_, rfl, .inr rfl⟩ rfl<|w_skip rfl ⟨_, rfl, .inr rfl⟩ rfl<|w_skip rfl ⟨_, rfl, .inr rfl⟩ rfl<|w_skip rfl ⟨_, rfl, .inr rfl⟩ rfl<|w_skip rfl ⟨_, rfl, .inr rfl⟩ rfl<|w_skip rfl ⟨_, rfl, .inr rfl⟩ rfl<|w_skip rfl ⟨_, rfl, .inr rfl⟩ rfl<|w_skip rfl ⟨_, rfl, .inr rfl⟩ rfl<|w_skip rfl ⟨_, rfl, .inl ⟨_, rfl, ne_f h17⟩⟩ rfl<|w_p rfl rfl (po_pickt (t := rd kBool true) (.t rfl) h17 (.b _)) rfl<|w_nil<|x_mid (true, ()) rfl ⟨rfl, rfl, rfl, rfl, rfl, rfl, trivial⟩ (.nil _)
        · refine w_po rfl rfl ⟨_, rfl, _, rfl, h17⟩ (po_mov (.t rfl)) rfl<|w_po rfl rfl ⟨_, rfl, _, rfl, h17⟩ (po_gt (.t rfl) (ev_i _)) rfl<|w_po rfl rfl ⟨_, rfl, _, rfl, h17⟩ (po_mov (.t rfl)) rfl<|w_jn 10 (fun (b19 : Bool) (e20 : Unit) => [(7, rd kInt (i4 : Int)), (6, rd kInt (a0.length : Int)), (5, rd (kSl kBlock) a0), (0, rd (kSl kBlock) a0), (2, rd kBool s2), (21, rd kBool b9), (34, rd kBool b19)]) (fun (b19 : Bool) (e20 : Unit) => []) (fun k18 => ?_) (fun b19 e20 => ?_)
          · refine w_if (fun h21 => ?_) (fun h21 => ?_)
            · exact w_po rfl rfl ⟨_, rfl, _, rfl, h21⟩ (po_fo (.t rfl) fs61_0) rfl<|w_po rfl rfl ⟨_, rfl, _, rfl, h21⟩ (po_lo 0 (.t rfl) rfl F_Block_iD ty3) rfl<|w_po rfl rfl ⟨_, rfl, _, rfl, h21⟩ (po_mov (.t rfl)) rfl<|w_po rfl rfl ⟨_, rfl, _, rfl, h21⟩ (po_mov (.t rfl)) rfl<|w_po rfl rfl ⟨_, rfl, _, rfl, h21⟩ (po_sub (.t rfl) (ev_i _)) rfl<|w_bind fun u23 h22 => w_po rfl rfl ⟨_, rfl, _, rfl, h21⟩ (po_ia (.t rfl) (.t rfl) h22 sl30) rfl<|w_po rfl rfl ⟨_, rfl, _, rfl, h21⟩ (po_fa (.t rfl) fs61_0 F_Block_iD) rfl<|w_po rfl rfl ⟨_, rfl, _, rfl, h21⟩ (po_la (.t rfl) ty3) rfl<|w_po rfl rfl ⟨_, rfl, _, rfl, h21⟩ (po_le (.t rfl) (.t rfl)) rfl<|w_po rfl rfl ⟨_, rfl, _, rfl, h17⟩ (po_pickt (t := rd kBool (decide ((Block.iD x5) ≤ (Block.iD u23)))) (.t rfl) h21 (.t rfl)) rfl<|w_nil<|x_mid ((decide ((Block.iD x5) ≤ (Block.iD u23))), ()) rfl ⟨rfl, rfl, rfl, rfl, rfl, rfl, rfl, trivial⟩ (.nil _)
            · exact w_skip rfl ⟨_, rfl, .inl ⟨_, rfl, ne_t h21⟩⟩ rfl<|w_skip rfl ⟨_, rfl, .inl ⟨_, rfl, ne_t h21⟩⟩ rfl<|w_skip rfl ⟨_, rfl, .inl ⟨_, rfl, ne_t h21⟩⟩ rfl<|w_skip rfl ⟨_, rfl, .inl ⟨_, rfl, ne_t h21⟩⟩ rfl<|w_skip rfl ⟨_, rfl, .inl ⟨_, rfl, ne_t h21⟩⟩ rfl<|w_skip rfl ⟨_, rfl, .inl ⟨_, rfl, ne_t h21⟩⟩ rfl<|w_skip rfl ⟨_, rfl, .inl ⟨_, rfl, ne_t h21⟩⟩ rfl<|w_skip rfl ⟨_, rfl, .inl ⟨_, rfl, ne_t h21⟩⟩ rfl<|w_skip rfl ⟨_, rfl, .inl ⟨_, rfl, ne_t h21⟩⟩ rfl<|w_po rfl rfl ⟨_, rfl, _, rfl, h17⟩ (po_pickf (t := rd kBool false) (.t rfl) h21 (.b _)) rfl<|w_nil<|x_mid (false, ()) rfl ⟨rfl, rfl, rfl, rfl, rfl, rfl, rfl, trivial⟩ (.nil _)
          · exact w_p rfl rfl (po_pickf (t := rd kBool b19) (.t rfl) h17 (.t rfl)) rfl<|w_nil<|x_mid (b19, ()) rfl ⟨rfl, rfl, rfl, rfl, rfl, rfl, trivial⟩ (.nil _)
      · refine w_nil<|x_tn<|c_if rfl (fun h24 => ?_) (fun h24 => ?_)
        · exact c_seq<|c_reg<|l_p (po_asg (.b _)) rfl<|l_nil<|x_tn<|c_ret<|x_br<|x_mr<|x_br<|x_tr<|x_ret1 rfl (.t rfl)
        · exact c_skip<|x_bn<|x_mid (s2, ()) rfl ⟨rfl, rfl, rfl, rfl, rfl, trivial⟩ (.nil _)
  · exact x_be<|x_tn<|c_seq<|c_reg<|l_p (po_asg (.b _)) rfl<|l_nil<|x_tn<|c_ret<|x_ret1 rfl (.t rfl)
noncomputable def reach_All (a0 : (List Vol)) : Option (List Int) :=
  (reach_counts a0).bind (fun r1 => (keysP r1).bind (fun r3 => (sortedP r3).bind (fun r5 => some r5)))
theorem c_reach_All (a0 : (List Vol)) : Ct Tryz.prog 110 [rd (kSl kVol) a0] (reach_All a0) (fun r => rd (kSl kInt) r) := by
  unfold reach_All
  exact enter Tryz.func110 rfl Tryz.ntmps110 rfl (by kernel_rfl) fun z => c_seq<|c_reg<|l_p (po_asg (t := rd (kSl kInt) []) (.nil _)) rfl<|l_nil<|x_tn<|c_seq<|c_reg<|l_p (po_mov (.t rfl)) rfl<|l_call (c_reach_counts _) ⟨(.t rfl), trivial⟩ rfl fun r1 h2 => l_call (c_keysP _) ⟨(.t rfl), trivial⟩ rfl fun r3 h4 => l_call (c_sortedP _) ⟨(.t rfl), trivial⟩ rfl fun r5 h6 => l_p (po_asg (.t rfl)) rfl<|l_nil<|x_tn<|c_ret<|x_ret1 rfl (.t rfl)
end Go.Proofs.YtmnmcobpfpkibaaGreatDoor
namespace Go.Proofs.YtmnmcobpfpkibaaGreatDoor
open Go.RowKit
set_option linter.unusedVariables false
set_option maxRecDepth 20000
noncomputable def seg_To (a0 : Int) : Option Int :=
  if (decide (a0 ≥ 64)) = true then (some 18446744073709551615) else ((nn a0).bind (fun u3 => some (IntKind.wrap .u64 ((bShl .u64 1 a0) - 1))))
theorem c_seg_To (a0 : Int) : Ct Tryz.prog 184 [rd kInt a0] (seg_To a0) (fun r => rd kU64 r) := by
  unfold seg_To
  refine enter Tryz.func184 rfl Tryz.ntmps184 rfl (by kernel_rfl) fun z => c_seq<|c_reg<|l_p (po_asg (ev_u _)) rfl<|l_nil<|x_tn<|c_seq<|c_seq<|c_reg<|l_p (po_mov (.t rfl)) rfl<|l_p (po_ge (.t rfl) (ev_i _)) rfl<|l_nil<|x_tn<|c_if rfl (fun h1 => ?_) (fun h1 => ?_)
  · exact c_seq<|c_reg<|l_p (po_asg (ev_u _)) rfl<|l_nil<|x_tn<|c_ret<|x_tr<|x_ret1 rfl (.t rfl)
  · exact c_skip<|x_tn<|c_seq<|c_reg<|l_p (po_mov (.t rfl)) rfl<|l_bind fun u3 h2 => l_p (po_shl (ev_u _) (.t rfl) (nn_ge h2)) rfl<|l_p (po_sub (.t rfl) (ev_u _)) rfl<|l_p (po_asg (.t rfl)) rfl<|l_nil<|x_tn<|c_ret<|x_ret1 rfl (.t rfl)
noncomputable def seg_May (a0 : (List Seg)) : Option Bool :=
  lfold (fun (i4 : Int) (x5 : Seg) (s2 : Bool) k1 => jn (fun (b9 : Bool) => jn (fun (b13 : Bool) => jn (fun (b17 : Bool) => jn (fun (b21 : Bool) => if b21 = true then (some false) else (k1 s2)) (fun k20 => if b17 = true then (k20 true) else (jn (fun (b25 : Bool) => k20 b25) (fun k24 => if (decide (i4 > 0)) = true then ((at? a0 (IntKind.wrap .i64 (i4 - 1))).bind (fun u29 => (at? a0 (IntKind.wrap .i64 (i4 - 1))).bind (fun u31 => k24 (decide ((Seg.at_ x5) ≤ (IntKind.wrap .i64 ((Seg.at_ u29) + (Seg.len u31)))))))) else (k24 false))))) (fun k16 => if b13 = true then (k16 true) else (k16 (decide ((Seg.len x5) > (IntKind.wrap .i64 (64 - (Seg.at_ x5)))))))) (fun k12 => if b9 = true then (k12 true) else (k12 (decide ((Seg.at_ x5) > 64))))) (fun k8 => if (decide ((Seg.at_ x5) < 0)) = true then (k8 true) else (k8 (decide ((Seg.len x5) < 1))))) (fun (s2 : Bool) => some true) 0 a0 false
theorem c_seg_May (a0 : (List Seg)) : Ct Tryz.prog 254 [rd (kSl kSeg) a0] (seg_May a0) (fun r => rd kBool r) := by
  unfold seg_May
  refine enter Tryz.func254 rfl Tryz.ntmps254 rfl (by kernel_rfl) fun z => c_seq<|c_reg<|l_p (po_asg (.b _)) rfl<|l_nil<|x_tn<|c_seq<|c_seq<|c_reg<|l_p (po_mov (.t rfl)) rfl<|l_p (po_len (ty := 0) (.t rfl) sl83) rfl<|l_p (po_mov (ev_i _)) rfl<|l_nil<|x_tn<|c_blk<|c_rng (tx := 5) (fun (s2 : Bool) (e3 : Unit) => [(0, rd (kSl kSeg) a0), (2, rd kBool s2)]) (fun (s2 : Bool) (e3 : Unit) => []) () ⟨rfl, rfl, trivial⟩ (.nil _) rfl rfl rfl ⟨rfl, rfl, rfl, rfl, rfl, rfl, rfl, rfl, rfl, rfl, rfl, rfl⟩ (fun _ _ => rfl) (fun i4 x5 s2 e3 k1 h6 => ?_) (fun s2 e3 => ?_)
  · refine c_seq<|c_reg<|l_p (po_mov (.t rfl)) rfl<|l_p (po_ia (.t rfl) (.t rfl) (at_nat h6) sl83) rfl<|l_p (po_la (.t rfl) ty108) rfl<|l_new kSeg tz108 rfl fun g7 => l_p (po_asg (.t rfl)) rfl<|l_st 0 (.t rfl) (.t rfl) rfl (Fld.me _) ty108<|l_nil<|x_tn<|c_seq<|c_draw [0, 1, 2, 3, 4, 5, 6, 7, 8, 9, 10, 11, 12, 13, 14, 15, 16, 17, 18, 19, 20, 21, 22, 23, 24, 25, 26, 27, 28, 29, 30, 31, 32, 33, 34, 35, 36, 37, 38, 39, 40, 41, 42] [] [] (by kernel_rfl) (by kernel_rfl)<|w_p rfl rfl (po_fo (.t rfl) fs108_0) rfl<|w_p rfl rfl (po_lo 0 (.t rfl) rfl F_Seg_at_ ty3) rfl<|w_p rfl rfl (po_lt (.t rfl) (ev_i _)) rfl<|w_p rfl rfl (po_mov (.t rfl)) rfl<|w_jn 4 (fun (b9 : Bool) (e10 : Unit) => [(7, rd kInt (i4 : Int)), (6, rd kInt (a0.length : Int)), (5, rd (kSl kSeg) a0), (0, rd (kSl kSeg) a0), (2, rd kBool s2), (4, own g7 0), (3, rd kInt (i4 : Int)), (19, rd kBool b9)]) (fun (b9 : Bool) (e10 : Unit) => [(some g7, box kSeg x5)]) (fun k8 => ?_) (fun b9 e10 => ?_)
    · refine w_if (fun h11 => ?_) (fun h11 => ?_)
      · exact w_skip rfl ⟨_, rfl, .inl ⟨_, rfl, ne_f h11⟩⟩ rfl<|w_skip rfl ⟨_, rfl, .inl ⟨_, rfl, ne_f h11⟩⟩ rfl<|w_skip rfl ⟨_, rfl, .inl ⟨_, rfl, ne_f h11⟩⟩ rfl<|w_p rfl rfl (po_pickt (t := rd kBool true) (.t rfl) h11 (.b _)) rfl<|w_nil<|x_mid (true, ()) rfl ⟨rfl, rfl, rfl, rfl, rfl, rfl, rfl, rfl, trivial⟩ (.c (.nil _))
      · exact w_po rfl rfl ⟨_, rfl, _, rfl, h11⟩ (po_fo (.t rfl) fs108_1) rfl<|w_po rfl rfl ⟨_, rfl, _, rfl, h11⟩ (po_lo 0 (.t rfl) rfl F_Seg_len ty3) rfl<|w_po rfl rfl ⟨_, rfl, _, rfl, h11⟩ (po_lt (.t rfl) (ev_i _)) rfl<|w_p rfl rfl (po_pickf (t := rd kBool (decide ((Seg.len x5) < 1))) (.t rfl) h11 (.t rfl)) rfl<|w_nil<|x_mid ((decide ((Seg.len x5) < 1)), ()) rfl ⟨rfl, rfl, rfl, rfl, rfl, rfl, rfl, rfl, trivial⟩ (.c (.nil _))
    · refine w_p rfl rfl (po_mov (.t rfl)) rfl<|w_jn 4 (fun (b13 : Bool) (e14 : Unit) => [(7, rd kInt (i4 : Int)), (6, rd kInt (a0.length : Int)), (5, rd (kSl kSeg) a0), (0, rd (kSl kSeg) a0), (2, rd kBool s2), (4, own g7 0), (3, rd kInt (i4 : Int)), (24, rd kBool b13)]) (fun (b13 : Bool) (e14 : Unit) => [(some g7, box kSeg x5)]) (fun k12 => ?_) (fun b13 e14 => ?_)
      · refine w_if (fun h15 => ?_) (fun h15 => ?_)
        · exact w_skip rfl ⟨_, rfl, .inl ⟨_, rfl, ne_f h15⟩⟩ rfl<|w_skip rfl ⟨_, rfl, .inl ⟨_, rfl, ne_f h15⟩⟩ rfl<|w_skip rfl ⟨_, rfl, .inl ⟨_, rfl, ne_f h15⟩⟩ rfl<|w_p rfl rfl (po_pickt (t := rd kBool true) (.t rfl) h15 (.b _)) rfl<|w_nil<|x_mid (true, ()) rfl ⟨rfl, rfl, rfl, rfl, rfl, rfl, rfl, rfl, trivial⟩ (.c (.nil _))
        · exact w_po rfl rfl ⟨_, rfl, _, rfl, h15⟩ (po_fo (.t rfl) fs108_0) rfl<|w_po rfl rfl ⟨_, rfl, _, rfl, h15⟩ (po_lo 0 (.t rfl) rfl F_Seg_at_ ty3) rfl<|w_po rfl rfl ⟨_, rfl, _, rfl, h15⟩ (po_gt (.t rfl) (ev_i _)) rfl<|w_p rfl rfl (po_pickf (t := rd kBool (decide ((Seg.at_ x5) > 64))) (.t rfl) h15 (.t rfl)) rfl<|w_nil<|x_mid ((decide ((Seg.at_ x5) > 64)), ()) rfl ⟨rfl, rfl, rfl, rfl, rfl, rfl, rfl, rfl, trivial⟩ (.c (.nil _))
      · refine w_p rfl rfl (po_mov (.t rfl)) rfl<|w_jn 7 (fun (b17 : Bool) (e18 : Unit) => [(7, rd kInt (i4 : Int)), (6, rd kInt (a0.length : Int)), (5, rd (kSl kSeg) a0), (0, rd (kSl kSeg) a0), (2, rd kBool s2), (4, own g7 0), (3, rd kInt (i4 : Int)), (32, rd kBool b17)]) (fun (b17 : Bool) (e18 : Unit) => [(some g7, box kSeg x5)]) (fun k16 => ?_) (fun b17 e18 => ?_)
        · refine w_if (fun h19 => ?_) (fun h19 => ?_)
          · exact w_skip rfl ⟨_, rfl, .inl ⟨_, rfl, ne_f h19⟩⟩ rfl<|w_skip rfl ⟨_, rfl, .inl ⟨_, rfl, ne_f h19⟩⟩ rfl<|w_skip rfl ⟨_, rfl, .inl ⟨_, rfl, ne_f h19⟩⟩ rfl<|w_skip rfl ⟨_, rfl, .inl ⟨_, rfl, ne_f h19⟩⟩ rfl<|w_skip rfl ⟨_, rfl, .inl ⟨_, rfl, ne_f h19⟩⟩ rfl<|w_skip rfl ⟨_, rfl, .inl ⟨_, rfl, ne_f h19⟩⟩ rfl<|w_p rfl rfl (po_pickt (t := rd kBool true) (.t rfl) h19 (.b _)) rfl<|w_nil<|x_mid (true, ()) rfl ⟨rfl, rfl, rfl, rfl, rfl, rfl, rfl, rfl, trivial⟩ (.c (.nil _))
          · exact w_po rfl rfl ⟨_, rfl, _, rfl, h19⟩ (po_fo (.t rfl) fs108_1) rfl<|w_po rfl rfl ⟨_, rfl, _, rfl, h19⟩ (po_lo 0 (.t rfl) rfl F_Seg_len ty3) rfl<|w_po rfl rfl ⟨_, rfl, _, rfl, h19⟩ (po_fo (.t rfl) fs108_0) rfl<|w_po rfl rfl ⟨_, rfl, _, rfl, h19⟩ (po_lo 0 (.t rfl) rfl F_Seg_at_ ty3) rfl<|w_po rfl rfl ⟨_, rfl, _, rfl, h19⟩ (po_sub (ev_i _) (.t rfl)) rfl<|w_po rfl rfl ⟨_, rfl, _, rfl, h19⟩ (po_gt (.t rfl) (.t rfl)) rfl<|w_p rfl rfl (po_pickf (t := rd kBool (decide ((Seg.len x5) > (IntKind.wrap .i64 (64 - (Seg.at_ x5)))))) (.t rfl) h19 (.t rfl)) rfl<|w_nil<|x_mid ((decide ((Seg.len x5) > (IntKind.wrap .i64 (64 - (Seg.at_ x5))))), ()) rfl ⟨rfl, rfl, rfl, rfl, rfl, rfl, rfl, rfl, trivial⟩ (.c (.nil _))
        · refine w_p rfl rfl (po_mov (.t rfl)) rfl<|w_jn 21 (fun (b21 : Bool) (e22 : Unit) => [(7, rd kInt (i4 : Int)), (6, rd kInt (a0.length : Int)), (5, rd (kSl kSeg) a0), (0, rd (kSl kSeg) a0), (2, rd kBool s2), (54, rd kBool b21)]) (fun (b21 : Bool) (e22 : Unit) => []) (fun k20 => ?_) (fun b21 e22 => ?_)
          · refine w_if (fun h23 => ?_) (fun h23 => ?_)
            · exact w_skip rfl ⟨_, rfl, .inl ⟨_, rfl, ne_f h23⟩⟩ rfl<|w_skip rfl ⟨_, rfl, .inl ⟨_, rfl, ne_f h23⟩⟩ rfl<|w_skip rfl ⟨_, rfl, .inl ⟨_, rfl, ne_f h23⟩⟩ rfl<|w_skip rfl ⟨_, rfl, .inr rfl⟩ rfl<|w_skip rfl ⟨_, rfl, .inr rfl⟩ rfl<|w_skip rfl ⟨_, rfl, .inr rfl⟩ rfl<|w_skip rfl ⟨_, rfl, .inr rfl⟩ rfl<|w_skip rfl ⟨_, rfl, .inr rfl⟩ rfl<|w_skip rfl ⟨_, rfl, .inr rfl⟩ rfl<|w_skip rfl ⟨_, rfl, .inr rfl⟩ rfl<|w_skip rfl ⟨_, rfl, .inr rfl⟩ rfl<|w_skip rfl ⟨_, rfl, .inr rfl⟩ rfl<|w_skip rfl ⟨_, rfl, .inr rfl⟩ rfl<|w_skip rfl ⟨_, rfl, .inr rfl⟩ rfl<|w_skip rfl ⟨_, rfl, .inr rfl⟩ rfl<|w_skip rfl ⟨_, rfl, .inr rfl⟩ rfl<|w_skip rfl ⟨_, rfl, .inr rfl⟩ rfl<|w_skip rfl ⟨_, rfl, .inr rfl⟩ rfl<|w_skip rfl ⟨_, rfl, .inr rfl⟩ rfl<|w_skip rfl ⟨_, rfl, .inl ⟨_, rfl, ne_f h23⟩⟩ rfl<|w_p rfl rfl (po_pickt (t := rd kBool true) (.t rfl) h23 (.b _)) rfl<|w_nil<|x_mid (true, ()) rfl ⟨rfl, rfl, rfl, rfl, rfl, rfl, trivial⟩ (.nil _)
            · refine w_po rfl rfl ⟨_, rfl, _, rfl, h23⟩ (po_mov (.t rfl)) rfl<|w_po rfl rfl ⟨_, rfl, _, rfl, h23⟩ (po_gt (.t rfl) (ev_i _)) rfl<|w_po rfl rfl ⟨_, rfl, _, rfl, h23⟩ (po_mov (.t rfl)) rfl<|w_jn 17 (fun (b25 : Bool) (e26 : Unit) => [(7, rd kInt (i4 : Int)), (6, rd kInt (a0.length : Int)), (5, rd (kSl kSeg) a0), (0, rd (kSl kSeg) a0), (2, rd kBool s2), (33, rd kBool b17), (53, rd kBool b25)]) (fun (b25 : Bool) (e26 : Unit) => []) (fun k24 => ?_) (fun b25 e26 => ?_)
              · refine w_if (fun h27 => ?_) (fun h27 => ?_)
                · exact w_po rfl rfl ⟨_, rfl, _, rfl, h27⟩ (po_fo (.t rfl) fs108_0) rfl<|w_po rfl rfl ⟨_, rfl, _, rfl, h27⟩ (po_lo 0 (.t rfl) rfl F_Seg_at_ ty3) rfl<|w_po rfl rfl ⟨_, rfl, _, rfl, h27⟩ (po_mov (.t rfl)) rfl<|w_po rfl rfl ⟨_, rfl, _, rfl, h27⟩ (po_mov (.t rfl)) rfl<|w_po rfl rfl ⟨_, rfl, _, rfl, h27⟩ (po_sub (.t rfl) (ev_i _)) rfl<|w_bind fun u29 h28 => w_po rfl rfl ⟨_, rfl, _, rfl, h27⟩ (po_ia (.t rfl) (.t rfl) h28 sl83) rfl<|w_po rfl rfl ⟨_, rfl, _, rfl, h27⟩ (po_fa (.t rfl) fs108_0 F_Seg_at_) rfl<|w_po rfl rfl ⟨_, rfl, _, rfl, h27⟩ (po_la (.t rfl) ty3) rfl<|w_po rfl rfl ⟨_, rfl, _, rfl, h27⟩ (po_mov (.t rfl)) rfl<|w_po rfl rfl ⟨_, rfl, _, rfl, h27⟩ (po_mov (.t rfl)) rfl<|w_po rfl rfl ⟨_, rfl, _, rfl, h27⟩ (po_sub (.t rfl) (ev_i _)) rfl<|w_bind fun u31 h30 => w_po rfl rfl ⟨_, rfl, _, rfl, h27⟩ (po_ia (.t rfl) (.t rfl) h30 sl83) rfl<|w_po rfl rfl ⟨_, rfl, _, rfl, h27⟩ (po_fa (.t rfl) fs108_1 F_Seg_len) rfl<|w_po rfl rfl ⟨_, rfl, _, rfl, h27⟩ (po_la (.t rfl) ty3) rfl<|w_po rfl rfl ⟨_, rfl, _, rfl, h27⟩ (po_add (.t rfl) (.t rfl)) rfl<|w_po rfl rfl ⟨_, rfl, _, rfl, h27⟩ (po_le (.t rfl) (.t rfl)) rfl<|w_po rfl rfl ⟨_, rfl, _, rfl, h23⟩ (po_pickt (t := rd kBool (decide ((Seg.at_ x5) ≤ (IntKind.wrap .i64 ((Seg.at_ u29) + (Seg.len u31)))))) (.t rfl) h27 (.t rfl)) rfl<|w_nil<|x_mid ((decide ((Seg.at_ x5) ≤ (IntKind.wrap .i64 ((Seg.at_ u29) + (Seg.len u31))))), ()) rfl ⟨rfl, rfl, rfl, rfl, rfl, rfl, rfl, trivial⟩ (.nil _)
                · exact w_skip rfl ⟨_, rfl, .inl ⟨_, rfl, ne_t h27⟩⟩ rfl<|w_skip rfl ⟨_, rfl, .inl ⟨_, rfl, ne_t h27⟩⟩ rfl<|w_skip rfl ⟨_, rfl, .inl ⟨_, rfl, ne_t h27⟩⟩ rfl<|w_skip rfl ⟨_, rfl, .inl ⟨_, rfl, ne_t h27⟩⟩ rfl<|w_skip rfl ⟨_, rfl, .inl ⟨_, rfl, ne_t h27⟩⟩ rfl<|w_skip rfl ⟨_, rfl, .inl ⟨_, rfl, ne_t h27⟩⟩ rfl<|w_skip rfl ⟨_, rfl, .inl ⟨_, rfl, ne_t h27⟩⟩ rfl<|w_skip rfl ⟨_, rfl, .inl ⟨_, rfl, ne_t h27⟩⟩ rfl<|w_skip rfl ⟨_, rfl, .inl ⟨_, rfl, ne_t h27⟩⟩ rfl<|w_skip rfl ⟨_, rfl, .inl ⟨_, rfl, ne_t h27⟩⟩ rfl<|w_skip rfl ⟨_, rfl, .inl ⟨_, rfl, ne_t h27⟩⟩ rfl<|w_skip rfl ⟨_, rfl, .inl ⟨_, rfl, ne_t h27⟩⟩ rfl<|w_skip rfl ⟨_, rfl, .inl ⟨_, rfl, ne_t h27⟩⟩ rfl<|w_skip rfl ⟨_, rfl, .inl ⟨_, rfl, ne_t h27⟩⟩ rfl<|w_skip rfl ⟨_, rfl, .inl ⟨_, rfl, ne_t h27⟩⟩ rfl<|w_skip rfl ⟨_, rfl, .inl ⟨_, rfl, ne_t h27⟩⟩ rfl<|w_po rfl rfl ⟨_, rfl, _, rfl, h23⟩ (po_pickf (t := rd kBool false) (.t rfl) h27 (.b _)) rfl<|w_nil<|x_mid (false, ()) rfl ⟨rfl, rfl, rfl, rfl, rfl, rfl, rfl, trivial⟩ (.nil _)
              · exact w_p rfl rfl (po_pickf (t := rd kBool b25) (.t rfl) h23 (.t rfl)) rfl<|w_nil<|x_mid (b25, ()) rfl ⟨rfl, rfl, rfl, rfl, rfl, rfl, trivial⟩ (.nil _)
          · refine w_nil<|x_tn<|c_if rfl (fun h32 => ?_) (fun h32 => ?_)
            · exact c_seq<|c_reg<|l_p (po_asg (.b _)) rfl<|l_nil<|x_tn<|c_ret<|x_br<|x_mr<|x_br<|x_tr<|x_ret1 rfl (.t rfl)
            · exact c_skip<|x_bn<|x_mid (s2, ()) rfl ⟨rfl, rfl, rfl, rfl, rfl, trivial⟩ (.nil _)
  · exact x_be<|x_tn<|c_seq<|c_reg<|l_p (po_asg (.b _)) rfl<|l_nil<|x_tn<|c_ret<|x_ret1 rfl (.t rfl)
noncomputable def table_id (a0 : Int) : Option Bool :=
  jn (fun (b2 : Bool) => some b2) (fun k1 => if (decide (a0 ≥ 1)) = true then (k1 (decide (a0 ≤ 40))) else (k1 false))
theorem c_table_id (a0 : Int) : Ct Tryz.prog 225 [rd kInt a0] (table_id a0) (fun r => rd kBool r) := by
  unfold table_id
  refine enter Tryz.func225 rfl Tryz.ntmps225 rfl (by kernel_rfl) fun z => c_seq<|c_reg<|l_p (po_asg (.b _)) rfl<|l_nil<|x_tn<|c_seq<|c_reg<|l_p (po_mov (.t rfl)) rfl<|l_p (po_ge (.t rfl) (ev_i _)) rfl<|l_p (po_mov (.t rfl)) rfl<|l_jn 3 (fun (b2 : Bool) (e3 : Unit) => [(2, rd kBool false), (8, rd kBool b2)]) (fun (b2 : Bool) (e3 : Unit) => []) (fun k1 => ?_) (fun b2 e3 => ?_)
  · refine l_if (fun h4 => ?_) (fun h4 => ?_)
    · exact l_po ⟨_, rfl, _, rfl, h4⟩ (po_mov (.t rfl)) rfl<|l_po ⟨_, rfl, _, rfl, h4⟩ (po_le (.t rfl) (ev_i _)) rfl<|l_p (po_pickt (t := rd kBool (decide (a0 ≤ 40))) (.t rfl) h4 (.t rfl)) rfl<|l_nil<|x_mid ((decide (a0 ≤ 40)), ()) rfl ⟨rfl, rfl, trivial⟩ (.nil _)
    · exact l_skipn 2 2 true ⟨_, rfl, _, rfl, ne_t h4⟩ rfl<|l_p (po_pickf (t := rd kBool false) (.t rfl) h4 (.b _)) rfl<|l_nil<|x_mid (false, ()) rfl ⟨rfl, rfl, trivial⟩ (.nil _)
  · exact l_p (po_asg (.t rfl)) rfl<|l_nil<|x_tn<|c_ret<|x_ret1 rfl (.t rfl)
noncomputable def table_end (a0 : Entry) : Option Int :=
  some (IntKind.wrap .i64 ((Entry.from_ a0) + (Entry.len a0)))
theorem c_table_end (a0 : Entry) : Ct Tryz.prog 227 [rd kEntry a0] (table_end a0) (fun r => rd kInt r) := by
  unfold table_end
  exact enter Tryz.func227 rfl Tryz.ntmps227 rfl (by kernel_rfl) fun z => c_seq<|c_reg<|l_box (.t rfl) rfl fun g1 => l_p (po_asg (ev_i _)) rfl<|l_nil<|x_tn<|c_seq<|c_reg<|l_p (po_fo (.t rfl) fs145_0) rfl<|l_p (po_lo 0 (.t rfl) rfl F_Entry_from_ ty3) rfl<|l_p (po_fo (.t rfl) fs145_1) rfl<|l_p (po_lo 0 (.t rfl) rfl F_Entry_len ty3) rfl<|l_p (po_add (.t rfl) (.t rfl)) rfl<|l_p (po_asg (.t rfl)) rfl<|l_nil<|x_tn<|c_ret<|x_ret1 rfl (.t rfl)
noncomputable def slices_BinarySearchFunc_228 (a0 : (List Device)) (a1 : Int) (a2 : ((Device × Int) → Option Int)) : Option (Int × Bool) :=
  rep (fun (s2 : (Int × Int)) k1 => if (decide (s2.1 < s2.2)) = true then ((at? a0 (IntKind.wrap .i64 (bShr .u64 (IntKind.wrap .u64 (IntKind.wrap .i64 (s2.1 + s2.2))) 1))).bind (fun u6 => (a2 (u6, a1)).bind (fun r7 => if (decide (r7 < 0)) = true then (k1 ((IntKind.wrap .i64 ((IntKind.wrap .i64 (bShr .u64 (IntKind.wrap .u64 (IntKind.wrap .i64 (s2.1 + s2.2))) 1)) + 1)), s2.2)) else (k1 (s2.1, (IntKind.wrap .i64 (bShr .u64 (IntKind.wrap .u64 (IntKind.wrap .i64 (s2.1 + s2.2))) 1))))))) else (jn (fun (b11 : Bool) => some (s2.1, b11)) (fun k10 => if (decide (s2.1 < (a0.length : Int))) = true then ((at? a0 s2.1).bind (fun u15 => (a2 (u15, a1)).bind (fun r16 => k10 (r16 == 0)))) else (k10 false)))) FUEL (0, (a0.length : Int))
theorem c_slices_BinarySearchFunc_228 (a0 : (List Device)) (a1 : Int) (a2 : ((Device × Int) → Option Int)) : Ct Tryz.prog 228 [rd (kSl kDevice) a0, rd kInt a1, fnv Tryz.prog (fun (x : (Device × Int)) => [rd kDevice x.1, rd kInt x.2]) a2 (fun r => rd kInt r)] (slices_BinarySearchFunc_228 a0 a1 a2) (fun r => tup [rd kInt r.1, rd kBool r.2]) := by
  unfold slices_BinarySearchFunc_228
  refine enter Tryz.func228 rfl Tryz.ntmps228 rfl (by kernel_rfl) fun z => c_seq<|c_reg<|l_p (po_asg (ev_i _)) rfl<|l_p (po_asg (.b _)) rfl<|l_nil<|x_tn<|c_seq<|c_reg<|l_p (po_mov (.t rfl)) rfl<|l_p (po_len (ty := 0) (.t rfl) sl31) rfl<|l_p (po_asg (.t rfl)) rfl<|l_nil<|x_tn<|c_seq<|c_reg<|l_p (po_mov (.t rfl)) rfl<|l_p (po_asg (ev_i _)) rfl<|l_p (po_asg (.t rfl)) rfl<|l_nil<|x_tn<|c_seq<|c_blk<|c_loop (fun (s2 : (Int × Int)) (e3 : Unit) => [(0, rd (kSl kDevice) a0), (1, rd kInt a1), (2, fnv Tryz.prog (fun (x : (Device × Int)) => [rd kDevice x.1, rd kInt x.2]) a2 (fun r => rd kInt r)), (6, rd kInt 0), (7, rd kBool false), (8, rd kInt (a0.length : Int)), (9, rd kInt s2.1), (10, rd kInt s2.2)]) (fun (s2 : (Int × Int)) (e3 : Unit) => []) () ⟨rfl, rfl, rfl, rfl, rfl, rfl, rfl, rfl, trivial⟩ (.nil _) fun s2 e3 k1 => c_seq<|c_seq<|c_reg<|l_p (po_mov (.t rfl)) rfl<|l_p (po_mov (.t rfl)) rfl<|l_p (po_lt (.t rfl) (.t rfl)) rfl<|l_nil<|x_tn<|c_if rfl (fun h4 => ?_) (fun h4 => ?_)
  · refine c_skip<|x_tn<|c_blk<|c_seq<|c_reg<|l_p (po_mov (.t rfl)) rfl<|l_p (po_mov (.t rfl)) rfl<|l_p (po_add (.t rfl) (.t rfl)) rfl<|l_p (po_cv (b2 := 8) (lo2 := 0) (hi2 := 18446744073709551615) (.t rfl) un3 un100) rfl<|l_p (po_shr (.t rfl) (ev_u _) (by decide)) rfl<|l_p (po_cv (b2 := 8) (lo2 := -9223372036854775808) (hi2 := 9223372036854775807) (.t rfl) un100 un3) rfl<|l_p (po_asg (.t rfl)) rfl<|l_nil<|x_tn<|c_seq<|c_reg<|l_p (po_mov (.t rfl)) rfl<|l_p (po_mov (.t rfl)) rfl<|l_p (po_mov (.t rfl)) rfl<|l_bind fun u6 h5 => l_p (po_ia (.t rfl) (.t rfl) h5 sl31) rfl<|l_p (po_la (.t rfl) ty85) rfl<|l_p (po_mov (.t rfl)) rfl<|l_callv (u6, a1) (.t rfl) ⟨(.t rfl), (.t rfl), trivial⟩ rfl fun r7 h8 => l_p (po_lt (.t rfl) (ev_i _)) rfl<|l_nil<|x_tn<|c_if rfl (fun h9 => ?_) (fun h9 => ?_)
    · exact c_reg<|l_p (po_mov (.t rfl)) rfl<|l_p (po_add (.t rfl) (ev_i _)) rfl<|l_p (po_asg (.t rfl)) rfl<|l_nil<|x_bn<|x_mid (((IntKind.wrap .i64 ((IntKind.wrap .i64 (bShr .u64 (IntKind.wrap .u64 (IntKind.wrap .i64 (s2.1 + s2.2))) 1)) + 1)), s2.2), ()) rfl ⟨rfl, rfl, rfl, rfl, rfl, rfl, rfl, rfl, trivial⟩ (.nil _)
    · exact c_reg<|l_p (po_mov (.t rfl)) rfl<|l_p (po_asg (.t rfl)) rfl<|l_nil<|x_bn<|x_mid ((s2.1, (IntKind.wrap .i64 (bShr .u64 (IntKind.wrap .u64 (IntKind.wrap .i64 (s2.1 + s2.2))) 1))), ()) rfl ⟨rfl, rfl, rfl, rfl, rfl, rfl, rfl, rfl, trivial⟩ (.nil _)
  · refine c_exit<|x_te<|x_me<|x_be<|x_tn<|c_seq<|c_reg<|l_p (po_mov (.t rfl)) rfl<|l_p (po_mov (.t rfl)) rfl<|l_p (po_mov (.t rfl)) rfl<|l_p (po_lt (.t rfl) (.t rfl)) rfl<|l_p (po_mov (.t rfl)) rfl<|l_jn 9 (fun (b11 : Bool) (e12 : Unit) => [(6, rd kInt 0), (7, rd kBool false), (35, rd kInt s2.1), (48, rd kBool b11)]) (fun (b11 : Bool) (e12 : Unit) => []) (fun k10 => ?_) (fun b11 e12 => ?_)
    · refine l_if (fun h13 => ?_) (fun h13 => ?_)
      · exact l_po ⟨_, rfl, _, rfl, h13⟩ (po_mov (.t rfl)) rfl<|l_po ⟨_, rfl, _, rfl, h13⟩ (po_mov (.t rfl)) rfl<|l_po ⟨_, rfl, _, rfl, h13⟩ (po_mov (.t rfl)) rfl<|l_bind fun u15 h14 => l_po ⟨_, rfl, _, rfl, h13⟩ (po_ia (.t rfl) (.t rfl) h14 sl31) rfl<|l_po ⟨_, rfl, _, rfl, h13⟩ (po_la (.t rfl) ty85) rfl<|l_po ⟨_, rfl, _, rfl, h13⟩ (po_mov (.t rfl)) rfl<|l_callvg (u15, a1) ⟨_, rfl, _, rfl, h13⟩ (.t rfl) ⟨(.t rfl), (.t rfl), trivial⟩ rfl fun r16 h17 => l_po ⟨_, rfl, _, rfl, h13⟩ (po_eq (.t rfl) (ev_i _)) rfl<|l_p (po_pickt (t := rd kBool (r16 == 0)) (.t rfl) h13 (.t rfl)) rfl<|l_nil<|x_mid ((r16 == 0), ()) rfl ⟨rfl, rfl, rfl, rfl, trivial⟩ (.nil _)
      · exact l_skipn 8 4 true ⟨_, rfl, _, rfl, ne_t h13⟩ rfl<|l_p (po_pickf (t := rd kBool false) (.t rfl) h13 (.b _)) rfl<|l_nil<|x_mid (false, ()) rfl ⟨rfl, rfl, rfl, rfl, trivial⟩ (.nil _)
    · exact l_p (po_asg (.t rfl)) rfl<|l_p (po_asg (.t rfl)) rfl<|l_nil<|x_tn<|c_ret<|x_retn rfl rfl rfl ⟨(.t rfl), (.t rfl), trivial⟩
noncomputable def room_Find_1 (a0 : Device) (a1 : Int) : Option Int :=
  some (IntKind.wrap .i64 ((Device.iD a0) - a1))
theorem c_room_Find_1 (a0 : Device) (a1 : Int) : Ct Tryz.prog 229 [rd kDevice a0, rd kInt a1] (room_Find_1 a0 a1) (fun r => rd kInt r) := by
  unfold room_Find_1
  exact enter Tryz.func229 rfl Tryz.ntmps229 rfl (by kernel_rfl) fun z => c_seq<|c_reg<|l_box (.t rfl) rfl fun g1 => l_p (po_asg (ev_i _)) rfl<|l_nil<|x_tn<|c_seq<|c_reg<|l_p (po_fo (.t rfl) fs85_0) rfl<|l_p (po_lo 0 (.t rfl) rfl F_Device_iD ty3) rfl<|l_p (po_mov (.t rfl)) rfl<|l_p (po_sub (.t rfl) (.t rfl)) rfl<|l_p (po_asg (.t rfl)) rfl<|l_nil<|x_tn<|c_ret<|x_ret1 rfl (.t rfl)
noncomputable def chain_ids_1 (a0 : Device) (a1 : Pool) : Option Bool :=
  some (decide ((Device.iD a0) ≥ (Pool.next a1)))
theorem c_chain_ids_1 (a0 : Device) (a1 : Pool) : Ct Tryz.prog 174 [rd kDevice a0, at_ kPool a1] (chain_ids_1 a0 a1) (fun r => rd kBool r) := by
  unfold chain_ids_1
  exact enter Tryz.func174 rfl Tryz.ntmps174 rfl (by kernel_rfl) fun z => c_seq<|c_reg<|l_box (.t rfl) rfl fun g1 => l_p (po_asg (.b _)) rfl<|l_nil<|x_tn<|c_seq<|c_reg<|l_p (po_fo (.t rfl) fs85_0) rfl<|l_p (po_lo 0 (.t rfl) rfl F_Device_iD ty3) rfl<|l_p (po_fa (.t rfl) fs39_3 F_Pool_next) rfl<|l_p (po_la (.t rfl) ty3) rfl<|l_p (po_ge (.t rfl) (.t rfl)) rfl<|l_p (po_asg (.t rfl)) rfl<|l_nil<|x_tn<|c_ret<|x_ret1 rfl (.t rfl)
noncomputable def slices_IndexFunc_127 (a0 : (List Table)) (a1 : (Table → Option Bool)) : Option Int :=
  lfold (fun (i4 : Int) (x5 : Table) (s2 : Int) k1 => (a1 x5).bind (fun r7 => if r7 = true then (some i4) else (k1 s2))) (fun (s2 : Int) => some (-1)) 0 a0 0
theorem c_slices_IndexFunc_127 (a0 : (List Table)) (a1 : (Table → Option Bool)) : Ct Tryz.prog 127 [rd (kSl kTable) a0, fnv Tryz.prog (fun (x : Table) => [rd kTable x]) a1 (fun r => rd kBool r)] (slices_IndexFunc_127 a0 a1) (fun r => rd kInt r) := by
  unfold slices_IndexFunc_127
  refine enter Tryz.func127 rfl Tryz.ntmps127 rfl (by kernel_rfl) fun z => c_seq<|c_reg<|l_p (po_asg (ev_i _)) rfl<|l_nil<|x_tn<|c_seq<|c_seq<|c_reg<|l_p (po_mov (.t rfl)) rfl<|l_p (po_len (ty := 0) (.t rfl) sl32) rfl<|l_p (po_mov (ev_i _)) rfl<|l_nil<|x_tn<|c_blk<|c_rng (tx := 0) (fun (s2 : Int) (e3 : Unit) => [(1, fnv Tryz.prog (fun (x : Table) => [rd kTable x]) a1 (fun r => rd kBool r)), (4, rd kInt s2)]) (fun (s2 : Int) (e3 : Unit) => []) () ⟨rfl, rfl, trivial⟩ (.nil _) rfl rfl rfl ⟨rfl, rfl, rfl, rfl, rfl, rfl, rfl, rfl, rfl, rfl, rfl, rfl⟩ (fun _ _ => rfl) (fun i4 x5 s2 e3 k1 h6 => ?_) (fun s2 e3 => ?_)
  · refine c_seq<|c_reg<|l_p (po_mov (.t rfl)) rfl<|l_p (po_asg (.t rfl)) rfl<|l_nil<|x_tn<|c_seq<|c_reg<|l_p (po_mov (.t rfl)) rfl<|l_p (po_mov (.t rfl)) rfl<|l_p (po_mov (.t rfl)) rfl<|l_p (po_ia (.t rfl) (.t rfl) (at_nat h6) sl32) rfl<|l_p (po_la (.t rfl) ty35) rfl<|l_callv x5 (.t rfl) ⟨(.t rfl), trivial⟩ rfl fun r7 h8 => l_nil<|x_tn<|c_if rfl (fun h9 => ?_) (fun h9 => ?_)
    · exact c_seq<|c_reg<|l_p (po_mov (.t rfl)) rfl<|l_p (po_asg (.t rfl)) rfl<|l_nil<|x_tn<|c_ret<|x_br<|x_mr<|x_br<|x_tr<|x_ret1 rfl (.t rfl)
    · exact c_skip<|x_bn<|x_mid (s2, ()) rfl ⟨rfl, rfl, rfl, rfl, rfl, trivial⟩ (.nil _)
  · exact x_be<|x_tn<|c_seq<|c_reg<|l_p (po_asg (ev_i _)) rfl<|l_nil<|x_tn<|c_ret<|x_ret1 rfl (.t rfl)
end Go.Proofs.YtmnmcobpfpkibaaGreatDoor
