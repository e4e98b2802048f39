/- A region that draws its order and holds calls and new blocks: what may float is taken first, the others are forced. One walk serves every order. -/
import Derived.Test.YtinodflkkcdakaaLib
namespace Go.Proofs.Ytinodflkkcdakaa
open Go.RowKit
set_option linter.unusedVariables false

/-- A later world. -/
def Later (w : World) : Type := { w' : World // Ext w w' }
instance (w : World) : Nonempty (Later w) := ⟨⟨w, Ext.refl w⟩⟩
def Later.w {w : World} (x : Later w) : World := x.1
@[go_sem] theorem Later.cell? {w : World} (x : Later w) (a : Addr) (h : (w.cell? a).isSome = true) : x.w.cell? a = w.cell? a := by
  obtain ⟨v, hv⟩ := Option.isSome_iff_exists.1 h
  rw [hv]
  exact Ext.cell x.2 hv

section
variable {P : Program} {ops : Array Oper} {md : Region.Mode}
def NoQ : Exit → Act → World → Prop := fun _ _ _ => False
theorem noQ_lets : ¬ LetsOut NoQ := fun ⟨_, _, h⟩ => h
theorem Oper.wp_ofNo {o : Oper} {a : Act} {w : World} {K K' : Act → World → Prop} {Q : Exit → Act → World → Prop} (h : ∀ a w, K a w → K' a w) (hh : o.wp P a w K NoQ) : o.wp P a w K' Q := by
  unfold Oper.wp at *
  generalize (execOp a.eval o).run P w = r at *
  cases r with
  | ok n w' =>
    cases n <;> simp only [Oper.upon] at hh ⊢ <;>
      first
        | exact h _ _ hh
        | exact Calls.mono hh (fun e w'' he => by cases e <;> first | exact h _ _ he | exact he.elim | exact (noQ_lets he).elim)
        | exact Rows.mono hh (fun _ _ he => h _ _ he)
  | halt x w' => cases x <;> simp only [Oper.upon, NoQ] at hh
theorem wpOp_ofNo {i : Nat} {a : Act} {w : World} {K K' : Act → World → Prop} {Q : Exit → Act → World → Prop} (h : ∀ a w, K a w → K' a w) (hh : wpOp P ops NoQ i K a w) : wpOp P ops Q i K' a w := by
  unfold wpOp at *
  split
  · exact h _ _ (by simpa [*] using hh)
  · rename_i o ho
    simp only [ho] at hh
    split
    · rename_i hw
      simp only [hw, if_true] at hh
      rcases hh with hh | hh
      · exact .inl (Oper.wp_ofNo h hh)
      · exact (noQ_lets hh.2).elim
    · rename_i hw; simp only [hw] at hh; exact h _ _ hh

/-- What floats: in this world and every later one it yields this value and leaves the world as it is. -/
def FloatAt (P : Program) (ops : Array Oper) (o : Oper) (v : Value) (a : Act) (w : World) : Prop :=
  (Region.wanted o (yielded ops a.tmps) = true ∧ ∀ x : Later w, (execOp a.eval o).run P x.w = .ok (.value v) x.w) ∨
  (Region.wanted o (yielded ops a.tmps) = false ∧ v = undef)
theorem FloatAt.later {o : Oper} {v : Value} {a : Act} {w w' : World} (h : FloatAt P ops o v a w) (he : Ext w w') : FloatAt P ops o v a w' := by
  rcases h with ⟨h1, h2⟩ | h
  · exact .inl ⟨h1, fun x => h2 ⟨x.1, he.trans x.2⟩⟩
  · exact .inr h
theorem FloatAt.of_same {o : Oper} {v : Value} {a a' : Act} {w : World} (hy : FloatAt P ops o v a w) (he : execOp a'.eval o = execOp a.eval o)
    (hw : Region.wanted o (yielded ops a'.tmps) = Region.wanted o (yielded ops a.tmps)) : FloatAt P ops o v a' w := by
  unfold FloatAt at *
  rw [he, hw]
  exact hy
theorem FloatAt.wpOp {i : Nat} {o : Oper} {v : Value} {a : Act} {w : World} {Q : Exit → Act → World → Prop} (hi : ops[i]? = some o) (hy : FloatAt P ops o v a w) {K : Act → World → Prop} (h : K (a.put o.dst v) w) : Go.wpOp P ops Q i K a w := by
  unfold Go.wpOp
  simp only [hi]
  rcases hy with ⟨hw, hv⟩ | ⟨hw, rfl⟩
  · have := hv ⟨w, Ext.refl w⟩
    have e : (Later.w ⟨w, Ext.refl w⟩ : World) = w := rfl
    rw [e] at this
    simp only [hw, if_true, Oper.wp, this, Oper.upon]; exact .inl h
  · simp only [hw, Bool.false_eq_true, if_false]; exact h
theorem wpOp_putF {j : Nat} {oi oj : Oper} {v : Value} (hj : ops[j]? = some oj) (hap : oi.apart ops oj = true)
    (hsi : ∀ cs b, oi.op ≠ .select cs b) (hsj : ∀ cs b, oj.op ≠ .select cs b) {K : Act → World → Prop} {a : Act} {w : World}
    (hy : FloatAt P ops oi v a w) (h : wpOp P ops NoQ j K (a.put oi.dst v) w) :
    wpOp P ops NoQ j (fun a' w' => FloatAt P ops oi v a' w ∧ K (a'.put oi.dst v) w') a w := by
  obtain ⟨h1, h2, h3⟩ := Oper.apart_spec hap
  have keep : ∀ (a : Act), FloatAt P ops oi v a w → ∀ u, FloatAt P ops oi v (a.put oj.dst u) w := fun a hy u =>
    hy.of_same (execOp_put oi hsi a oj.dst u h3) (wanted_put oi a oj.dst u h3)
  have keepD : ∀ d, FloatAt P ops oi v { a with defers := d :: a.defers } w := fun d => hy.of_same rfl rfl
  unfold wpOp at *
  simp only [hj] at *
  rw [wanted_put oj a oi.dst v h1] at h
  split
  · rename_i hw
    simp only [hw, if_true] at h
    rcases h with h | ⟨_, hlets⟩
    case inr => exact (noQ_lets hlets).elim
    refine .inl ?_
    unfold Oper.wp at *
    rw [execOp_put oj hsj a oi.dst v h1] at h
    generalize (execOp a.eval oj).run P w = r at *
    cases r with
    | ok n w' =>
      cases n <;> simp only [Oper.upon] at h ⊢
      case value u => exact ⟨keep a hy u, by rw [← Act.put_comm a v u h2]; exact h⟩
      case skip => exact ⟨keep a hy _, by rw [← Act.put_comm a v undef h2]; exact h⟩
      case defer d =>
        refine ⟨keep _ (keepD d) _, ?_⟩
        rw [← Act.put_comm _ v undef h2, ← Act.put_defers]
        exact h
      case enter f args =>
        refine Calls.mono h fun e w'' he => ?_
        cases e with
        | returned u => exact ⟨keep a hy u, by rw [← Act.put_comm a v u h2]; exact he⟩
        | panicked c => exact he
        | outgrown => exact he
      case row row args => exact Rows.mono h fun u w'' he => ⟨keep a hy u, by rw [← Act.put_comm a v u h2]; exact he⟩
    | halt x w' =>
      cases x <;> simp only [Oper.upon] at h ⊢
      case panic u => exact h
  · rename_i hw
    simp only [hw] at h
    exact ⟨keep a hy _, by rw [← Act.put_comm a v undef h2]; exact h⟩

/-- Whatever order is picked from here on; all but the sinks leave what there was. -/
def anyE (P : Program) (ops : Array Oper) (sk : Nat → Bool) (Q : Act → World → Prop) : Nat → Array Bool → Act → World → Prop
  | 0, listed, a, w => Region.ready .any ops listed = [] ∧ Q a w
  | f + 1, listed, a, w => (Region.ready .any ops listed = [] → Q a w) ∧
    ∀ i ∈ Region.ready .any ops listed, wpOp P ops NoQ i (fun a' w' => (sk i = false → Ext w w') ∧ anyE P ops sk Q f (listed.setIfInBounds i true) a' w') a w
theorem wpAny_of_anyE {sk : Nat → Bool} {Q : Act → World → Prop} {Q' : Exit → Act → World → Prop} (hQ : ∀ a w, Q a w → Q' .normal a w) : ∀ (f : Nat) (listed : Array Bool) (a : Act) (w : World),
    anyE P ops sk Q f listed a w → wpAny P .any ops Q' f listed a w
  | 0, _, _, _, h => ⟨h.1, hQ _ _ h.2⟩
  | f + 1, _, _, _, h => ⟨fun h0 => hQ _ _ (h.1 h0), fun i hi => wpOp_ofNo (fun a' w' h' => wpAny_of_anyE hQ f _ a' w' h'.2) (h.2 i hi)⟩

/-- Is i among what j waits for, at last? -/
def anc (ops : Array Oper) : Nat → Nat → Nat → Bool
  | 0, _, _ => false
  | f + 1, j, i => match ops[j]? with
    | some o => o.after.any (fun e => Region.binds .any e && e.on == i) || o.after.any (fun e => Region.binds .any e && anc ops f e.on i)
    | none => false
def Closed (ops : Array Oper) (listed : Array Bool) : Prop :=
  ∀ j o, ops[j]? = some o → listed.getD j false = true → ∀ e ∈ o.after, Region.binds .any e = true → listed.getD e.on false = true
theorem anc_listed {listed : Array Bool} (hc : Closed ops listed) {i : Nat} : ∀ (f j : Nat) {o : Oper}, ops[j]? = some o → (∀ e ∈ o.after, Region.binds .any e = true → listed.getD e.on false = true) → anc ops f j i = true → listed.getD i false = true
  | 0, _, _, _, _, h => by simp [anc] at h
  | f + 1, j, o, ho, hd, h => by
    simp only [anc, ho, Bool.or_eq_true] at h
    rcases h with h | h
    · obtain ⟨e, he, hb⟩ := Array.any_eq_true'.1 h
      simp only [Bool.and_eq_true, beq_iff_eq] at hb
      rw [← hb.2]; exact hd e he hb.1
    · obtain ⟨e, he, hb⟩ := Array.any_eq_true'.1 h
      simp only [Bool.and_eq_true] at hb
      have hl := hd e he hb.1
      cases f with
      | zero => simp [anc] at hb
      | succ f =>
        cases ho2 : ops[e.on]? with
        | none => simp [anc, ho2] at hb
        | some o2 => exact anc_listed hc (f + 1) e.on ho2 (fun e' he' hb' => hc e.on o2 ho2 hl e' he' hb') hb.2
theorem Closed.set {listed : Array Bool} {j : Nat} (hc : Closed ops listed) (hj : j ∈ Region.ready .any ops listed) : Closed ops (listed.setIfInBounds j true) := by
  obtain ⟨_, oj, hoj, hall⟩ := mem_ready.1 hj
  intro k o hk hl e he hb
  by_cases hjk : j = k
  · subst hjk
    have : o = oj := Option.some.inj (hk.symm.trans hoj)
    subst this
    exact getD_set_true (hall e he hb)
  · rw [getD_set_ne false hjk] at hl
    exact getD_set_true (hc k o hk hl e he hb)
theorem anyE_first {sk : Nat → Bool} {Q : Act → World → Prop} {i : Nat} {oi : Oper} {v : Value} (hi : ops[i]? = some oi) (hsel : ∀ (j : Nat) (o : Oper) cs b, ops[j]? = some o → o.op ≠ .select cs b) (hski : sk i = false) :
    ∀ (f : Nat) (listed : Array Bool) (a : Act) (w : World), Closed ops listed →
      (∀ j oj, ops[j]? = some oj → j ≠ i → listed.getD j true = false → (∀ e ∈ oj.after, Region.binds .any e = true → e.on ≠ i) → oi.apart ops oj = true) →
      (∀ j, sk j = true → listed.getD j true = false → ∃ n, anc ops n j i = true) →
      i ∈ Region.ready .any ops listed → FloatAt P ops oi v a w →
      anyE P ops sk Q f (listed.setIfInBounds i true) (a.put oi.dst v) w → anyE P ops sk Q (f + 1) listed a w := by
  intro f
  induction f with
  | zero =>
    intro listed a w _ _ _ hr hy H
    refine ⟨fun h => (by rw [h] at hr; cases hr), fun j hj => ?_⟩
    by_cases hji : j = i
    · subst hji; exact hy.wpOp hi ⟨fun _ => Ext.refl w, H⟩
    · have := ready_mono hj hji
      rw [H.1] at this
      cases this
  | succ f ih =>
    intro listed a w hcl hfree hsk hr hy H
    have hun := (mem_ready.1 hr).1
    refine ⟨fun h => (by rw [h] at hr; cases hr), fun j hj => ?_⟩
    by_cases hji : j = i
    · subst hji; exact hy.wpOp hi ⟨fun _ => Ext.refl w, H⟩
    · have h1 := H.2 j (ready_mono hj hji)
      obtain ⟨hjun, oj, hoj, hall⟩ := mem_ready.1 hj
      have hnot : ∀ e ∈ oj.after, Region.binds .any e = true → e.on ≠ i := fun e he hb heq => by
        have h1 := hall e he hb
        rw [heq, getD_both hun] at h1
        cases h1
      have hskj : sk j = false := by
        cases hs : sk j with
        | false => rfl
        | true =>
          obtain ⟨n, hn⟩ := hsk j hs hjun
          have := anc_listed hcl n j hoj hall hn
          rw [getD_both hun] at this
          cases this
      have h2 := wpOp_putF hoj (hfree j oj hoj hji hjun hnot) (fun cs b => hsel i oi cs b hi) (fun cs b => hsel j oj cs b hoj) hy h1
      have unl : ∀ k, (listed.setIfInBounds j true).getD k true = false → listed.getD k true = false := fun k hk => by
        by_cases hjk : j = k
        · subst hjk; exact hjun
        · rw [getD_set_ne true hjk] at hk; exact hk
      refine wpOp_mono (fun a' w' h3 => ?_) h2
      obtain ⟨h4, h5, h6⟩ := h3
      refine ⟨h5, ih (listed.setIfInBounds j true) a' w' (hcl.set hj) (fun k ok hk hki hu hno => hfree k ok hk hki (unl k hu) hno) (fun k hk hu => hsk k hk (unl k hu)) (ready_mono hr (Ne.symm hji)) (h4.later (h5 hskj)) ?_⟩
      rw [Array.setIfInBounds_comm _ _ hji]
      exact h6

/-- The walk: in the order 'ord'; of what 'fl' names: it floats. -/
def walkE (P : Program) (ops : Array Oper) (fl sk : Nat → Bool) (Q : Act → World → Prop) : List Nat → Act → World → Prop
  | [], a, w => Q a w
  | i :: rest, a, w => match ops[i]? with
    | none => False
    | some o =>
      if fl i then
        if Region.wanted o (yielded ops a.tmps) then ∃ v, (∀ x : Later w, (execOp a.eval o).run P x.w = .ok (.value v) x.w) ∧ walkE P ops fl sk Q rest (a.put o.dst v) w
        else walkE P ops fl sk Q rest (a.put o.dst undef) w
      else
        if Region.wanted o (yielded ops a.tmps) then o.wp P a w (fun a' w' => (sk i = false → Ext w w') ∧ walkE P ops fl sk Q rest a' w') NoQ
        else walkE P ops fl sk Q rest (a.put o.dst undef) w
def chkE (ops : Array Oper) (fl sk : Nat → Bool) : List Nat → Array Bool → Bool
  | [], listed => (Region.ready .any ops listed).isEmpty
  | i :: rest, listed =>
    (if fl i then (Region.ready .any ops listed).contains i && Region.free .any ops listed i && !sk i && (List.range ops.size).all (fun j => !sk j || listed.getD j true || anc ops 3 j i)
     else decide (Region.ready .any ops listed = [i])) && chkE ops fl sk rest (listed.setIfInBounds i true)
theorem anyE_of_walk {fl sk : Nat → Bool} {Q : Act → World → Prop} (hsel : Region.noSelect ops = true) (hskb : ∀ j, sk j = true → j < ops.size) : ∀ (ord : List Nat) (listed : Array Bool) (a : Act) (w : World), Closed ops listed → chkE ops fl sk ord listed = true →
    walkE P ops fl sk Q ord a w → anyE P ops sk Q ord.length listed a w
  | [], listed, a, w, _, hB, h => ⟨by simpa [chkE] using hB, h⟩
  | i :: rest, listed, a, w, hcl, hB, h => by
    simp only [chkE, Bool.and_eq_true] at hB
    obtain ⟨hB1, hB2⟩ := hB
    unfold walkE at h
    cases ho : ops[i]? with
    | none => rw [ho] at h; exact h.elim
    | some o =>
      rw [ho] at h
      simp only at h
      by_cases hf : fl i = true
      · simp only [hf, if_true, Bool.and_eq_true] at hB1 h
        obtain ⟨⟨⟨hr, hfr⟩, hs⟩, hall⟩ := hB1
        have hr' : i ∈ Region.ready .any ops listed := by simpa using hr
        have hfl : ∃ v, FloatAt P ops o v a w ∧ walkE P ops fl sk Q rest (a.put o.dst v) w := by
          by_cases hw : Region.wanted o (yielded ops a.tmps) = true
          · simp only [hw, if_true] at h
            obtain ⟨v, h1, h2⟩ := h
            exact ⟨v, .inl ⟨hw, h1⟩, h2⟩
          · simp only [hw] at h
            exact ⟨undef, .inr ⟨by simpa using hw, rfl⟩, h⟩
        obtain ⟨v, hy, hK⟩ := hfl
        refine anyE_first ho (Region.noSelect_spec hsel) (by simpa using hs) _ listed a w hcl (Region.free_spec ho hfr) (fun j hj hu => ⟨3, ?_⟩) hr' hy (anyE_of_walk hsel hskb rest _ _ _ (hcl.set hr') hB2 hK)
        have h1 := List.all_eq_true.1 hall j (List.mem_range.2 (hskb j hj))
        simpa [hj, hu] using h1
      · simp only [hf] at hB1 h
        have hB1' : Region.ready .any ops listed = [i] := by simpa using hB1
        refine ⟨fun h0 => (by rw [hB1'] at h0; cases h0), fun j hj => ?_⟩
        rw [hB1'] at hj
        have : j = i := by simpa using hj
        subst this
        have hr' : j ∈ Region.ready .any ops listed := by rw [hB1']; simp
        unfold wpOp
        simp only [ho]
        by_cases hw : Region.wanted o (yielded ops a.tmps) = true
        · simp only [hw, if_true] at h ⊢
          exact .inl (Oper.wp_mono (fun a' w' h' => ⟨h'.1, anyE_of_walk hsel hskb rest _ _ _ (hcl.set hr') hB2 h'.2⟩) h)
        · simp only [hw] at h ⊢
          exact ⟨fun _ => Ext.refl w, anyE_of_walk hsel hskb rest _ _ _ (hcl.set hr') hB2 h⟩
def inL (l : List Nat) (i : Nat) : Bool := l.contains i
/-- The region: 'ord' the order of the walk, 'fo' what is forced, 'sk' what may change what there was (each behind all ahead of it). -/
theorem region_walk {id : Nat} {Q : Exit → Act → World → Prop} {a : Act} {w : World} {l : List Oper} (ord fo sk : List Nat) (hm : P.follows .mixedOrders = true)
    (hB : (Region.noSelect l.toArray && sk.all (fun j => decide (j < l.length)) && decide (ord.length = l.length) && chkE l.toArray (fun i => !inL fo i) (inL sk) ord (Array.replicate l.length false)) = true)
    (h : walkE P l.toArray (fun i => !inL fo i) (inL sk) (Q .normal) ord a w.drew) : (Code.region id l.toArray true).wp P Q a w := by
  simp only [Bool.and_eq_true, decide_eq_true_eq] at hB
  obtain ⟨⟨⟨h1, h2⟩, h3⟩, h4⟩ := hB
  refine wp_region_any hm ?_
  have := anyE_of_walk (P := P) (Q := Q .normal) h1 (fun j hj => by
    have := List.all_eq_true.1 h2 j (by simpa [inL] using hj)
    simpa using this) ord (Array.replicate l.length false) a w.drew (fun j o _ hl => by rw [getD_replicate_false] at hl; cases hl) h4 h
  rw [h3] at this
  exact wpAny_of_anyE (fun _ _ h => h) _ _ _ _ (by simpa using this)
/-- One that floats. -/
theorem walk_float {fl sk : Nat → Bool} {Q : Act → World → Prop} {i : Nat} {rest : List Nat} {a : Act} {w : World} {o : Oper} (ho : ops[i]? = some o) (hf : fl i = true)
    (h : ∀ K : Act → Prop, (∀ a, walkE P ops fl sk Q rest a w → K a) → if Region.wanted o (yielded ops a.tmps) then ∃ v, (∀ x : Later w, (execOp a.eval o).run P x.w = .ok (.value v) x.w) ∧ K (a.put o.dst v) else K (a.put o.dst undef)) : walkE P ops fl sk Q (i :: rest) a w := by
  unfold walkE
  simp only [ho, hf, if_true]
  exact h _ (fun _ h => h)
/-- One that is forced. -/
theorem walk_forced {fl sk : Nat → Bool} {Q : Act → World → Prop} {i : Nat} {rest : List Nat} {a : Act} {w : World} {o : Oper} (ho : ops[i]? = some o) (hf : fl i = false)
    (h : ∀ K : Act → World → Prop, (∀ a' w', (sk i = false → Ext w w') → walkE P ops fl sk Q rest a' w' → K a' w') → if Region.wanted o (yielded ops a.tmps) then o.wp P a w K NoQ else K (a.put o.dst undef) w) : walkE P ops fl sk Q (i :: rest) a w := by
  unfold walkE
  simp only [ho, hf, Bool.false_eq_true, if_false]
  have := h (fun a' w' => (sk i = false → Ext w w') ∧ walkE P ops fl sk Q rest a' w') (fun _ _ h1 h2 => ⟨h1, h2⟩)
  split at this
  · rename_i hw; simp only [hw, if_true]; exact this
  · rename_i hw; simp only [hw]; exact this.2
theorem walk_end {fl sk : Nat → Bool} {Q : Act → World → Prop} {a : Act} {w : World} (h : Q a w) : walkE P ops fl sk Q [] a w := h
end
end Go.Proofs.Ytinodflkkcdakaa
