import Derived.Test.YtojgddnefopdjaaGreatDoorM5
namespace Go.Proofs.YtojgddnefopdjaaGreatDoor
open Go.RowKit
set_option linter.unusedVariables false
theorem rep_ends {σ ρ : Type} (Post : Option ρ → Prop) (body : σ → (σ → Option ρ) → Option ρ) (I : σ → Prop) (μ : σ → Nat) (h : ∀ s k, I s → (∀ s', I s' → μ s' < μ s → Post (k s')) → Post (body s k)) : ∀ fuel s, I s → μ s < fuel → Post (rep body fuel s)
  | 0, s, _, hm => absurd hm (Nat.not_lt_zero _)
  | fuel + 1, s, hs, hm => h s _ hs fun s' hs' hlt => rep_ends Post body I μ h fuel s' hs' (by omega)
def Ans {ρ : Type} (o : Option ρ) : Prop := ∃ r, o = some r
theorem Ans.mk {ρ : Type} (r : ρ) : Ans (some r) := ⟨r, rfl⟩
theorem Ans.bind {α ρ : Type} {o : Option α} {f : α → Option ρ} (h : Ans o) (hf : ∀ r, Ans (f r)) : Ans (o.bind f) := by
  obtain ⟨r, rfl⟩ := h
  exact hf r
theorem wrap_id {n : Int} (h : 0 ≤ n) (h' : n ≤ 9223372036854775807) : IntKind.wrap .i64 n = n := by
  rw [IntKind.wrap_i64]; omega
theorem at_some {α : Type} {l : List α} {i : Int} (h : 0 ≤ i) (h' : i < (l.length : Int)) : ∃ x ∈ l, at? l i = some x := by
  have hi : i.toNat < l.length := by omega
  exact ⟨l[i.toNat], List.getElem_mem hi, by unfold at?; rw [if_pos h]; simp [hi]⟩
structure Rnd (n : Nat) (i : Int) : Prop where
  a : 0 ≤ i
  b : i ≤ (n : Int)
theorem Rnd.next {n : Nat} {i : Int} (h : Rnd n i) (hl : i < (n : Int)) (hn : n ≤ 9223372036854775807) : Rnd n (IntKind.wrap .i64 (i + 1)) ∧ (n - (IntKind.wrap .i64 (i + 1)).toNat : Nat) < n - i.toNat := by
  rw [wrap_id (by have := h.a; omega) (by omega)]
  exact ⟨⟨by have := h.a; omega, by omega⟩, by have := h.a; omega⟩
theorem Rnd.zero (n : Nat) : Rnd n 0 := ⟨by omega, by omega⟩
theorem loop_ends {α τ ρ : Type} {l : List α} (hl : l.length ≤ 9223372036854775807) {go : τ × Int → Bool} {body : (τ × Int) → ((τ × Int) → Option ρ) → Option ρ} (hb : ∀ s k, (s.2 < (l.length : Int) → Rnd l.length s.2 → ∀ x ∈ l, at? l s.2 = some x → (∀ t, Ans (k (t, IntKind.wrap .i64 (s.2 + 1)))) → Ans (body s k)) ∧ (¬ s.2 < (l.length : Int) → Ans (body s k))) (t : τ) : Ans (rep body FUEL (t, 0)) := by
  refine rep_ends Ans body (fun s => Rnd l.length s.2) (fun s => l.length - s.2.toNat) (fun s k hs hk => ?_) FUEL (t, 0) (Rnd.zero _) (Nat.lt_of_le_of_lt (Nat.sub_le _ _) (Nat.lt_of_le_of_lt hl (by unfold FUEL; omega)))
  by_cases h : s.2 < (l.length : Int)
  · obtain ⟨x, hx, e⟩ := at_some hs.a h
    exact (hb s k).1 h hs x hx e fun t => hk _ (hs.next h hl).1 (hs.next h hl).2
  · exact (hb s k).2 h
theorem texts_ends (a : List ByteArray) (h : (kSl kStr).ok a) : Ans (hl0_Texts a) := by
  unfold hl0_Texts
  refine loop_ends (l := a) (go := fun _ => true) h.2.1 (fun s k => ⟨fun hl hs x hx e hk => ?_, fun hl => ?_⟩) _
  · simp only [jn, hl, decide_true, if_true, e, Option.bind_some]
    split
    · exact hk _
    · exact .mk _
  · simp only [jn, hl, decide_false, Bool.false_eq_true, if_false]
    exact .mk _
theorem vol_ends (a : Vol) (h : kVol.ok a) : Ans (hl0_VolWeight a) := by
  have hf : (kSl kFile).ok (Vol.files a) := h.2.2.2.1
  unfold hl0_VolWeight
  refine loop_ends (l := Vol.files a) (go := fun _ => true) hf.2.1 (fun s k => ⟨fun hl hs x hx e hk => ?_, fun hl => ?_⟩) _
  · simp only [jn, hl, decide_true, if_true, e, Option.bind_some]
    split
    · have hx' : (kSl kLink).ok (File.list x) := (hf.2.2 x hx).2.2.2.2
      refine loop_ends (l := File.list x) (go := fun _ => true) hx'.2.1 (fun s' k' => ⟨fun hl' hs' x' hx' e' hk' => ?_, fun hl' => ?_⟩) _
      · simp only [hl', decide_true, if_true, e', Option.bind_some]
        split
        · exact hk' _
        · exact hk _
      · simp only [hl', decide_false, Bool.false_eq_true, if_false]
        exact hk _
    · exact .mk _
  · simp only [jn, hl, decide_false, Bool.false_eq_true, if_false]
    exact .mk _
theorem vols_ends (a : List Vol) (h : (kSl kVol).ok a) : Ans (hl0_VolsWeight a) := by
  unfold hl0_VolsWeight
  refine loop_ends (l := a) (go := fun _ => true) h.2.1 (fun s k => ⟨fun hl hs x hx e hk => ?_, fun hl => ?_⟩) _
  · simp only [jn, hl, decide_true, if_true, e, Option.bind_some]
    split
    · exact (vol_ends x (h.2.2 x hx)).bind fun r => hk _
    · exact .mk _
  · simp only [jn, hl, decide_false, Bool.false_eq_true, if_false]
    exact .mk _
theorem blocks_ends (a : List Block) (h : (kSl kBlock).ok a) : Ans (hl0_BlocksWeight a) := by
  unfold hl0_BlocksWeight
  refine loop_ends (l := a) (go := fun _ => true) h.2.1 (fun s k => ⟨fun hl hs x hx e hk => ?_, fun hl => ?_⟩) _
  · simp only [jn, hl, decide_true, if_true, e, Option.bind_some]
    split
    · exact hk _
    · exact .mk _
  · simp only [jn, hl, decide_false, Bool.false_eq_true, if_false]
    exact .mk _
theorem devices_ends (a : List Device) (h : (kSl kDevice).ok a) : Ans (hl0_DevicesWeight a) := by
  unfold hl0_DevicesWeight
  refine loop_ends (l := a) (go := fun _ => true) h.2.1 (fun s k => ⟨fun hl hs x hx e hk => ?_, fun hl => ?_⟩) _
  · simp only [jn, hl, decide_true, if_true, e, Option.bind_some]
    split
    · exact hk _
    · exact .mk _
  · simp only [jn, hl, decide_false, Bool.false_eq_true, if_false]
    exact .mk _
theorem pool_ends (a : Pool) (h : kPool.ok a) : Ans (hl0_PoolWeight a) := by
  have hd : (kSl kDevice).ok (Pool.devices a) := h.1
  have ht : (kSl kTable).ok (Pool.tables a) := h.2.1
  unfold hl0_PoolWeight
  refine (devices_ends _ hd).bind fun r => ?_
  refine loop_ends (l := Pool.tables a) (go := fun _ => true) ht.2.1 (fun s k => ⟨fun hl hs x hx e hk => ?_, fun hl => ?_⟩) _
  · simp only [jn, hl, decide_true, if_true, e, Option.bind_some]
    split
    · exact hk _
    · exact .mk _
  · simp only [jn, hl, decide_false, Bool.false_eq_true, if_false]
    exact .mk _
theorem state_ends (a : State) (h : kState.ok a) : Ans (hl0_StateWeight a) := by
  have h1 : (kSl kVol).ok (State.vols a) := h.1
  have h2 : (kSl kBlock).ok (State.blocks a) := h.2.2.1
  have h3 : kPool.ok (State.pool a) := h.2.2.2.2
  unfold hl0_StateWeight
  exact (vols_ends _ h1).bind fun r => (blocks_ends _ h2).bind fun r => (pool_ends _ h3).bind fun r => .mk _
theorem heavy_ends (a : hl14_Ask) (h : khl14_Ask.ok a) : Ans (hl14_Heavy a) := by
  have h1 : (kSl kState).ok (hl14_Ask.s a) := h.1
  have h2 : (kSl khl14_Put).ok (hl14_Ask.p a) := h.2.1
  unfold hl14_Heavy
  have inner : ∀ t : Int, Ans (rep (fun (s15 : (Int × Int)) k14 => jn (fun (b18 : Bool) => if b18 = true then ((at? (hl14_Ask.p a) s15.2).bind (fun u23 => (at? (hl14_Ask.p a) s15.2).bind (fun u25 => (hl0_VolsWeight (hl14_Put.l u23)).bind (fun r26 => (hl0_Texts (hl14_Put.t u25)).bind (fun r28 => k14 ((IntKind.wrap .i64 ((IntKind.wrap .i64 (s15.1 + r26)) + (IntKind.wrap .i64 (Int.tdiv r28 8)))), (IntKind.wrap .i64 (s15.2 + 1)))))))) else (some (decide (s15.1 > 2500)))) (fun k17 => if (decide (s15.2 < ((hl14_Ask.p a).length : Int))) = true then (k17 (decide (s15.1 < 1048576))) else (k17 false))) FUEL (t, 0)) := fun t => by
    refine loop_ends (l := hl14_Ask.p a) (go := fun _ => true) h2.2.1 (fun s k => ⟨fun hl hs x hx e hk => ?_, fun hl => ?_⟩) _
    · simp only [jn, hl, decide_true, if_true, e, Option.bind_some]
      split
      · have h3 : (kSl kVol).ok (hl14_Put.l x) := (h2.2.2 x hx).1
        have h4 : (kSl kStr).ok (hl14_Put.t x) := (h2.2.2 x hx).2
        exact (vols_ends _ h3).bind fun r => (texts_ends _ h4).bind fun r => hk _
      · exact .mk _
    · simp only [jn, hl, decide_false, Bool.false_eq_true, if_false]
      exact .mk _
  refine loop_ends (l := hl14_Ask.s a) (go := fun _ => true) h1.2.1 (fun s k => ⟨fun hl hs x hx e hk => ?_, fun hl => ?_⟩) _
  · by_cases hb : s.1 < 1048576
    · simp only [jn, hl, hb, decide_true, if_true, e, Option.bind_some]
      exact (state_ends x (h1.2.2 x hx)).bind fun r => hk _
    · have e2 := inner s.1
      simp only [jn, hl, hb, decide_true, decide_false, Bool.false_eq_true, if_true, if_false] at e2 ⊢
      exact e2
  · have e2 := inner s.1
    simp only [jn, hl, decide_false, Bool.false_eq_true, if_false] at e2 ⊢
    exact e2
end Go.Proofs.YtojgddnefopdjaaGreatDoor
