/- A region that draws its order, walked along a plan that may fork: where two operations with effects are ready, both orders are walked. -/
import Derived.Test.YtklelheejopfmaaPlan
namespace Go.Proofs.Ytklelheejopfmaa
open Go Go.RowKit
inductive Pln where
  | done
  | take (i : Nat) (r : Pln)
  | step (i : Nat) (r : Pln)
  | fork (i : Nat) (r : Pln) (j : Nat) (q : Pln)
def Pln.len : Pln → Nat
  | .done => 0
  | .take _ r => r.len + 1
  | .step _ r => r.len + 1
  | .fork _ r _ _ => r.len + 1
section
variable {P : Program} {ops : Array Oper} {Q : Exit → Act → World → Prop} {m : Nat}
theorem anyM_mono {S S' : World → Prop} (hS : ∀ w, S' w → S w) : ∀ (fuel : Nat) (listed : Array Bool) (a : Act) (w : World), wpAnyM P ops Q S' m fuel listed a w → wpAnyM P ops Q S m fuel listed a w
  | 0, _, _, _, h => h
  | fuel + 1, _, _, _, h => ⟨h.1, fun i hi => wpOp_mono (fun a' w' h' => ⟨fun hm => hS _ (h'.1 hm), anyM_mono hS fuel _ a' w' h'.2⟩) (h.2 i hi)⟩
def wpTree (P : Program) (ops : Array Oper) (Q : Exit → Act → World → Prop) (m : Nat) : Pln → (World → Prop) → Act → World → Prop
  | .done, _, a, w => wpList P ops Q (ops.toList.drop m) a w
  | .take i r, S, a, w => ∃ o v, ops[i]? = some o ∧ YieldsIf P ops S o v a ∧ wpTree P ops Q m r S (a.put o.dst v) w
  | .step i r, S, a, w => wpOp P ops Q i (fun a' w' => ∃ S' : World → Prop, (∀ w, S' w → S w) ∧ S' w' ∧ wpTree P ops Q m r S' a' w') a w
  | .fork i r j q, S, a, w => wpOp P ops Q i (fun a' w' => ∃ S' : World → Prop, (∀ w, S' w → S w) ∧ S' w' ∧ wpTree P ops Q m r S' a' w') a w ∧
      wpOp P ops Q j (fun a' w' => ∃ S' : World → Prop, (∀ w, S' w → S w) ∧ S' w' ∧ wpTree P ops Q m q S' a' w') a w
def treeOk (ops : Array Oper) (m : Nat) : Pln → Array Bool → Bool
  | .done, listed => forced ops (ops.size - m) m listed
  | .take i r, listed => decide (i < m) && Region.free .any ops listed i && (Region.ready .any ops listed).contains i && (List.range ops.size).all (fun j => decide (j < m) || reach ops ops.size j i) && treeOk ops m r (listed.setIfInBounds i true)
  | .step i r, listed => decide (i < m) && (Region.ready .any ops listed == [i]) && treeOk ops m r (listed.setIfInBounds i true)
  | .fork i r j q, listed => decide (i < m) && decide (j < m) && (r.len == q.len) && (Region.ready .any ops listed == [i, j]) && treeOk ops m r (listed.setIfInBounds i true) && treeOk ops m q (listed.setIfInBounds j true)
theorem anyM_of_tree (hsel : Region.noSelect ops = true) (hQ : ∀ c a d v w, Q (.panic c) (Act.put a d v) w → Q (.panic c) a w) (hm : m ≤ ops.size) :
    ∀ (plan : Pln) (S : World → Prop) (listed : Array Bool) (a : Act) (w : World), treeOk ops m plan listed = true → Closed ops listed → S w →
      wpTree P ops Q m plan S a w → wpAnyM P ops Q S m (plan.len + (ops.size - m)) listed a w
  | .done, S, listed, a, w, hok, _, _, h => by
    rw [Pln.len, Nat.zero_add]
    exact anyM_of_forced (ops.size - m) m listed a w hok (by omega) (Nat.le_refl _) h
  | .take i r, S, listed, a, w, hok, hcl, hS, h => by
    simp only [treeOk, Bool.and_eq_true, decide_eq_true_eq] at hok
    obtain ⟨⟨⟨⟨him, hf⟩, hr⟩, hre⟩, hok⟩ := hok
    obtain ⟨o, v, ho, hy, h⟩ := h
    have hr' : i ∈ Region.ready .any ops listed := by simpa using hr
    rw [show (Pln.take i r).len + (ops.size - m) = (r.len + (ops.size - m)) + 1 by simp [Pln.len]; omega]
    refine wpAnyM_first ho him (Region.noSelect_spec hsel) (fun c a w => hQ c a _ _ w) (fun j hj hjs => ?_) _ listed a w hcl (Region.free_spec ho hf) hr' hy hS (anyM_of_tree hsel hQ hm r S _ _ _ hok (closed_set hcl hr') hS h)
    have := List.all_eq_true.1 hre j (List.mem_range.2 hjs)
    simp only [Bool.or_eq_true, decide_eq_true_eq] at this
    exact this.resolve_left (by omega)
  | .step i r, S, listed, a, w, hok, hcl, hS, h => by
    simp only [treeOk, Bool.and_eq_true, decide_eq_true_eq, beq_iff_eq] at hok
    obtain ⟨⟨_, hr⟩, hok⟩ := hok
    rw [show (Pln.step i r).len + (ops.size - m) = (r.len + (ops.size - m)) + 1 by simp [Pln.len]; omega]
    refine ⟨fun h0 => (by rw [hr] at h0; cases h0), fun j hj => ?_⟩
    have hj' := hj
    rw [hr, List.mem_singleton] at hj
    subst hj
    exact wpOp_mono (fun a' w' ⟨S', h1, h2, h3⟩ => ⟨fun _ => h1 _ h2, anyM_mono h1 _ _ _ _ (anyM_of_tree hsel hQ hm r S' _ _ _ hok (closed_set hcl hj') h2 h3)⟩) h
  | .fork i r k q, S, listed, a, w, hok, hcl, hS, h => by
    simp only [treeOk, Bool.and_eq_true, decide_eq_true_eq, beq_iff_eq] at hok
    obtain ⟨⟨⟨⟨⟨_, _⟩, hlen⟩, hr⟩, hok1⟩, hok2⟩ := hok
    rw [show (Pln.fork i r k q).len + (ops.size - m) = (r.len + (ops.size - m)) + 1 by simp [Pln.len]; omega]
    refine ⟨fun h0 => (by rw [hr] at h0; cases h0), fun j hj => ?_⟩
    have hj' := hj
    rw [hr] at hj
    rcases List.mem_cons.1 hj with rfl | hj
    · exact wpOp_mono (fun a' w' ⟨S', h1, h2, h3⟩ => ⟨fun _ => h1 _ h2, anyM_mono h1 _ _ _ _ (anyM_of_tree hsel hQ hm r S' _ _ _ hok1 (closed_set hcl hj') h2 h3)⟩) h.1
    · rw [List.mem_singleton] at hj
      subst hj
      rw [hlen]
      exact wpOp_mono (fun a' w' ⟨S', h1, h2, h3⟩ => ⟨fun _ => h1 _ h2, anyM_mono h1 _ _ _ _ (anyM_of_tree hsel hQ hm q S' _ _ _ hok2 (closed_set hcl hj') h2 h3)⟩) h.2
/-- the plan with its operations written out -/
inductive PlnO where
  | done
  | take (o : Oper) (r : PlnO)
  | step (o : Oper) (r : PlnO)
  | fork (o : Oper) (r : PlnO) (p : Oper) (q : PlnO)
def Pln.out (ops : Array Oper) : Pln → PlnO
  | .done => .done
  | .take i r => .take (ops.getD i default) (r.out ops)
  | .step i r => .step (ops.getD i default) (r.out ops)
  | .fork i r j q => .fork (ops.getD i default) (r.out ops) (ops.getD j default) (q.out ops)
def Pln.inside (n : Nat) : Pln → Bool
  | .done => true
  | .take i r => decide (i < n) && r.inside n
  | .step i r => decide (i < n) && r.inside n
  | .fork i r j q => decide (i < n) && r.inside n && decide (j < n) && q.inside n
/-- one operation with an effect, behind it E (its slot's value put) -/
def StepO (P : Program) (dsts : List (Option Tmp)) (o : Oper) (E : Act → World → Prop) (a : Act) (w : World) : Prop :=
  wanted2 o dsts a.tmps = true ∧ ((∃ d, o.dst = some d ∧ ((∃ v w', (execOp a.eval o).run P w = .ok (.value v) w' ∧ E ⟨a.tmps.setIfInBounds d v, a.defers⟩ w') ∨
    (∃ f args, (execOp a.eval o).run P w = .ok (.enter f args) w ∧ Calls P f args w fun e w' => ∃ v, e = .returned v ∧ E ⟨a.tmps.setIfInBounds d v, a.defers⟩ w'))) ∨
    (o.dst = none ∧ ∃ w', (execOp a.eval o).run P w = .ok .skip w' ∧ E a w'))
def wpTreeO (P : Program) (dsts : List (Option Tmp)) (E : Act → World → Prop) : PlnO → (World → Prop) → Act → World → Prop
  | .done, _, a, w => E a w
  | .take o r, S, a, w => ∃ d v, o.dst = some d ∧ (wanted2 o dsts a.tmps = true ∧ ∀ w, S w → (execOp a.eval o).run P w = .ok (.value v) w) ∧ wpTreeO P dsts E r S ⟨a.tmps.setIfInBounds d v, a.defers⟩ w
  | .step o r, S, a, w => StepO P dsts o (fun a' w' => ∃ S' : World → Prop, (∀ w, S' w → S w) ∧ S' w' ∧ wpTreeO P dsts E r S' a' w') a w
  | .fork o r p q, S, a, w => StepO P dsts o (fun a' w' => ∃ S' : World → Prop, (∀ w, S' w → S w) ∧ S' w' ∧ wpTreeO P dsts E r S' a' w') a w ∧ StepO P dsts p (fun a' w' => ∃ S' : World → Prop, (∀ w, S' w → S w) ∧ S' w' ∧ wpTreeO P dsts E q S' a' w') a w
theorem step_out {i : Nat} (hi : i < ops.size) {E F : Act → World → Prop} (hEF : ∀ a w, E a w → F a w) {a : Act} {w : World} (h : StepO P (ops.toList.map (·.dst)) (ops.getD i default) E a w) : wpOp P ops Q i F a w := by
  obtain ⟨hw, h⟩ := h
  have ho : ops[i]? = some (ops.getD i default) := by simp [Array.getD, hi]
  unfold wpOp
  simp only [ho]
  rw [← wanted2_eq] at hw
  simp only [hw, if_true]
  refine .inl ?_
  unfold Oper.wp
  rcases h with ⟨d, hd, ⟨v, w', he, h⟩ | ⟨f, args, he, hc⟩⟩ | ⟨hd, w', he, h⟩
  · rw [he, Oper.upon_value]
    simp only [Act.put, hd]
    exact hEF _ _ h
  · rw [he, Oper.upon_enter]
    refine Calls.mono hc fun e w' hr => ?_
    obtain ⟨v, rfl, h⟩ := hr
    simp only [Act.put, hd]
    exact hEF _ _ h
  · rw [he, Oper.upon_skip]
    simp only [Act.put, hd]
    exact hEF _ _ h
theorem tree_of_out {E : Act → World → Prop} (hE : ∀ a w, E a w → wpList P ops Q (ops.toList.drop m) a w) : ∀ (plan : Pln) (S : World → Prop) (a : Act) (w : World), plan.inside ops.size = true →
    wpTreeO P (ops.toList.map (·.dst)) E (plan.out ops) S a w → wpTree P ops Q m plan S a w
  | .done, S, a, w, _, h => hE _ _ h
  | .take i r, S, a, w, hb, h => by
    simp only [Pln.inside, Bool.and_eq_true, decide_eq_true_eq] at hb
    obtain ⟨d, v, hd, hy, h⟩ := h
    have ho : ops[i]? = some (ops.getD i default) := by simp [Array.getD, hb.1]
    refine ⟨_, v, ho, ?_, ?_⟩
    · rw [← wanted2_eq] at hy; exact .inl hy
    · simp only [Act.put, hd]
      exact tree_of_out hE r S _ _ hb.2 h
  | .step i r, S, a, w, hb, h => by
    simp only [Pln.inside, Bool.and_eq_true, decide_eq_true_eq] at hb
    exact step_out hb.1 (fun a w ⟨S', h1, h2, h3⟩ => ⟨S', h1, h2, tree_of_out hE r S' _ _ hb.2 h3⟩) h
  | .fork i r j q, S, a, w, hb, h => by
    simp only [Pln.inside, Bool.and_eq_true, decide_eq_true_eq] at hb
    exact ⟨step_out hb.1.1.1 (fun a w ⟨S', h1, h2, h3⟩ => ⟨S', h1, h2, tree_of_out hE r S' _ _ hb.1.1.2 h3⟩) h.1, step_out hb.1.2 (fun a w ⟨S', h1, h2, h3⟩ => ⟨S', h1, h2, tree_of_out hE q S' _ _ hb.2 h3⟩) h.2⟩
def regionTreeOk (ops : Array Oper) (m : Nat) (plan : Pln) : Bool :=
  Region.noSelect ops && decide (m ≤ ops.size) && (plan.len == m) && treeOk ops m plan (Array.replicate ops.size false) && plan.inside ops.size
theorem wp_region_tree (S : World → Prop) (m : Nat) (plan : Pln) {id : Nat} {a : Act} {w : World} {l : PlnO} {dsts : List (Option Tmp)} (hmx : P.follows .mixedOrders = true) (hok : regionTreeOk ops m plan = true)
    (hQ : ∀ c a d v w, Q (.panic c) (Act.put a d v) w → Q (.panic c) a w) (hl : plan.out ops = l) (hds : ops.toList.map (·.dst) = dsts)
    (hS : S w.drew) (h : ∀ E : Act → World → Prop, (∀ a w, wpList P ops Q (ops.toList.drop m) a w → E a w) → wpTreeO P dsts E l S a w.drew) : (Code.region id ops true).wp P Q a w := by
  subst hl hds
  simp only [regionTreeOk, Bool.and_eq_true, decide_eq_true_eq, beq_iff_eq] at hok
  obtain ⟨⟨⟨⟨hsel, hm⟩, hl⟩, hok⟩, hbl⟩ := hok
  have hcl : Closed ops (Array.replicate ops.size false) := fun j o ho hl => by
    have hlt := (Array.getElem?_eq_some_iff.1 ho).1
    simp [hlt] at hl
  have := anyM_of_tree hsel hQ hm plan S _ a w.drew hok hcl hS (tree_of_out (E := wpList P ops Q (ops.toList.drop m)) (fun _ _ h => h) plan S a _ hbl (h _ fun _ _ h => h))
  rw [show plan.len + (ops.size - m) = ops.size by omega] at this
  exact wp_region_any hmx (wpAny_of_M _ _ _ _ this)
section
variable {dsts : List (Option Tmp)} {E : Act → World → Prop} {S : World → Prop}
theorem tree_take {d : Nat} {r : PlnO} {tmps : Array Value} {defers : List Deferred} {w : World} {o : Oper} {v : Value} (hd : o.dst = some d) (hw : wanted2 o dsts tmps = true)
    (hy : ∀ w, S w → (execOp (Act.eval ⟨tmps, defers⟩) o).run P w = .ok (.value v) w) (h : wpTreeO P dsts E r S ⟨tmps.setIfInBounds d v, defers⟩ w) : wpTreeO P dsts E (.take o r) S ⟨tmps, defers⟩ w :=
  ⟨d, v, hd, ⟨hw, hy⟩, h⟩
theorem tree_call {d f : Nat} {args : Array Value} {r : PlnO} {tmps : Array Value} {defers : List Deferred} {w : World} {o : Oper} {R : Ending → World → Prop} (hd : o.dst = some d) (hw : wanted2 o dsts tmps = true)
    (he : (execOp (Act.eval ⟨tmps, defers⟩) o).run P w = .ok (.enter f args) w) (hc : Calls P f args w R)
    (h : ∀ e w', R e w' → ∃ v, e = .returned v ∧ ∃ S' : World → Prop, (∀ w, S' w → S w) ∧ S' w' ∧ wpTreeO P dsts E r S' ⟨tmps.setIfInBounds d v, defers⟩ w') :
    StepO P dsts o (fun a' w' => ∃ S' : World → Prop, (∀ w, S' w → S w) ∧ S' w' ∧ wpTreeO P dsts E r S' a' w') ⟨tmps, defers⟩ w :=
  ⟨hw, .inl ⟨d, hd, .inr ⟨f, args, he, Calls.mono hc h⟩⟩⟩
theorem tree_value {d : Nat} {r : PlnO} {tmps : Array Value} {defers : List Deferred} {w w' : World} {o : Oper} {v : Value} (hd : o.dst = some d) (hw : wanted2 o dsts tmps = true)
    (he : (execOp (Act.eval ⟨tmps, defers⟩) o).run P w = .ok (.value v) w') (hS : S w') (h : wpTreeO P dsts E r S ⟨tmps.setIfInBounds d v, defers⟩ w') :
    StepO P dsts o (fun a' w' => ∃ S' : World → Prop, (∀ w, S' w → S w) ∧ S' w' ∧ wpTreeO P dsts E r S' a' w') ⟨tmps, defers⟩ w :=
  ⟨hw, .inl ⟨d, hd, .inl ⟨v, w', he, S, fun _ h => h, hS, h⟩⟩⟩
/-- an operation without a value: a store -/
theorem tree_skip (S : World → Prop) {r : PlnO} {tmps : Array Value} {defers : List Deferred} {w w' : World} {o : Oper} (hd : o.dst = none) (hw : wanted2 o dsts tmps = true)
    (he : (execOp (Act.eval ⟨tmps, defers⟩) o).run P w = .ok .skip w') (hS : S w') (h : wpTreeO P dsts E r S ⟨tmps, defers⟩ w') :
    StepO P dsts o (fun a' w' => ∃ S' : World → Prop, (∀ w, S' w → S w) ∧ S' w' ∧ wpTreeO P dsts E r S' a' w') ⟨tmps, defers⟩ w :=
  ⟨hw, .inr ⟨hd, w', he, S, fun _ h => h, hS, h⟩⟩
end
end
end Go.Proofs.Ytklelheejopfmaa
