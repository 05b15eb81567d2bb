/- Plan, Tree -/
import Derived.Test.YtcojnigkgbmbmaaGreatDoorR01
import Derived.OrdersHeld
import Derived.Tactics
namespace Go.Proofs.YtcojnigkgbmbmaaGreatDoor
open Go Go.RowKit
section
variable {P : Program} {ops : Array Oper} {Q : Exit → Act → World → Prop} {S : World → Prop} {m : Nat}
/-- must number i have come before number j may come? -/
def reach (ops : Array Oper) : Nat → Nat → Nat → Bool
  | 0, _, _ => false
  | f + 1, j, i => ((ops[j]?).map fun o => o.after.any fun e => Region.binds .any e && (e.on == i || reach ops f e.on i)).getD false
def Closed (ops : Array Oper) (listed : Array Bool) : Prop :=
  ∀ (j : Nat) (o : Oper), ops[j]? = some o → listed.getD j false = true → ∀ e ∈ o.after, Region.binds .any e = true → listed.getD e.on false = true
theorem reach_listed {listed : Array Bool} (hc : Closed ops listed) : ∀ (f j i : Nat), (∀ o, ops[j]? = some o → ∀ e ∈ o.after, Region.binds .any e = true → listed.getD e.on false = true) →
    reach ops f j i = true → listed.getD i false = true := by
  intro f
  induction f with
  | zero => intro j i _ h; simp [reach] at h
  | succ f ih =>
    intro j i hall h
    unfold reach at h
    cases ho : ops[j]? with
    | none => simp [ho] at h
    | some o =>
      simp only [ho, Option.map_some, Option.getD_some, Array.any_eq_true'] at h
      obtain ⟨e, he, hh⟩ := h
      simp only [Bool.and_eq_true, Bool.or_eq_true, beq_iff_eq] at hh
      obtain ⟨hb, rfl | hr⟩ := hh
      · exact hall o ho e he hb
      · exact ih e.on i (fun o' ho' e' he' hb' => hc e.on o' ho' (hall o ho e he hb) e' he' hb') hr
theorem closed_set {listed : Array Bool} {i : Nat} (hc : Closed ops listed) (hi : i ∈ Region.ready .any ops listed) : Closed ops (listed.setIfInBounds i true) := by
  intro j o ho hl e he hb
  by_cases hji : j = i
  · subst hji
    obtain ⟨_, o', ho', hall⟩ := mem_ready.1 hi
    rw [ho] at ho'
    cases ho'
    exact getD_set_true (hall e he hb)
  · rw [getD_set_ne false (Ne.symm hji)] at hl
    exact getD_set_true (hc j o ho hl e he hb)
def wpAnyM (P : Program) (ops : Array Oper) (Q : Exit → Act → World → Prop) (S : World → Prop) (m : Nat) : Nat → Array Bool → Act → World → Prop
  | 0, listed, a, w => Region.ready .any ops listed = [] ∧ Q .normal a w
  | fuel + 1, listed, a, w =>
    (Region.ready .any ops listed = [] → Q .normal a w) ∧
    ∀ i ∈ Region.ready .any ops listed, wpOp P ops Q i (fun a' w' => (i < m → S w') ∧ wpAnyM P ops Q S m fuel (listed.setIfInBounds i true) a' w') a w
theorem wpAny_of_M : ∀ (fuel : Nat) (listed : Array Bool) (a : Act) (w : World), wpAnyM P ops Q S m fuel listed a w → wpAny P .any ops Q fuel listed a w
  | 0, _, _, _, h => h
  | fuel + 1, _, _, _, h => ⟨h.1, fun i hi => wpOp_mono (fun a' w' h' => wpAny_of_M fuel _ a' w' h'.2) (h.2 i hi)⟩
theorem wpAnyM_first {i : Nat} {oi : Oper} {v : Value} (hi : ops[i]? = some oi) (him : i < m) (hsel : ∀ (j : Nat) (o : Oper) cs b, ops[j]? = some o → o.op ≠ .select cs b)
    (hQ : ∀ c a w, Q (.panic c) (a.put oi.dst v) w → Q (.panic c) a w) (hre : ∀ j, m ≤ j → j < ops.size → reach ops ops.size j i = true) :
    ∀ (fuel : Nat) (listed : Array Bool) (a : Act) (w : World), Closed ops listed →
      (∀ j oj, ops[j]? = some oj → j ≠ i → listed.getD j true = false → (∀ e ∈ oj.after, Region.binds .any e = true → e.on ≠ i) → oi.apart ops oj = true) →
      i ∈ Region.ready .any ops listed → YieldsIf P ops S oi v a → S w →
      wpAnyM P ops Q S m fuel (listed.setIfInBounds i true) (a.put oi.dst v) w → wpAnyM P ops Q S m (fuel + 1) listed a w := by
  intro fuel
  induction fuel with
  | zero =>
    intro listed a w _ _ hr hy hS H
    refine ⟨fun h => (by rw [h] at hr; cases hr), fun j hj => ?_⟩
    by_cases hji : j = i
    · subst hji; exact hy.wpOp hi hS ⟨fun _ => hS, H⟩
    · have := ready_mono hj hji
      rw [H.1] at this
      cases this
  | succ fuel ih =>
    intro listed a w hcl hfree hr hy hS H
    refine ⟨fun h => (by rw [h] at hr; cases hr), fun j hj => ?_⟩
    by_cases hji : j = i
    · subst hji; exact hy.wpOp hi hS ⟨fun _ => hS, H⟩
    · have h1 := H.2 j (ready_mono hj hji)
      obtain ⟨hjun, oj, hoj, hall⟩ := mem_ready.1 hj
      have hun : ¬ listed.getD i false = true := fun h1 => by
        have h0 := (mem_ready.1 hr).1
        rcases Nat.lt_or_ge i listed.size with h' | h'
        · simp [h'] at h0 h1; rw [h0] at h1; cases h1
        · simp [Array.getElem?_eq_none h'] at h1
      have hnot : ∀ e ∈ oj.after, Region.binds .any e = true → e.on ≠ i := fun e he hb heq => hun (heq ▸ hall e he hb)
      have hjm : j < m := by
        rcases Nat.lt_or_ge j m with h' | h'
        · exact h'
        · refine absurd (reach_listed hcl ops.size j i (fun o ho e he hb => ?_) (hre j h' (Array.getElem?_eq_some_iff.1 hoj).1)) hun
          rw [hoj] at ho; cases ho; exact hall e he hb
      have h2 := wpOp_putIf hoj (hfree j oj hoj hji hjun hnot) (fun cs b => hsel i oi cs b hi) (fun cs b => hsel j oj cs b hoj) hQ hy h1
      have hfree' : ∀ k ok, ops[k]? = some ok → k ≠ i → (listed.setIfInBounds j true).getD k true = false →
          (∀ e ∈ ok.after, Region.binds .any e = true → e.on ≠ i) → oi.apart ops ok = true := fun k ok hk hki hun hno => by
        refine hfree k ok hk hki ?_ hno
        by_cases hjk : j = k
        · subst hjk; exact hjun
        · rw [getD_set_ne true hjk] at hun; exact hun
      refine wpOp_mono (fun a' w' h3 => ⟨h3.2.1, ih (listed.setIfInBounds j true) a' w' (closed_set hcl hj) hfree' (ready_mono hr (Ne.symm hji)) h3.1 (h3.2.1 hjm) ?_⟩) h2
      rw [Array.setIfInBounds_comm _ _ hji]
      exact h3.2.2
/-- The walk along a plan: (number, is it taken first?); behind it the region's rest as the plain walk has it. -/
def wpPlan (P : Program) (ops : Array Oper) (Q : Exit → Act → World → Prop) (S : World → Prop) (m : Nat) : List (Nat × Bool) → Act → World → Prop
  | [], a, w => wpList P ops Q (ops.toList.drop m) a w
  | (i, true) :: r, a, w => ∃ o v, ops[i]? = some o ∧ YieldsIf P ops S o v a ∧ wpPlan P ops Q S m r (a.put o.dst v) w
  | (i, false) :: r, a, w => wpOp P ops Q i (fun a' w' => S w' ∧ wpPlan P ops Q S m r a' w') a w
def forced (ops : Array Oper) : Nat → Nat → Array Bool → Bool
  | 0, _, listed => Region.ready .any ops listed == []
  | c + 1, k, listed => Region.ready .any ops listed == [k] && forced ops c (k + 1) (listed.setIfInBounds k true)
def planOk (ops : Array Oper) (m : Nat) : Array Bool → List (Nat × Bool) → Bool
  | listed, [] => forced ops (ops.size - m) m listed
  | listed, (i, true) :: r => decide (i < m) && Region.free .any ops listed i && (Region.ready .any ops listed).contains i && (List.range ops.size).all (fun j => decide (j < m) || reach ops ops.size j i) && planOk ops m (listed.setIfInBounds i true) r
  | listed, (i, false) :: r => decide (i < m) && (Region.ready .any ops listed == [i]) && planOk ops m (listed.setIfInBounds i true) r
theorem anyM_of_forced : ∀ (c k : Nat) (listed : Array Bool) (a : Act) (w : World), forced ops c k listed = true → k + c = ops.size → m ≤ k →
    wpList P ops Q (ops.toList.drop k) a w → wpAnyM P ops Q S m c listed a w
  | 0, k, listed, a, w, hf, hk, _, h => by
    have hd : ops.toList.drop k = [] := List.drop_eq_nil_of_le (by simp; omega)
    rw [hd] at h
    exact ⟨by simpa [forced] using hf, h⟩
  | c + 1, k, listed, a, w, hf, hk, hm, h => by
    simp only [forced, Bool.and_eq_true, beq_iff_eq] at hf
    obtain ⟨hr, hf⟩ := hf
    refine ⟨fun h0 => (by rw [hr] at h0; cases h0), fun i hi => ?_⟩
    rw [hr, List.mem_singleton] at hi
    subst hi
    have hlt : i < ops.toList.length := by simp; omega
    rw [List.drop_eq_getElem_cons hlt] at h
    have ho : ops[i]? = some ops.toList[i] := by simp
    unfold wpOp
    rw [ho]
    simp only [wpList] at h
    have hmono : ∀ a' w', wpList P ops Q (ops.toList.drop (i + 1)) a' w' → ((i < m → S w') ∧ wpAnyM P ops Q S m c (listed.setIfInBounds i true) a' w') :=
      fun a' w' h' => ⟨fun h => absurd h (by omega), anyM_of_forced c (i + 1) _ a' w' hf (by omega) (by omega) h'⟩
    split at h
    · rename_i hw
      simp only [hw, if_true]
      exact h.imp (Oper.wp_mono hmono) id
    · rename_i hw
      simp only [hw]
      exact hmono _ _ h
theorem anyM_of_plan (hsel : Region.noSelect ops = true) (hQ : ∀ c a d v w, Q (.panic c) (Act.put a d v) w → Q (.panic c) a w) (hm : m ≤ ops.size) :
    ∀ (plan : List (Nat × Bool)) (listed : Array Bool) (a : Act) (w : World), planOk ops m listed plan = true → Closed ops listed → S w →
      wpPlan P ops Q S m plan a w → wpAnyM P ops Q S m (plan.length + (ops.size - m)) listed a w
  | [], listed, a, w, hok, _, _, h => by
    rw [List.length_nil, Nat.zero_add]
    exact anyM_of_forced (ops.size - m) m listed a w hok (by omega) (Nat.le_refl _) h
  | (i, true) :: r, listed, a, w, hok, hcl, hS, h => by
    simp only [planOk, Bool.and_eq_true, decide_eq_true_eq] at hok
    obtain ⟨⟨⟨⟨him, hf⟩, hr⟩, hre⟩, hok⟩ := hok
    obtain ⟨o, v, ho, hy, h⟩ := h
    have hr' : i ∈ Region.ready .any ops listed := by simpa using hr
    rw [show ((i, true) :: r).length + (ops.size - m) = (r.length + (ops.size - m)) + 1 by simp; omega]
    refine wpAnyM_first ho him (Region.noSelect_spec hsel) (fun c a w => hQ c a _ _ w) (fun j hj hjs => ?_) _ listed a w hcl (Region.free_spec ho hf) hr' hy hS (anyM_of_plan hsel hQ hm r _ _ _ hok (closed_set hcl hr') hS h)
    have := List.all_eq_true.1 hre j (List.mem_range.2 hjs)
    simp only [Bool.or_eq_true, decide_eq_true_eq] at this
    exact this.resolve_left (by omega)
  | (i, false) :: r, listed, a, w, hok, hcl, hS, h => by
    simp only [planOk, Bool.and_eq_true, decide_eq_true_eq, beq_iff_eq] at hok
    obtain ⟨⟨_, hr⟩, hok⟩ := hok
    rw [show ((i, false) :: r).length + (ops.size - m) = (r.length + (ops.size - m)) + 1 by simp; omega]
    refine ⟨fun h0 => (by rw [hr] at h0; cases h0), fun j hj => ?_⟩
    have hj' := hj
    rw [hr, List.mem_singleton] at hj
    subst hj
    exact wpOp_mono (fun a' w' h' => ⟨fun _ => h'.1, anyM_of_plan hsel hQ hm r _ _ _ hok (closed_set hcl hj') h'.1 h'.2⟩) h
def regionOk (ops : Array Oper) (m : Nat) (plan : List (Nat × Bool)) : Bool :=
  Region.noSelect ops && decide (m ≤ ops.size) && (plan.length == m) && planOk ops m (Array.replicate ops.size false) plan
theorem wp_region_plan (S : World → Prop) (m : Nat) (plan : List (Nat × Bool)) {id : Nat} {a : Act} {w : World} (hmx : P.follows .mixedOrders = true) (hok : regionOk ops m plan = true)
    (hQ : ∀ c a d v w, Q (.panic c) (Act.put a d v) w → Q (.panic c) a w) (hS : S w.drew) (h : wpPlan P ops Q S m plan a w.drew) : (Code.region id ops true).wp P Q a w := by
  simp only [regionOk, Bool.and_eq_true, decide_eq_true_eq, beq_iff_eq] at hok
  obtain ⟨⟨⟨hsel, hm⟩, hl⟩, hok⟩ := hok
  have hcl : Closed ops (Array.replicate ops.size false) := fun j o ho hl => by
    have hlt := (Array.getElem?_eq_some_iff.1 ho).1
    simp [hlt] at hl
  have := anyM_of_plan hsel hQ hm plan _ a w.drew hok hcl hS h
  rw [show plan.length + (ops.size - m) = ops.size by omega] at this
  exact wp_region_any hmx (wpAny_of_M _ _ _ _ this)
def yielded2 (dsts : List (Option Tmp)) (tmps : Array Value) (j : Nat) : Option Bool :=
  match ((dsts[j]?).bind id).bind (tmps[·]?) with
  | some (.bool b) => some b
  | _ => none
def wanted2 (o : Oper) (dsts : List (Option Tmp)) (tmps : Array Value) : Bool :=
  match o.guard with
  | none => true
  | some (j, want) => yielded2 dsts tmps j == some want
theorem wanted2_eq (o : Oper) (tmps : Array Value) : Region.wanted o (yielded ops tmps) = wanted2 o (ops.toList.map (·.dst)) tmps := by
  unfold Region.wanted wanted2
  cases o.guard with
  | none => rfl
  | some g =>
    obtain ⟨j, want⟩ := g
    have : yielded ops tmps j = yielded2 (ops.toList.map (·.dst)) tmps j := by
      unfold yielded yielded2
      simp only [List.getElem?_map, Array.getElem?_toList]
      cases ops[j]? <;> rfl
    simp only [this]
/-- The walk along a plan whose operations are written out; E: what is asked of the region's rest. -/
def wpPlan2 (P : Program) (dsts : List (Option Tmp)) (S : World → Prop) (E : Act → World → Prop) : List (Oper × Bool) → Act → World → Prop
  | [], a, w => E a w
  | (o, true) :: r, a, w => ∃ d v, o.dst = some d ∧ ((wanted2 o dsts a.tmps = true ∧ ∀ w, S w → (execOp a.eval o).run P w = .ok (.value v) w) ∨ (wanted2 o dsts a.tmps = false ∧ v = undef)) ∧ wpPlan2 P dsts S E r ⟨a.tmps.setIfInBounds d v, a.defers⟩ w
  | (o, false) :: r, a, w => ∃ d, o.dst = some d ∧ ((wanted2 o dsts a.tmps = false ∧ S w ∧ wpPlan2 P dsts S E r ⟨a.tmps.setIfInBounds d undef, a.defers⟩ w) ∨
      (wanted2 o dsts a.tmps = true ∧ ((∃ v w', (execOp a.eval o).run P w = .ok (.value v) w' ∧ S w' ∧ wpPlan2 P dsts S E r ⟨a.tmps.setIfInBounds d v, a.defers⟩ w') ∨
        (∃ f args, (execOp a.eval o).run P w = .ok (.enter f args) w ∧ Calls P f args w fun e w' => ∃ v, e = .returned v ∧ S w' ∧ wpPlan2 P dsts S E r ⟨a.tmps.setIfInBounds d v, a.defers⟩ w'))))
theorem plan_of_plan2 {E : Act → World → Prop} (hE : ∀ a w, E a w → wpList P ops Q (ops.toList.drop m) a w) : ∀ (plan : List (Nat × Bool)) (a : Act) (w : World), (∀ p ∈ plan, p.1 < ops.size) →
    wpPlan2 P (ops.toList.map (·.dst)) S E (plan.map fun p => (ops.getD p.1 default, p.2)) a w → wpPlan P ops Q S m plan a w
  | [], a, w, _, h => hE _ _ h
  | (i, true) :: r, a, w, hlt, h => by
    obtain ⟨d, v, hd, hy, h⟩ := h
    have hi : i < ops.size := hlt _ (List.mem_cons_self)
    have ho : ops[i]? = some (ops.getD i default) := by simp [Array.getD, hi]
    refine ⟨_, v, ho, ?_, ?_⟩
    · rw [← wanted2_eq] at hy; exact hy
    · simp only [Act.put, hd]
      exact plan_of_plan2 hE r _ _ (fun p hp => hlt p (List.mem_cons_of_mem _ hp)) h
  | (i, false) :: r, a, w, hlt, h => by
    obtain ⟨d, hd, h⟩ := h
    have hi : i < ops.size := hlt _ (List.mem_cons_self)
    have ho : ops[i]? = some (ops.getD i default) := by simp [Array.getD, hi]
    have ih : ∀ a w, _ → wpPlan P ops Q S m r a w := fun a w => plan_of_plan2 hE r a w (fun p hp => hlt p (List.mem_cons_of_mem _ hp))
    show wpOp P ops Q i _ _ w
    unfold wpOp
    simp only [ho]
    rcases h with ⟨hw, hS, h⟩ | ⟨hw, h⟩
    · rw [← wanted2_eq] at hw
      simp only [hw]
      exact ⟨hS, by simp only [Act.put, hd]; exact ih _ _ h⟩
    · rw [← wanted2_eq] at hw
      simp only [hw, if_true]
      refine .inl ?_
      unfold Oper.wp
      rcases h with ⟨v, w', he, hS, h⟩ | ⟨f, args, he, hc⟩
      · rw [he, Oper.upon_value]
        exact ⟨hS, by simp only [Act.put, hd]; exact ih _ _ h⟩
      · rw [he, Oper.upon_enter]
        refine Calls.mono hc fun e w' hr => ?_
        obtain ⟨v, rfl, hS, h⟩ := hr
        exact ⟨hS, by simp only [Act.put, hd]; exact ih _ _ h⟩
theorem wp_region_plan2 (S : World → Prop) (m : Nat) (plan : List (Nat × Bool)) {id : Nat} {a : Act} {w : World} {l : List (Oper × Bool)} {dsts : List (Option Tmp)} (hmx : P.follows .mixedOrders = true) (hok : regionOk ops m plan = true)
    (hQ : ∀ c a d v w, Q (.panic c) (Act.put a d v) w → Q (.panic c) a w) (hlt : (plan.all fun p => decide (p.1 < ops.size)) = true) (hl : (plan.map fun p => (ops.getD p.1 default, p.2)) = l) (hds : ops.toList.map (·.dst) = dsts)
    (hS : S w.drew) (h : ∀ E : Act → World → Prop, (∀ a w, wpList P ops Q (ops.toList.drop m) a w → E a w) → wpPlan2 P dsts S E l a w.drew) : (Code.region id ops true).wp P Q a w := by
  subst hl hds
  exact wp_region_plan S m plan hmx hok hQ hS (plan_of_plan2 (E := wpList P ops Q (ops.toList.drop m)) (fun _ _ h => h) plan a _ (fun p hp => by simpa using List.all_eq_true.1 hlt p hp) (h _ fun _ _ h => h))
section
variable {dsts : List (Option Tmp)} {E : Act → World → Prop}
theorem plan_take {d : Nat} {r : List (Oper × Bool)} {tmps : Array Value} {defers : List Deferred} {w : World} {o : Oper} {v : Value} (hd : o.dst = some d) (hw : wanted2 o dsts tmps = true)
    (hy : ∀ w, S w → (execOp (Act.eval ⟨tmps, defers⟩) o).run P w = .ok (.value v) w) (h : wpPlan2 P dsts S E r ⟨tmps.setIfInBounds d v, defers⟩ w) : wpPlan2 P dsts S E ((o, true) :: r) ⟨tmps, defers⟩ w :=
  ⟨d, v, hd, .inl ⟨hw, hy⟩, h⟩
theorem plan_pass {d : Nat} {r : List (Oper × Bool)} {tmps : Array Value} {defers : List Deferred} {w : World} {o : Oper} (hd : o.dst = some d) (hw : wanted2 o dsts tmps = false)
    (h : wpPlan2 P dsts S E r ⟨tmps.setIfInBounds d undef, defers⟩ w) : wpPlan2 P dsts S E ((o, true) :: r) ⟨tmps, defers⟩ w :=
  ⟨d, undef, hd, .inr ⟨hw, rfl⟩, h⟩
/-- an operation that yields a value and leaves another world -/
theorem plan_value {d : Nat} {r : List (Oper × Bool)} {tmps : Array Value} {defers : List Deferred} {w w' : World} {o : Oper} {v : Value} (hd : o.dst = some d) (hw : wanted2 o dsts tmps = true)
    (he : (execOp (Act.eval ⟨tmps, defers⟩) o).run P w = .ok (.value v) w') (hS : S w') (h : wpPlan2 P dsts S E r ⟨tmps.setIfInBounds d v, defers⟩ w') : wpPlan2 P dsts S E ((o, false) :: r) ⟨tmps, defers⟩ w :=
  ⟨d, hd, .inr ⟨hw, .inl ⟨v, w', he, hS, h⟩⟩⟩
end
end
end Go.Proofs.YtcojnigkgbmbmaaGreatDoor
namespace Go.Proofs.YtcojnigkgbmbmaaGreatDoor
open Go Go.RowKit
inductive Pln where
  | done
  | take (i : Nat) (r : Pln)
  | step (i : Nat) (r : Pln)
  | fork (i : Nat) (r : Pln) (j : Nat) (q : Pln)
def Pln.len : Pln → Nat
  | .done => 0
  | .take _ r => r.len + 1
  | .step _ r => r.len + 1
  | .fork _ r _ _ => r.len + 1
section
variable {P : Program} {ops : Array Oper} {Q : Exit → Act → World → Prop} {m : Nat}
theorem anyM_mono {S S' : World → Prop} (hS : ∀ w, S' w → S w) : ∀ (fuel : Nat) (listed : Array Bool) (a : Act) (w : World), wpAnyM P ops Q S' m fuel listed a w → wpAnyM P ops Q S m fuel listed a w
  | 0, _, _, _, h => h
  | fuel + 1, _, _, _, h => ⟨h.1, fun i hi => wpOp_mono (fun a' w' h' => ⟨fun hm => hS _ (h'.1 hm), anyM_mono hS fuel _ a' w' h'.2⟩) (h.2 i hi)⟩
def wpTree (P : Program) (ops : Array Oper) (Q : Exit → Act → World → Prop) (m : Nat) : Pln → (World → Prop) → Act → World → Prop
  | .done, _, a, w => wpList P ops Q (ops.toList.drop m) a w
  | .take i r, S, a, w => ∃ o v, ops[i]? = some o ∧ YieldsIf P ops S o v a ∧ wpTree P ops Q m r S (a.put o.dst v) w
  | .step i r, S, a, w => wpOp P ops Q i (fun a' w' => ∃ S' : World → Prop, (∀ w, S' w → S w) ∧ S' w' ∧ wpTree P ops Q m r S' a' w') a w
  | .fork i r j q, S, a, w => wpOp P ops Q i (fun a' w' => ∃ S' : World → Prop, (∀ w, S' w → S w) ∧ S' w' ∧ wpTree P ops Q m r S' a' w') a w ∧
      wpOp P ops Q j (fun a' w' => ∃ S' : World → Prop, (∀ w, S' w → S w) ∧ S' w' ∧ wpTree P ops Q m q S' a' w') a w
def treeOk (ops : Array Oper) (m : Nat) : Pln → Array Bool → Bool
  | .done, listed => forced ops (ops.size - m) m listed
  | .take i r, listed => decide (i < m) && Region.free .any ops listed i && (Region.ready .any ops listed).contains i && (List.range ops.size).all (fun j => decide (j < m) || reach ops ops.size j i) && treeOk ops m r (listed.setIfInBounds i true)
  | .step i r, listed => decide (i < m) && (Region.ready .any ops listed == [i]) && treeOk ops m r (listed.setIfInBounds i true)
  | .fork i r j q, listed => decide (i < m) && decide (j < m) && (r.len == q.len) && (Region.ready .any ops listed == [i, j]) && treeOk ops m r (listed.setIfInBounds i true) && treeOk ops m q (listed.setIfInBounds j true)
theorem anyM_of_tree (hsel : Region.noSelect ops = true) (hQ : ∀ c a d v w, Q (.panic c) (Act.put a d v) w → Q (.panic c) a w) (hm : m ≤ ops.size) :
    ∀ (plan : Pln) (S : World → Prop) (listed : Array Bool) (a : Act) (w : World), treeOk ops m plan listed = true → Closed ops listed → S w →
      wpTree P ops Q m plan S a w → wpAnyM P ops Q S m (plan.len + (ops.size - m)) listed a w
  | .done, S, listed, a, w, hok, _, _, h => by
    rw [Pln.len, Nat.zero_add]
    exact anyM_of_forced (ops.size - m) m listed a w hok (by omega) (Nat.le_refl _) h
  | .take i r, S, listed, a, w, hok, hcl, hS, h => by
    simp only [treeOk, Bool.and_eq_true, decide_eq_true_eq] at hok
    obtain ⟨⟨⟨⟨him, hf⟩, hr⟩, hre⟩, hok⟩ := hok
    obtain ⟨o, v, ho, hy, h⟩ := h
    have hr' : i ∈ Region.ready .any ops listed := by simpa using hr
    rw [show (Pln.take i r).len + (ops.size - m) = (r.len + (ops.size - m)) + 1 by simp [Pln.len]; omega]
    refine wpAnyM_first ho him (Region.noSelect_spec hsel) (fun c a w => hQ c a _ _ w) (fun j hj hjs => ?_) _ listed a w hcl (Region.free_spec ho hf) hr' hy hS (anyM_of_tree hsel hQ hm r S _ _ _ hok (closed_set hcl hr') hS h)
    have := List.all_eq_true.1 hre j (List.mem_range.2 hjs)
    simp only [Bool.or_eq_true, decide_eq_true_eq] at this
    exact this.resolve_left (by omega)
  | .step i r, S, listed, a, w, hok, hcl, hS, h => by
    simp only [treeOk, Bool.and_eq_true, decide_eq_true_eq, beq_iff_eq] at hok
    obtain ⟨⟨_, hr⟩, hok⟩ := hok
    rw [show (Pln.step i r).len + (ops.size - m) = (r.len + (ops.size - m)) + 1 by simp [Pln.len]; omega]
    refine ⟨fun h0 => (by rw [hr] at h0; cases h0), fun j hj => ?_⟩
    have hj' := hj
    rw [hr, List.mem_singleton] at hj
    subst hj
    exact wpOp_mono (fun a' w' ⟨S', h1, h2, h3⟩ => ⟨fun _ => h1 _ h2, anyM_mono h1 _ _ _ _ (anyM_of_tree hsel hQ hm r S' _ _ _ hok (closed_set hcl hj') h2 h3)⟩) h
  | .fork i r k q, S, listed, a, w, hok, hcl, hS, h => by
    simp only [treeOk, Bool.and_eq_true, decide_eq_true_eq, beq_iff_eq] at hok
    obtain ⟨⟨⟨⟨⟨_, _⟩, hlen⟩, hr⟩, hok1⟩, hok2⟩ := hok
    rw [show (Pln.fork i r k q).len + (ops.size - m) = (r.len + (ops.size - m)) + 1 by simp [Pln.len]; omega]
    refine ⟨fun h0 => (by rw [hr] at h0; cases h0), fun j hj => ?_⟩
    have hj' := hj
    rw [hr] at hj
    rcases List.mem_cons.1 hj with rfl | hj
    · exact wpOp_mono (fun a' w' ⟨S', h1, h2, h3⟩ => ⟨fun _ => h1 _ h2, anyM_mono h1 _ _ _ _ (anyM_of_tree hsel hQ hm r S' _ _ _ hok1 (closed_set hcl hj') h2 h3)⟩) h.1
    · rw [List.mem_singleton] at hj
      subst hj
      rw [hlen]
      exact wpOp_mono (fun a' w' ⟨S', h1, h2, h3⟩ => ⟨fun _ => h1 _ h2, anyM_mono h1 _ _ _ _ (anyM_of_tree hsel hQ hm q S' _ _ _ hok2 (closed_set hcl hj') h2 h3)⟩) h.2
/-- the plan with its operations written out -/
inductive PlnO where
  | done
  | take (o : Oper) (r : PlnO)
  | step (o : Oper) (r : PlnO)
  | fork (o : Oper) (r : PlnO) (p : Oper) (q : PlnO)
def Pln.out (ops : Array Oper) : Pln → PlnO
  | .done => .done
  | .take i r => .take (ops.getD i default) (r.out ops)
  | .step i r => .step (ops.getD i default) (r.out ops)
  | .fork i r j q => .fork (ops.getD i default) (r.out ops) (ops.getD j default) (q.out ops)
def Pln.inside (n : Nat) : Pln → Bool
  | .done => true
  | .take i r => decide (i < n) && r.inside n
  | .step i r => decide (i < n) && r.inside n
  | .fork i r j q => decide (i < n) && r.inside n && decide (j < n) && q.inside n
/-- one operation with an effect, behind it E (its slot's value put) -/
def StepO (P : Program) (dsts : List (Option Tmp)) (o : Oper) (E : Act → World → Prop) (a : Act) (w : World) : Prop :=
  wanted2 o dsts a.tmps = true ∧ ((∃ d, o.dst = some d ∧ ((∃ v w', (execOp a.eval o).run P w = .ok (.value v) w' ∧ E ⟨a.tmps.setIfInBounds d v, a.defers⟩ w') ∨
    (∃ f args, (execOp a.eval o).run P w = .ok (.enter f args) w ∧ Calls P f args w fun e w' => ∃ v, e = .returned v ∧ E ⟨a.tmps.setIfInBounds d v, a.defers⟩ w'))) ∨
    (o.dst = none ∧ ∃ w', (execOp a.eval o).run P w = .ok .skip w' ∧ E a w'))
def wpTreeO (P : Program) (dsts : List (Option Tmp)) (E : Act → World → Prop) : PlnO → (World → Prop) → Act → World → Prop
  | .done, _, a, w => E a w
  | .take o r, S, a, w => ∃ d v, o.dst = some d ∧ (wanted2 o dsts a.tmps = true ∧ ∀ w, S w → (execOp a.eval o).run P w = .ok (.value v) w) ∧ wpTreeO P dsts E r S ⟨a.tmps.setIfInBounds d v, a.defers⟩ w
  | .step o r, S, a, w => StepO P dsts o (fun a' w' => ∃ S' : World → Prop, (∀ w, S' w → S w) ∧ S' w' ∧ wpTreeO P dsts E r S' a' w') a w
  | .fork o r p q, S, a, w => StepO P dsts o (fun a' w' => ∃ S' : World → Prop, (∀ w, S' w → S w) ∧ S' w' ∧ wpTreeO P dsts E r S' a' w') a w ∧ StepO P dsts p (fun a' w' => ∃ S' : World → Prop, (∀ w, S' w → S w) ∧ S' w' ∧ wpTreeO P dsts E q S' a' w') a w
theorem step_out {i : Nat} (hi : i < ops.size) {E F : Act → World → Prop} (hEF : ∀ a w, E a w → F a w) {a : Act} {w : World} (h : StepO P (ops.toList.map (·.dst)) (ops.getD i default) E a w) : wpOp P ops Q i F a w := by
  obtain ⟨hw, h⟩ := h
  have ho : ops[i]? = some (ops.getD i default) := by simp [Array.getD, hi]
  unfold wpOp
  simp only [ho]
  rw [← wanted2_eq] at hw
  simp only [hw, if_true]
  refine .inl ?_
  unfold Oper.wp
  rcases h with ⟨d, hd, ⟨v, w', he, h⟩ | ⟨f, args, he, hc⟩⟩ | ⟨hd, w', he, h⟩
  · rw [he, Oper.upon_value]
    simp only [Act.put, hd]
    exact hEF _ _ h
  · rw [he, Oper.upon_enter]
    refine Calls.mono hc fun e w' hr => ?_
    obtain ⟨v, rfl, h⟩ := hr
    simp only [Act.put, hd]
    exact hEF _ _ h
  · rw [he, Oper.upon_skip]
    simp only [Act.put, hd]
    exact hEF _ _ h
theorem tree_of_out {E : Act → World → Prop} (hE : ∀ a w, E a w → wpList P ops Q (ops.toList.drop m) a w) : ∀ (plan : Pln) (S : World → Prop) (a : Act) (w : World), plan.inside ops.size = true →
    wpTreeO P (ops.toList.map (·.dst)) E (plan.out ops) S a w → wpTree P ops Q m plan S a w
  | .done, S, a, w, _, h => hE _ _ h
  | .take i r, S, a, w, hb, h => by
    simp only [Pln.inside, Bool.and_eq_true, decide_eq_true_eq] at hb
    obtain ⟨d, v, hd, hy, h⟩ := h
    have ho : ops[i]? = some (ops.getD i default) := by simp [Array.getD, hb.1]
    refine ⟨_, v, ho, ?_, ?_⟩
    · rw [← wanted2_eq] at hy; exact .inl hy
    · simp only [Act.put, hd]
      exact tree_of_out hE r S _ _ hb.2 h
  | .step i r, S, a, w, hb, h => by
    simp only [Pln.inside, Bool.and_eq_true, decide_eq_true_eq] at hb
    exact step_out hb.1 (fun a w ⟨S', h1, h2, h3⟩ => ⟨S', h1, h2, tree_of_out hE r S' _ _ hb.2 h3⟩) h
  | .fork i r j q, S, a, w, hb, h => by
    simp only [Pln.inside, Bool.and_eq_true, decide_eq_true_eq] at hb
    exact ⟨step_out hb.1.1.1 (fun a w ⟨S', h1, h2, h3⟩ => ⟨S', h1, h2, tree_of_out hE r S' _ _ hb.1.1.2 h3⟩) h.1, step_out hb.1.2 (fun a w ⟨S', h1, h2, h3⟩ => ⟨S', h1, h2, tree_of_out hE q S' _ _ hb.2 h3⟩) h.2⟩
def regionTreeOk (ops : Array Oper) (m : Nat) (plan : Pln) : Bool :=
  Region.noSelect ops && decide (m ≤ ops.size) && (plan.len == m) && treeOk ops m plan (Array.replicate ops.size false) && plan.inside ops.size
theorem wp_region_tree (S : World → Prop) (m : Nat) (plan : Pln) {id : Nat} {a : Act} {w : World} {l : PlnO} {dsts : List (Option Tmp)} (hmx : P.follows .mixedOrders = true) (hok : regionTreeOk ops m plan = true)
    (hQ : ∀ c a d v w, Q (.panic c) (Act.put a d v) w → Q (.panic c) a w) (hl : plan.out ops = l) (hds : ops.toList.map (·.dst) = dsts)
    (hS : S w.drew) (h : ∀ E : Act → World → Prop, (∀ a w, wpList P ops Q (ops.toList.drop m) a w → E a w) → wpTreeO P dsts E l S a w.drew) : (Code.region id ops true).wp P Q a w := by
  subst hl hds
  simp only [regionTreeOk, Bool.and_eq_true, decide_eq_true_eq, beq_iff_eq] at hok
  obtain ⟨⟨⟨⟨hsel, hm⟩, hl⟩, hok⟩, hbl⟩ := hok
  have hcl : Closed ops (Array.replicate ops.size false) := fun j o ho hl => by
    have hlt := (Array.getElem?_eq_some_iff.1 ho).1
    simp [hlt] at hl
  have := anyM_of_tree hsel hQ hm plan S _ a w.drew hok hcl hS (tree_of_out (E := wpList P ops Q (ops.toList.drop m)) (fun _ _ h => h) plan S a _ hbl (h _ fun _ _ h => h))
  rw [show plan.len + (ops.size - m) = ops.size by omega] at this
  exact wp_region_any hmx (wpAny_of_M _ _ _ _ this)
section
variable {dsts : List (Option Tmp)} {E : Act → World → Prop} {S : World → Prop}
theorem tree_take {d : Nat} {r : PlnO} {tmps : Array Value} {defers : List Deferred} {w : World} {o : Oper} {v : Value} (hd : o.dst = some d) (hw : wanted2 o dsts tmps = true)
    (hy : ∀ w, S w → (execOp (Act.eval ⟨tmps, defers⟩) o).run P w = .ok (.value v) w) (h : wpTreeO P dsts E r S ⟨tmps.setIfInBounds d v, defers⟩ w) : wpTreeO P dsts E (.take o r) S ⟨tmps, defers⟩ w :=
  ⟨d, v, hd, ⟨hw, hy⟩, h⟩
theorem tree_call {d f : Nat} {args : Array Value} {r : PlnO} {tmps : Array Value} {defers : List Deferred} {w : World} {o : Oper} {R : Ending → World → Prop} (hd : o.dst = some d) (hw : wanted2 o dsts tmps = true)
    (he : (execOp (Act.eval ⟨tmps, defers⟩) o).run P w = .ok (.enter f args) w) (hc : Calls P f args w R)
    (h : ∀ e w', R e w' → ∃ v, e = .returned v ∧ ∃ S' : World → Prop, (∀ w, S' w → S w) ∧ S' w' ∧ wpTreeO P dsts E r S' ⟨tmps.setIfInBounds d v, defers⟩ w') :
    StepO P dsts o (fun a' w' => ∃ S' : World → Prop, (∀ w, S' w → S w) ∧ S' w' ∧ wpTreeO P dsts E r S' a' w') ⟨tmps, defers⟩ w :=
  ⟨hw, .inl ⟨d, hd, .inr ⟨f, args, he, Calls.mono hc h⟩⟩⟩
theorem tree_value {d : Nat} {r : PlnO} {tmps : Array Value} {defers : List Deferred} {w w' : World} {o : Oper} {v : Value} (hd : o.dst = some d) (hw : wanted2 o dsts tmps = true)
    (he : (execOp (Act.eval ⟨tmps, defers⟩) o).run P w = .ok (.value v) w') (hS : S w') (h : wpTreeO P dsts E r S ⟨tmps.setIfInBounds d v, defers⟩ w') :
    StepO P dsts o (fun a' w' => ∃ S' : World → Prop, (∀ w, S' w → S w) ∧ S' w' ∧ wpTreeO P dsts E r S' a' w') ⟨tmps, defers⟩ w :=
  ⟨hw, .inl ⟨d, hd, .inl ⟨v, w', he, S, fun _ h => h, hS, h⟩⟩⟩
/-- an operation without a value: a store -/
theorem tree_skip (S : World → Prop) {r : PlnO} {tmps : Array Value} {defers : List Deferred} {w w' : World} {o : Oper} (hd : o.dst = none) (hw : wanted2 o dsts tmps = true)
    (he : (execOp (Act.eval ⟨tmps, defers⟩) o).run P w = .ok .skip w') (hS : S w') (h : wpTreeO P dsts E r S ⟨tmps, defers⟩ w') :
    StepO P dsts o (fun a' w' => ∃ S' : World → Prop, (∀ w, S' w → S w) ∧ S' w' ∧ wpTreeO P dsts E r S' a' w') ⟨tmps, defers⟩ w :=
  ⟨hw, .inr ⟨hd, w', he, S, fun _ h => h, hS, h⟩⟩
end
end
end Go.Proofs.YtcojnigkgbmbmaaGreatDoor
