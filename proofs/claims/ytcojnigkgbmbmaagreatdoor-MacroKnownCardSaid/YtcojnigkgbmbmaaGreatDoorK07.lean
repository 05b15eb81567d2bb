/- Row, Tree -/
import Derived.Test.YtcojnigkgbmbmaaGreatDoorK05
import Derived.Test.YtcojnigkgbmbmaaGreatDoorK06
import Derived.Handy
import Derived.WalkMore
import Derived.Shelf.Abstract
namespace Go.Proofs.YtcojnigkgbmbmaaGreatDoor
open Go Go.RowKit
/-- the cells of elements, one behind the other. -/
def rowC {α : Type} (f : α → List Value) (xs : List α) : List Value := xs.flatMap f
section
variable {α : Type} {f : α → List Value} {s : Nat}
theorem rowC_len (hf : ∀ x, (f x).length = s) (xs : List α) : (rowC f xs).length = xs.length * s := by
  induction xs with
  | nil => simp [rowC]
  | cons x xs ih =>
    have h1 : rowC f (x :: xs) = f x ++ rowC f xs := rfl
    rw [h1, List.length_append, hf, ih, List.length_cons, Nat.add_mul, Nat.one_mul, Nat.add_comm]
theorem rowC_app (xs ys : List α) : rowC f (xs ++ ys) = rowC f xs ++ rowC f ys := List.flatMap_append
theorem rowC_one (x : α) : rowC f [x] = f x := by simp [rowC]
theorem rowC_get (hf : ∀ x, (f x).length = s) (xs : List α) (k : Nat) (hk : k < xs.length) (j : Nat) (hj : j < s) : (rowC f xs)[k * s + j]? = (f xs[k])[j]? := by
  induction xs generalizing k with
  | nil => simp at hk
  | cons x xs ih =>
    have h1 : rowC f (x :: xs) = f x ++ rowC f xs := rfl
    rw [h1]
    cases k with
    | zero => rw [Nat.zero_mul, Nat.zero_add, List.getElem?_append_left (by rw [hf]; exact hj)]; rfl
    | succ k =>
      rw [List.getElem?_append_right (by rw [hf, Nat.add_mul]; omega), hf]
      have e : (k + 1) * s + j - s = k * s + j := by rw [Nat.add_mul]; omega
      rw [e, ih k (by simpa using hk)]
      rfl
theorem rowC_set (hf : ∀ x, (f x).length = s) (xs : List α) (k : Nat) (hk : k < xs.length) (j : Nat) (hj : j < s) (u : Value) (y : α) (hy : f y = (f xs[k]).set j u) : (rowC f xs).set (k * s + j) u = rowC f (xs.set k y) := by
  induction xs generalizing k with
  | nil => simp at hk
  | cons x xs ih =>
    have h1 : rowC f (x :: xs) = f x ++ rowC f xs := rfl
    rw [h1]
    cases k with
    | zero =>
      rw [Nat.zero_mul, Nat.zero_add, List.set_append_left _ _ (by rw [hf]; exact hj)]
      have h2 : f x = f (x :: xs)[0] := rfl
      rw [h2, ← hy]; rfl
    | succ k =>
      rw [List.set_append_right _ _ (by rw [hf, Nat.add_mul]; omega), hf]
      have e : (k + 1) * s + j - s = k * s + j := by rw [Nat.add_mul]; omega
      rw [e, ih k (by simpa using hk) hy]
      rfl
theorem rowC_take (hf : ∀ x, (f x).length = s) (xs : List α) (n : Nat) : rowC f (xs.take n) = (rowC f xs).take (n * s) := by
  induction xs generalizing n with
  | nil => simp [rowC]
  | cons x xs ih =>
    have h1 : rowC f (x :: xs) = f x ++ rowC f xs := rfl
    cases n with
    | zero => simp [rowC]
    | succ n =>
      have h2 : rowC f ((x :: xs).take (n + 1)) = f x ++ rowC f (xs.take n) := rfl
      rw [h2, ih, h1, List.take_append, hf, List.take_of_length_le (l := f x) (by rw [hf, Nat.add_mul]; omega)]
      have e : (n + 1) * s - s = n * s := by rw [Nat.add_mul]; omega
      rw [e]
end
theorem row_shape {w : World} {base e size n : Nat} {v : Value} {xs : List Value} (h : w.ownsRow base e size v n xs) (hn : 0 < n) : ∃ g cap, v = .slice (some ⟨g, 0, none⟩) n cap ∧ base ≤ g ∧ g < w.heap.size := by
  rcases h.2 with ⟨rfl, rfl⟩ | ⟨g, cap, cur, rfl, hbg, hh, h1, h2, h3, h4⟩
  · omega
  · refine ⟨g, cap, rfl, hbg, ?_⟩
    rcases Nat.lt_or_ge g w.heap.size with hlt | hge
    · exact hlt
    · rw [Array.getElem?_eq_none hge] at hh; cases hh
theorem row_cell {w : World} {base e g n cap : Nat} {s : Nat} {α : Type} {f : α → List Value} (hf : ∀ x, (f x).length = s) {xs : List α} (h : w.ownsRow base e s (.slice (some ⟨g, 0, none⟩) n cap) n (rowC f xs)) (k : Nat) (hk : k < xs.length) (j : Nat) (hj : j < s) : w.cell? ⟨g, k * s + j, none⟩ = (f xs[k])[j]? := by
  have hl : n * s = xs.length * s := by rw [← h.1, rowC_len hf]
  have hlt : k * s + j < xs.length * s := by
    have h1 : (k + 1) * s ≤ xs.length * s := Nat.mul_le_mul_right s hk
    rw [Nat.add_mul] at h1
    omega
  rw [h.cellAt _ (by rw [hl]; exact hlt), rowC_get hf xs k hk j hj]
theorem row_set {w : World} {base e g n cap : Nat} {s : Nat} {α : Type} {f : α → List Value} (hf : ∀ x, (f x).length = s) {xs : List α} (h : w.ownsRow base e s (.slice (some ⟨g, 0, none⟩) n cap) n (rowC f xs)) (k : Nat) (hk : k < xs.length) (j : Nat) (hj : j < s) (u : Value) (y : α) (hy : f y = (f xs[k]).set j u) :
    (w.setCell ⟨g, k * s + j, none⟩ u).ownsRow base e s (.slice (some ⟨g, 0, none⟩) n cap) n (rowC f (xs.set k y)) := by
  rw [← rowC_set hf xs k hk j hj u y hy]
  exact (h.stored _ u).1
/-- of what lay in A nothing has turned but own. -/
structure Turn (own : Nat → Prop) (A B : World) : Prop where
  os : B.os = A.os
  tape : B.tape = A.tape
  output : B.output = A.output
  size : A.heap.size ≤ B.heap.size
  block : ∀ k, k < A.heap.size → ¬ own k → B.heap[k]? = A.heap[k]?
theorem Turn.of_below {own : Nat → Prop} {w w' : World} (h : Below w.heap.size w w') : Turn own w w' := ⟨h.os, h.tape, h.output, h.size, fun k hk _ => h.block k hk⟩
theorem Turn.refl (own : Nat → Prop) (w : World) : Turn own w w := ⟨rfl, rfl, rfl, Nat.le_refl _, fun _ _ _ => rfl⟩
theorem Turn.trans {own : Nat → Prop} {a b c : World} (h : Turn own a b) (k : Turn own b c) : Turn own a c :=
  ⟨k.os.trans h.os, k.tape.trans h.tape, k.output.trans h.output, Nat.le_trans h.size k.size, fun i hi hn => (k.block i (Nat.lt_of_lt_of_le hi h.size) hn).trans (h.block i hi hn)⟩
theorem Turn.mono {own own' : Nat → Prop} {w w' : World} (h : Turn own w w') (hs : ∀ k, own k → own' k) : Turn own' w w' := ⟨h.os, h.tape, h.output, h.size, fun k hk hn => h.block k hk (fun e => hn (hs k e))⟩
/-- what own' has beyond own lies behind a. -/
theorem Turn.trans' {own own' : Nat → Prop} {a b c : World} (h : Turn own a b) (k : Turn own' b c) (ho : ∀ i, own' i → i < a.heap.size → own i) : Turn own a c :=
  ⟨k.os.trans h.os, k.tape.trans h.tape, k.output.trans h.output, Nat.le_trans h.size k.size, fun i hi hn => (k.block i (Nat.lt_of_lt_of_le hi h.size) (fun e => hn (ho i e hi))).trans (h.block i hi hn)⟩
theorem Turn.set {own : Nat → Prop} {w w' : World} (h : Turn own w w') {p : Addr} (hp : own p.block ∨ w.heap.size ≤ p.block) (v : Value) : Turn own w (w'.setCell p v) :=
  ⟨h.os, h.tape, h.output, by simpa using h.size, fun k hk hn => (Below.heap_setCell w' p v k (fun e => by rcases hp with hp | hp; exact hn (e ▸ hp); omega)).trans (h.block k hk hn)⟩
theorem Turn.grown {own : Nat → Prop} {w w' w'' : World} {row : Option Nat} (h : Turn own w w') (g : w'.grownBy w'' row) (hr : ∀ r, row = some r → own r ∨ w.heap.size ≤ r) : Turn own w w'' :=
  ⟨g.os.trans h.os, g.tape.trans h.tape, g.output.trans h.output, Nat.le_trans h.size g.size, fun k hk hn => (g.block k (Nat.lt_of_lt_of_le hk h.size) (fun e => by rcases hr k e.symm with h1 | h1; exact hn h1; omega)).trans (h.block k hk hn)⟩
theorem Turn.blk {own : Nat → Prop} {w w' : World} (h : Turn own w w') {g : Nat} {t : TypeId} {cs : Array Value} (hb : Blk w g t cs) (hg : ¬ own g) : Blk w' g t cs := (h.block g hb.lt hg).trans hb
theorem Turn.sl {own : Nat → Prop} {A B : World} (h : Turn own A B) {a : Option Addr} {xs : List Value} (hs : Sl A a xs) (hn : ∀ ad, a = some ad → ¬ own ad.block) : Sl B a xs := fun k v hk => by
  obtain ⟨ad, rfl, hl, hc⟩ := hs k v hk
  refine ⟨ad, rfl, Nat.lt_of_lt_of_le hl h.size, ?_⟩
  rw [World.cell?_of_block (h.block (ad.add k).block (by rw [addr_add_block]; exact hl) (by rw [addr_add_block]; exact hn ad rfl))]
  exact hc
theorem wrap_nil {P : Program} {W : World} (tys : Array TypeId) (t : TypeId) (a : Addr) (s m : ByteArray) : (Builtin.ssaWrapNilChk_ tys t #[.pointer (some a), .string s, .string m]).run P W = .ok (.pointer (some a)) W := rfl
theorem method_val {P : Program} {fuel N t e f : Nat} (hN : N = fuel + 1) {name : String} {i : TypeInfo} {m : Method} (hi : P.info? t = some i) (hm : i.methods.find? (·.name == name) = some m) (hp : m.path = #[]) (hf : m.func = some (f, false)) (ht : P.underlying t = some (.pointer e)) (hag : ∀ W, (isAgg e).run P W = .ok false W)
    {W : World} {a : Addr} {v : Value} (hc : W.cell? a = some v) : (method N t (.pointer (some a)) name).run P W = .ok (f, v) W := by
  subst hN
  unfold method
  simp [typeInfo, hi, hm, hp, hf, follow, receiverAt, run_underlying ht, Place.get, strVal, asAddr, loadVar, hag, hc, wrap_nil]
end Go.Proofs.YtcojnigkgbmbmaaGreatDoor
namespace Go.Proofs.YtcojnigkgbmbmaaGreatDoor
open Go Go.RowKit
inductive Pln where
  | done
  | take (i : Nat) (r : Pln)
  | step (i : Nat) (r : Pln)
  | fork (i : Nat) (r : Pln) (j : Nat) (q : Pln)
def Pln.len : Pln → Nat
  | .done => 0
  | .take _ r => r.len + 1
  | .step _ r => r.len + 1
  | .fork _ r _ _ => r.len + 1
section
variable {P : Program} {ops : Array Oper} {Q : Exit → Act → World → Prop} {m : Nat}
theorem anyM_mono {S S' : World → Prop} (hS : ∀ w, S' w → S w) : ∀ (fuel : Nat) (listed : Array Bool) (a : Act) (w : World), wpAnyM P ops Q S' m fuel listed a w → wpAnyM P ops Q S m fuel listed a w
  | 0, _, _, _, h => h
  | fuel + 1, _, _, _, h => ⟨h.1, fun i hi => wpOp_mono (fun a' w' h' => ⟨fun hm => hS _ (h'.1 hm), anyM_mono hS fuel _ a' w' h'.2⟩) (h.2 i hi)⟩
def wpTree (P : Program) (ops : Array Oper) (Q : Exit → Act → World → Prop) (m : Nat) : Pln → (World → Prop) → Act → World → Prop
  | .done, _, a, w => wpList P ops Q (ops.toList.drop m) a w
  | .take i r, S, a, w => ∃ o v, ops[i]? = some o ∧ YieldsIf P ops S o v a ∧ wpTree P ops Q m r S (a.put o.dst v) w
  | .step i r, S, a, w => wpOp P ops Q i (fun a' w' => ∃ S' : World → Prop, (∀ w, S' w → S w) ∧ S' w' ∧ wpTree P ops Q m r S' a' w') a w
  | .fork i r j q, S, a, w => wpOp P ops Q i (fun a' w' => ∃ S' : World → Prop, (∀ w, S' w → S w) ∧ S' w' ∧ wpTree P ops Q m r S' a' w') a w ∧
      wpOp P ops Q j (fun a' w' => ∃ S' : World → Prop, (∀ w, S' w → S w) ∧ S' w' ∧ wpTree P ops Q m q S' a' w') a w
def treeOk (ops : Array Oper) (m : Nat) : Pln → Array Bool → Bool
  | .done, listed => forced ops (ops.size - m) m listed
  | .take i r, listed => decide (i < m) && Region.free .any ops listed i && (Region.ready .any ops listed).contains i && (List.range ops.size).all (fun j => decide (j < m) || reach ops ops.size j i) && treeOk ops m r (listed.setIfInBounds i true)
  | .step i r, listed => decide (i < m) && (Region.ready .any ops listed == [i]) && treeOk ops m r (listed.setIfInBounds i true)
  | .fork i r j q, listed => decide (i < m) && decide (j < m) && (r.len == q.len) && (Region.ready .any ops listed == [i, j]) && treeOk ops m r (listed.setIfInBounds i true) && treeOk ops m q (listed.setIfInBounds j true)
theorem anyM_of_tree (hsel : Region.noSelect ops = true) (hQ : ∀ c a d v w, Q (.panic c) (Act.put a d v) w → Q (.panic c) a w) (hm : m ≤ ops.size) :
    ∀ (plan : Pln) (S : World → Prop) (listed : Array Bool) (a : Act) (w : World), treeOk ops m plan listed = true → Closed ops listed → S w →
      wpTree P ops Q m plan S a w → wpAnyM P ops Q S m (plan.len + (ops.size - m)) listed a w
  | .done, S, listed, a, w, hok, _, _, h => by
    rw [Pln.len, Nat.zero_add]
    exact anyM_of_forced (ops.size - m) m listed a w hok (by omega) (Nat.le_refl _) h
  | .take i r, S, listed, a, w, hok, hcl, hS, h => by
    simp only [treeOk, Bool.and_eq_true, decide_eq_true_eq] at hok
    obtain ⟨⟨⟨⟨him, hf⟩, hr⟩, hre⟩, hok⟩ := hok
    obtain ⟨o, v, ho, hy, h⟩ := h
    have hr' : i ∈ Region.ready .any ops listed := by simpa using hr
    rw [show (Pln.take i r).len + (ops.size - m) = (r.len + (ops.size - m)) + 1 by simp [Pln.len]; omega]
    refine wpAnyM_first ho him (Region.noSelect_spec hsel) (fun c a w => hQ c a _ _ w) (fun j hj hjs => ?_) _ listed a w hcl (Region.free_spec ho hf) hr' hy hS (anyM_of_tree hsel hQ hm r S _ _ _ hok (closed_set hcl hr') hS h)
    have := List.all_eq_true.1 hre j (List.mem_range.2 hjs)
    simp only [Bool.or_eq_true, decide_eq_true_eq] at this
    exact this.resolve_left (by omega)
  | .step i r, S, listed, a, w, hok, hcl, hS, h => by
    simp only [treeOk, Bool.and_eq_true, decide_eq_true_eq, beq_iff_eq] at hok
    obtain ⟨⟨_, hr⟩, hok⟩ := hok
    rw [show (Pln.step i r).len + (ops.size - m) = (r.len + (ops.size - m)) + 1 by simp [Pln.len]; omega]
    refine ⟨fun h0 => (by rw [hr] at h0; cases h0), fun j hj => ?_⟩
    have hj' := hj
    rw [hr, List.mem_singleton] at hj
    subst hj
    exact wpOp_mono (fun a' w' ⟨S', h1, h2, h3⟩ => ⟨fun _ => h1 _ h2, anyM_mono h1 _ _ _ _ (anyM_of_tree hsel hQ hm r S' _ _ _ hok (closed_set hcl hj') h2 h3)⟩) h
  | .fork i r k q, S, listed, a, w, hok, hcl, hS, h => by
    simp only [treeOk, Bool.and_eq_true, decide_eq_true_eq, beq_iff_eq] at hok
    obtain ⟨⟨⟨⟨⟨_, _⟩, hlen⟩, hr⟩, hok1⟩, hok2⟩ := hok
    rw [show (Pln.fork i r k q).len + (ops.size - m) = (r.len + (ops.size - m)) + 1 by simp [Pln.len]; omega]
    refine ⟨fun h0 => (by rw [hr] at h0; cases h0), fun j hj => ?_⟩
    have hj' := hj
    rw [hr] at hj
    rcases List.mem_cons.1 hj with rfl | hj
    · exact wpOp_mono (fun a' w' ⟨S', h1, h2, h3⟩ => ⟨fun _ => h1 _ h2, anyM_mono h1 _ _ _ _ (anyM_of_tree hsel hQ hm r S' _ _ _ hok1 (closed_set hcl hj') h2 h3)⟩) h.1
    · rw [List.mem_singleton] at hj
      subst hj
      rw [hlen]
      exact wpOp_mono (fun a' w' ⟨S', h1, h2, h3⟩ => ⟨fun _ => h1 _ h2, anyM_mono h1 _ _ _ _ (anyM_of_tree hsel hQ hm q S' _ _ _ hok2 (closed_set hcl hj') h2 h3)⟩) h.2
/-- the plan with its operations written out -/
inductive PlnO where
  | done
  | take (o : Oper) (r : PlnO)
  | step (o : Oper) (r : PlnO)
  | fork (o : Oper) (r : PlnO) (p : Oper) (q : PlnO)
def Pln.out (ops : Array Oper) : Pln → PlnO
  | .done => .done
  | .take i r => .take (ops.getD i default) (r.out ops)
  | .step i r => .step (ops.getD i default) (r.out ops)
  | .fork i r j q => .fork (ops.getD i default) (r.out ops) (ops.getD j default) (q.out ops)
def Pln.inside (n : Nat) : Pln → Bool
  | .done => true
  | .take i r => decide (i < n) && r.inside n
  | .step i r => decide (i < n) && r.inside n
  | .fork i r j q => decide (i < n) && r.inside n && decide (j < n) && q.inside n
/-- one operation with an effect, behind it E (its slot's value put) -/
def StepO (P : Program) (dsts : List (Option Tmp)) (o : Oper) (E : Act → World → Prop) (a : Act) (w : World) : Prop :=
  wanted2 o dsts a.tmps = true ∧ ((∃ d, o.dst = some d ∧ ((∃ v w', (execOp a.eval o).run P w = .ok (.value v) w' ∧ E ⟨a.tmps.setIfInBounds d v, a.defers⟩ w') ∨
    (∃ f args, (execOp a.eval o).run P w = .ok (.enter f args) w ∧ Calls P f args w fun e w' => ∃ v, e = .returned v ∧ E ⟨a.tmps.setIfInBounds d v, a.defers⟩ w'))) ∨
    (o.dst = none ∧ ∃ w', (execOp a.eval o).run P w = .ok .skip w' ∧ E a w'))
def wpTreeO (P : Program) (dsts : List (Option Tmp)) (E : Act → World → Prop) : PlnO → (World → Prop) → Act → World → Prop
  | .done, _, a, w => E a w
  | .take o r, S, a, w => ∃ d v, o.dst = some d ∧ (wanted2 o dsts a.tmps = true ∧ ∀ w, S w → (execOp a.eval o).run P w = .ok (.value v) w) ∧ wpTreeO P dsts E r S ⟨a.tmps.setIfInBounds d v, a.defers⟩ w
  | .step o r, S, a, w => StepO P dsts o (fun a' w' => ∃ S' : World → Prop, (∀ w, S' w → S w) ∧ S' w' ∧ wpTreeO P dsts E r S' a' w') a w
  | .fork o r p q, S, a, w => StepO P dsts o (fun a' w' => ∃ S' : World → Prop, (∀ w, S' w → S w) ∧ S' w' ∧ wpTreeO P dsts E r S' a' w') a w ∧ StepO P dsts p (fun a' w' => ∃ S' : World → Prop, (∀ w, S' w → S w) ∧ S' w' ∧ wpTreeO P dsts E q S' a' w') a w
theorem step_out {i : Nat} (hi : i < ops.size) {E F : Act → World → Prop} (hEF : ∀ a w, E a w → F a w) {a : Act} {w : World} (h : StepO P (ops.toList.map (·.dst)) (ops.getD i default) E a w) : wpOp P ops Q i F a w := by
  obtain ⟨hw, h⟩ := h
  have ho : ops[i]? = some (ops.getD i default) := by simp [Array.getD, hi]
  unfold wpOp
  simp only [ho]
  rw [← wanted2_eq] at hw
  simp only [hw, if_true]
  refine .inl ?_
  unfold Oper.wp
  rcases h with ⟨d, hd, ⟨v, w', he, h⟩ | ⟨f, args, he, hc⟩⟩ | ⟨hd, w', he, h⟩
  · rw [he, Oper.upon_value]
    simp only [Act.put, hd]
    exact hEF _ _ h
  · rw [he, Oper.upon_enter]
    refine Calls.mono hc fun e w' hr => ?_
    obtain ⟨v, rfl, h⟩ := hr
    simp only [Act.put, hd]
    exact hEF _ _ h
  · rw [he, Oper.upon_skip]
    simp only [Act.put, hd]
    exact hEF _ _ h
theorem tree_of_out {E : Act → World → Prop} (hE : ∀ a w, E a w → wpList P ops Q (ops.toList.drop m) a w) : ∀ (plan : Pln) (S : World → Prop) (a : Act) (w : World), plan.inside ops.size = true →
    wpTreeO P (ops.toList.map (·.dst)) E (plan.out ops) S a w → wpTree P ops Q m plan S a w
  | .done, S, a, w, _, h => hE _ _ h
  | .take i r, S, a, w, hb, h => by
    simp only [Pln.inside, Bool.and_eq_true, decide_eq_true_eq] at hb
    obtain ⟨d, v, hd, hy, h⟩ := h
    have ho : ops[i]? = some (ops.getD i default) := by simp [Array.getD, hb.1]
    refine ⟨_, v, ho, ?_, ?_⟩
    · rw [← wanted2_eq] at hy; exact .inl hy
    · simp only [Act.put, hd]
      exact tree_of_out hE r S _ _ hb.2 h
  | .step i r, S, a, w, hb, h => by
    simp only [Pln.inside, Bool.and_eq_true, decide_eq_true_eq] at hb
    exact step_out hb.1 (fun a w ⟨S', h1, h2, h3⟩ => ⟨S', h1, h2, tree_of_out hE r S' _ _ hb.2 h3⟩) h
  | .fork i r j q, S, a, w, hb, h => by
    simp only [Pln.inside, Bool.and_eq_true, decide_eq_true_eq] at hb
    exact ⟨step_out hb.1.1.1 (fun a w ⟨S', h1, h2, h3⟩ => ⟨S', h1, h2, tree_of_out hE r S' _ _ hb.1.1.2 h3⟩) h.1, step_out hb.1.2 (fun a w ⟨S', h1, h2, h3⟩ => ⟨S', h1, h2, tree_of_out hE q S' _ _ hb.2 h3⟩) h.2⟩
def regionTreeOk (ops : Array Oper) (m : Nat) (plan : Pln) : Bool :=
  Region.noSelect ops && decide (m ≤ ops.size) && (plan.len == m) && treeOk ops m plan (Array.replicate ops.size false) && plan.inside ops.size
theorem wp_region_tree (S : World → Prop) (m : Nat) (plan : Pln) {id : Nat} {a : Act} {w : World} {l : PlnO} {dsts : List (Option Tmp)} (hmx : P.follows .mixedOrders = true) (hok : regionTreeOk ops m plan = true)
    (hQ : ∀ c a d v w, Q (.panic c) (Act.put a d v) w → Q (.panic c) a w) (hl : plan.out ops = l) (hds : ops.toList.map (·.dst) = dsts)
    (hS : S w.drew) (h : ∀ E : Act → World → Prop, (∀ a w, wpList P ops Q (ops.toList.drop m) a w → E a w) → wpTreeO P dsts E l S a w.drew) : (Code.region id ops true).wp P Q a w := by
  subst hl hds
  simp only [regionTreeOk, Bool.and_eq_true, decide_eq_true_eq, beq_iff_eq] at hok
  obtain ⟨⟨⟨⟨hsel, hm⟩, hl⟩, hok⟩, hbl⟩ := hok
  have hcl : Closed ops (Array.replicate ops.size false) := fun j o ho hl => by
    have hlt := (Array.getElem?_eq_some_iff.1 ho).1
    simp [hlt] at hl
  have := anyM_of_tree hsel hQ hm plan S _ a w.drew hok hcl hS (tree_of_out (E := wpList P ops Q (ops.toList.drop m)) (fun _ _ h => h) plan S a _ hbl (h _ fun _ _ h => h))
  rw [show plan.len + (ops.size - m) = ops.size by omega] at this
  exact wp_region_any hmx (wpAny_of_M _ _ _ _ this)
section
variable {dsts : List (Option Tmp)} {E : Act → World → Prop} {S : World → Prop}
theorem tree_take {d : Nat} {r : PlnO} {tmps : Array Value} {defers : List Deferred} {w : World} {o : Oper} {v : Value} (hd : o.dst = some d) (hw : wanted2 o dsts tmps = true)
    (hy : ∀ w, S w → (execOp (Act.eval ⟨tmps, defers⟩) o).run P w = .ok (.value v) w) (h : wpTreeO P dsts E r S ⟨tmps.setIfInBounds d v, defers⟩ w) : wpTreeO P dsts E (.take o r) S ⟨tmps, defers⟩ w :=
  ⟨d, v, hd, ⟨hw, hy⟩, h⟩
theorem tree_call {d f : Nat} {args : Array Value} {r : PlnO} {tmps : Array Value} {defers : List Deferred} {w : World} {o : Oper} {R : Ending → World → Prop} (hd : o.dst = some d) (hw : wanted2 o dsts tmps = true)
    (he : (execOp (Act.eval ⟨tmps, defers⟩) o).run P w = .ok (.enter f args) w) (hc : Calls P f args w R)
    (h : ∀ e w', R e w' → ∃ v, e = .returned v ∧ ∃ S' : World → Prop, (∀ w, S' w → S w) ∧ S' w' ∧ wpTreeO P dsts E r S' ⟨tmps.setIfInBounds d v, defers⟩ w') :
    StepO P dsts o (fun a' w' => ∃ S' : World → Prop, (∀ w, S' w → S w) ∧ S' w' ∧ wpTreeO P dsts E r S' a' w') ⟨tmps, defers⟩ w :=
  ⟨hw, .inl ⟨d, hd, .inr ⟨f, args, he, Calls.mono hc h⟩⟩⟩
theorem tree_value {d : Nat} {r : PlnO} {tmps : Array Value} {defers : List Deferred} {w w' : World} {o : Oper} {v : Value} (hd : o.dst = some d) (hw : wanted2 o dsts tmps = true)
    (he : (execOp (Act.eval ⟨tmps, defers⟩) o).run P w = .ok (.value v) w') (hS : S w') (h : wpTreeO P dsts E r S ⟨tmps.setIfInBounds d v, defers⟩ w') :
    StepO P dsts o (fun a' w' => ∃ S' : World → Prop, (∀ w, S' w → S w) ∧ S' w' ∧ wpTreeO P dsts E r S' a' w') ⟨tmps, defers⟩ w :=
  ⟨hw, .inl ⟨d, hd, .inl ⟨v, w', he, S, fun _ h => h, hS, h⟩⟩⟩
/-- an operation without a value: a store -/
theorem tree_skip (S : World → Prop) {r : PlnO} {tmps : Array Value} {defers : List Deferred} {w w' : World} {o : Oper} (hd : o.dst = none) (hw : wanted2 o dsts tmps = true)
    (he : (execOp (Act.eval ⟨tmps, defers⟩) o).run P w = .ok .skip w') (hS : S w') (h : wpTreeO P dsts E r S ⟨tmps, defers⟩ w') :
    StepO P dsts o (fun a' w' => ∃ S' : World → Prop, (∀ w, S' w → S w) ∧ S' w' ∧ wpTreeO P dsts E r S' a' w') ⟨tmps, defers⟩ w :=
  ⟨hw, .inr ⟨hd, w', he, S, fun _ h => h, hS, h⟩⟩
end
end
end Go.Proofs.YtcojnigkgbmbmaaGreatDoor
