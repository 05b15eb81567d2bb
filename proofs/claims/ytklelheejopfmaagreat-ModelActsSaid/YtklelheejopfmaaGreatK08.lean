/- Tab, Tree -/
import Derived.Test.YtklelheejopfmaaGreatShelf
import Derived.Test.YtklelheejopfmaaGreatK03
import Derived.Test.YtklelheejopfmaaGreatK04
import Derived.Test.YtklelheejopfmaaGreatK07
import Derived.Test.YtklelheejopfmaaGreatK05
import Derived.Maps.RangeWalk
import Derived.Handy
import Derived.WalkMore
namespace Go.Proofs.YtklelheejopfmaaGreat
open Go Go.RowKit Go.Maps
attribute [local go_sem] Oper.semAt_some
theorem Blk.at_eq {w : World} {g g' : Nat} {t : TypeId} {cs : Array Value} (h : Blk w g t cs) (e : g = g') : Blk w g' t cs := e ▸ h
theorem Blk.drew' {w : World} {g : Nat} {t : TypeId} {cs : Array Value} (h : Blk w g t cs) : Blk w.drew g t cs := h
theorem blk_ne {w : World} {g g' : Nat} {t t' : TypeId} {cs cs' : Array Value} (h : Blk w g t cs) (h' : Blk w g' t' cs') (hne : t ≠ t') : g ≠ g' := fun e => by
  subst e; unfold Blk at h h'; rw [h] at h'; cases h'; exact hne rfl
theorem blk_put {W : World} {g D : Nat} {t : TypeId} {cs : Array Value} {o : Obj} (h : Blk W g t cs) (hne : g ≠ D) : Blk (W.putObj D o) g t cs := (World.putObj_heap_other hne).trans h
theorem put_below {W : World} {B D : Nat} {o : Obj} (hB : B ≤ D) : Below B W (W.putObj D o) :=
  ⟨rfl, rfl, rfl, by simp, fun k hk => World.putObj_heap_other (by omega)⟩
theorem below_of_grown' {a b : World} (h : a.grownBy b none) : Below a.heap.size a b := ⟨h.os, h.tape, h.output, h.size, fun k hk => h.block k hk (by simp)⟩
theorem ret_nomark {F : Fence} {n : Nat} {P : Program} {fn : Func} {R : Ending → World → Prop} {tmps : Array Value} {w : World} {v : Value} (hr : (results fn tmps).run P w = .ok v w) (h : R (.returned v) w) : bodyPostM F n P fn R .ret ⟨tmps, []⟩ w := ⟨v, hr, h⟩
theorem ret_mark {F : Fence} {n : Nat} {P : Program} {fn : Func} {R : Ending → World → Prop} {tmps : Array Value} {w : World} {v : Value} {D : Nat} (hK : w.heap[D]? = some (.deferred (some []))) (hr : (results fn tmps).run P (w.putObj D (.deferred none)) = .ok v (w.putObj D (.deferred none)))
    (h : R (.returned v) (w.putObj D (.deferred none))) : bodyPostM F n P fn R .ret ⟨tmps, [{ target := .collected D, args := #[] }]⟩ w := ⟨by simp, .inl ⟨_, _, rfl, run_takeDeferred hK, v, hr, h⟩⟩
/-- of what lay in w nothing has turned but the blocks bs. -/
structure Only (bs : List Nat) (w w' : World) : Prop where
  os : w'.os = w.os
  tape : w'.tape = w.tape
  output : w'.output = w.output
  size : w.heap.size ≤ w'.heap.size
  block : ∀ k, k < w.heap.size → k ∉ bs → w'.heap[k]? = w.heap[k]?
theorem Only.of_below {bs : List Nat} {w w' : World} (h : Below w.heap.size w w') : Only bs w w' := ⟨h.os, h.tape, h.output, h.size, fun k hk _ => h.block k hk⟩
theorem Only.trans {bs : List Nat} {a b c : World} (h : Only bs a b) (k : Only bs b c) : Only bs a c :=
  ⟨k.os.trans h.os, k.tape.trans h.tape, k.output.trans h.output, Nat.le_trans h.size k.size, fun i hi hn => (k.block i (Nat.lt_of_lt_of_le hi h.size) hn).trans (h.block i hi hn)⟩
theorem Only.mono {bs bs' : List Nat} {w w' : World} (h : Only bs w w') (hs : ∀ k ∈ bs, k ∈ bs') : Only bs' w w' := ⟨h.os, h.tape, h.output, h.size, fun k hk hn => h.block k hk (fun e => hn (hs k e))⟩
theorem Only.below {bs : List Nat} {B : Nat} {w w' : World} (h : Only bs w w') (hB : B ≤ w.heap.size) (hs : ∀ k ∈ bs, B ≤ k) : Below B w w' :=
  ⟨h.os, h.tape, h.output, h.size, fun k hk => h.block k (Nat.lt_of_lt_of_le hk hB) (fun e => by have := hs k e; omega)⟩
theorem Only.blk {bs : List Nat} {w w' : World} (h : Only bs w w') {g : Nat} {t : TypeId} {cs : Array Value} (hb : Blk w g t cs) (hg : g ∉ bs) : Blk w' g t cs := (h.block g hb.lt hg).trans hb
theorem Only.own {bs : List Nat} {w w' : World} (h : Only bs w w') {P : Program} {k : TypeId} {b n : Nat} {D : DataW Value} (hb : w.ownsMap P k heldR b n D) (hg : b ∉ bs) : w'.ownsMap P k heldR b n D := by
  have hl := hb.lt
  obtain ⟨es, clock, hh, r⟩ := hb
  exact ⟨es, clock, (h.block b hl hg).trans hh, r⟩
theorem Only.set {bs : List Nat} {w w' : World} (h : Only bs w w') {p : Addr} (hp : p.block ∈ bs ∨ w.heap.size ≤ p.block) (v : Value) : Only bs w (w'.setCell p v) :=
  ⟨h.os, h.tape, h.output, by simpa using h.size, fun k hk hn => (Below.heap_setCell w' p v k (fun e => by rcases hp with hp | hp; exact hn (e ▸ hp); omega)).trans (h.block k hk hn)⟩
theorem Only.turned {bs : List Nat} {w w' w'' : World} {b : Nat} (h : Only bs w w') (ht : w'.mapTurned w'' b) (hb : b ∈ bs) : Only bs w w'' := by
  have g := ht.grown
  exact ⟨g.os.trans h.os, g.tape.trans h.tape, g.output.trans h.output, Nat.le_trans h.size g.size, fun k hk hn => (g.block k (Nat.lt_of_lt_of_le hk h.size) (fun e => by cases e; exact hn hb)).trans (h.block k hk hn)⟩
theorem blk_turned {w w' : World} {b g : Nat} {t : TypeId} {cs : Array Value} (h : Blk w g t cs) (ht : w.mapTurned w' b) : Blk w' g t cs := by
  refine h.grown ht.grown (fun e => ?_)
  cases e
  obtain ⟨es, clock, es', clock', hb, _⟩ := ht
  unfold Blk at h
  rw [h] at hb; cases hb
theorem own_ne_blk {w : World} {P : Program} {k : TypeId} {b n g : Nat} {D : DataW Value} {t : TypeId} {cs : Array Value} (h : w.ownsMap P k heldR b n D) (hb : Blk w g t cs) : b ≠ g := fun e => by
  subst e
  obtain ⟨es, clock, hh, _⟩ := h
  unfold Blk at hb
  rw [hb] at hh; cases hh
theorem own_later {w w' : World} {P : Program} {k : TypeId} {b n : Nat} {D : DataW Value} (h : w.ownsMap P k heldR b n D) (hb : Below w.heap.size w w') : w'.ownsMap P k heldR b n D := by
  have hl := h.lt
  obtain ⟨es, clock, hh, r⟩ := h
  exact ⟨es, clock, (hb.block b hl).trans hh, r⟩
theorem own_tight {w : World} {P : Program} {k : TypeId} {b n : Nat} {D : DataW Value} (h : w.ownsMap P k heldR b n D) : w.ownsMap P k heldR b (Maps.size D) D := by
  obtain ⟨es, clock, hh, F, hs, rfl⟩ := h
  exact ⟨es, clock, hh, F, by simp [Maps.size, length_sorted], rfl⟩
theorem wpListIn_app {F : Fence} {nF : Nat} {P : Program} {ops : Array Oper} {Q : Exit → Act → World → Prop} {rest : List Oper} {o : Oper} {a : Act} {w : World} {t e size bytes : Nat} (et : ElemT P t e size bytes) (hgd : o.guard = none) {s x : Operand}
    (ho : o.op = .call { callee := .builtin .append, args := #[s, x], argTypes := #[t, t] }) {base n m c : Nat} {v : Value} {xs news : List Value} {A : Option Addr} (hs : a.eval s = v) (hown : w.ownsRow base e size v n xs)
    (hx : a.eval x = .slice A m c) (hl : news.length = m * size) (hS : Sl w A news) (h1 : ∀ u ∈ news, u.oneCell' = true) (hb : (n + m) * bytes ≤ 140737488355328) (hbase : base ≤ w.heap.size)
    (h : ∀ v' w', w'.ownsRow base e size v' (n + m) (xs ++ news) → w.grownBy w' v.ownBlock → (v'.ownBlock = v.ownBlock ∨ v'.ownBlock = some w.heap.size) → wpListIn F nF P ops Q rest (a.put o.dst v') w') : wpListIn F nF P ops Q (o :: rest) a w := by
  obtain ⟨v', w', hrun, h2, h3, h4⟩ := run_app et o.type (c := c) hown hl hS h1 hb hbase
  refine wpListIn_plain hgd fun K hK' => ?_
  unfold Oper.wpIn
  refine ⟨?_, ?_⟩
  · simp [Oper.about, ho, resolve, Target.leads, Sem.run_pure]
  · rw [Oper.semAt_plain F _ _ (by rw [ho]; intro c hc'; cases hc')]
    simp [execOp, ho, resolve, invoke, builtin, hs, hx, hrun, Result.andThen]
    exact hK' _ _ (h v' w' h2 h3 h4)
structure Kn where
  came : Int
  ended : Bool
  cause : Int
  queued : Int
  left : Int
  free : Int
  frames : Int
  pics : Int
  gone : Int
def Kn.zero : Kn := ⟨0, false, 0, 0, 0, 0, 0, 0, 0⟩
abbrev Kn.seen (k : Kn) : Value := .agg #[.int .i64 k.cause, .int .i64 k.queued, .int .i64 k.left, .int .i64 k.free, .int .i64 k.frames, .int .i64 k.pics, .int .i64 k.gone]
abbrev Kn.val (k : Kn) : Value := .agg #[.int .i64 k.came, .bool k.ended, .int .i64 k.cause, .int .i64 k.queued, .int .i64 k.left, .int .i64 k.free, .int .i64 k.frames, .int .i64 k.pics, .int .i64 k.gone]
abbrev entV (c : Int) : Value := .agg #[.int .i64 c]
/-- a number's cause (0: it is live), and what is known of it. -/
abbrev Ent := Int × Kn
def gT (x : Ent) : Option Value := some (entV x.1)
def gL (x : Ent) : Option Value := if x.1 = 0 then some x.2.val else none
def atL (L : List Ent) (id : Int) : Option Ent := if 1 ≤ id then L[(id - 1).toNat]? else none
/-- the live numbers -/
def liveK (L : List Ent) : List Int := numK gL 0 L
theorem size_T (L : List Ent) : Maps.size (numD gT L) = L.length := by
  rw [numD_size]
  exact congrArg List.length (List.filter_eq_self.2 (fun _ _ => rfl))
theorem numK_T : ∀ (L : List Ent) (s : Nat), numK gT s L = (List.range L.length).map (fun i => ((i + s : Nat) : Int) + 1)
  | [], s => rfl
  | x :: L, s => by
    rw [numK, numK_T L (s + 1), List.length_cons, List.range_succ_eq_map, List.map_cons, List.map_map]
    have h1 : ((fun i : Nat => ((i + s : Nat) : Int) + 1) ∘ Nat.succ) = (fun i : Nat => ((i + (s + 1) : Nat) : Int) + 1) := by
      funext i
      show ((i + 1 + s : Nat) : Int) + 1 = _
      omega
    rw [h1, Nat.zero_add]
    rfl
def TabAt (w : World) (bt tb : Nat) (most : Int) (L : List Ent) : Prop :=
  Blk w bt 80 #[.int .i64 most, .int .i64 (L.length : Int), .map (some tb)] ∧ w.ownsMap Tryz.prog 3 heldR tb L.length (numD gT L) ∧ L.length ≤ 2147483647 ∧ 1 ≤ most ∧ most ≤ 64
theorem TabAt.later {w w' : World} {bt tb : Nat} {most : Int} {L : List Ent} (h : TabAt w bt tb most L) (hb : Below w.heap.size w w') : TabAt w' bt tb most L :=
  ⟨h.1.below hb h.1.lt, own_later h.2.1 hb, h.2.2⟩
theorem TabAt.only {w w' : World} {bt tb : Nat} {most : Int} {L : List Ent} {bs : List Nat} (h : TabAt w bt tb most L) (hb : Only bs w w') (h1 : bt ∉ bs) (h2 : tb ∉ bs) : TabAt w' bt tb most L :=
  ⟨hb.blk h.1 h1, hb.own h.2.1 h2, h.2.2⟩
theorem key_int (id : Int) (hw : (Lit.int .i64 id).wf = true) : keyOf Tryz.prog 3 (.int .i64 id) = some (.int .i64 id) := Maps.keyOf_int_mk (Tryz.underlying3) hw
theorem keyed_int : Keyed Tryz.prog 3 := int_keyed Tryz.underlying3
theorem table_none (w : World) (bt tb : Nat) (most : Int) (L : List Ent) (h : TabAt w bt tb most L) : Calls Tryz.prog 60 #[.pointer (some ⟨bt, 0, none⟩)] w fun e w' => e = .returned (.bool false) ∧ w = w' := by
  have c0 := h.1.cell 0
  have hm : (most == 0) = false := beq_eq_false_iff_ne.2 (by have := h.2.2.2.1; omega)
  clear h
  go_enter Tryz.func60, Tryz.ntmps60
  go_wp2
  go_ret
  exact ⟨rfl, rfl⟩
theorem atL_wf {L : List Ent} {id : Int} {x : Ent} (h : atL L id = some x) : 1 ≤ id ∧ id ≤ L.length := by
  unfold atL at h
  split at h
  · have := (List.getElem?_eq_some_iff.1 h).1
    omega
  · cases h
theorem held_inj {v : Value} {d : DataW Value} {ps : List MemPlace} {u : Value} (h : heldR v = some (d, ps)) (hd : d = .held u) : v = u := by
  subst hd
  unfold heldR at h
  injection h with h
  injection h with h _
  injection h
theorem look_T {L : List Ent} {id : Int} {v : Value} {ps : List MemPlace} (h : heldR v = some ((numD gT L).atKey (.int .i64 id) (.held (entV 0)), ps)) : v = entV (((atL L id).map (·.1)).getD 0) := by
  refine held_inj h ?_
  rw [numD_atKey]
  unfold atL
  split
  · cases L[(id - 1).toNat]? <;> rfl
  · rfl
theorem has_T (L : List Ent) (id : Int) : Maps.has (numD gT L) (.int .i64 id) = (atL L id).isSome := by
  rw [numD_has]
  unfold atL
  split
  · cases L[(id - 1).toNat]? <;> rfl
  · rfl
def causeF (L : List Ent) (id : Int) : Int × Int := match atL L id with | some x => (x.1, 0) | none => (0, 18)
set_option maxRecDepth 100000 in
theorem table_Cause (w : World) (bt tb : Nat) (most : Int) (L : List Ent) (h : TabAt w bt tb most L) (id : Int) (hw : (Lit.int .i64 id).wf = true) :
    Calls Tryz.prog 40 #[.pointer (some ⟨bt, 0, none⟩), .int .i64 id] w fun e w' => e = .returned (.tuple #[.int .i64 (causeF L id).1, .int .i64 (causeF L id).2]) ∧ Below w.heap.size w w' := by
  have H := Lib.hid h
  have c2 := h.1.cell 2
  have HK := Lib.hid (key_int id hw)
  have HH := has_T L id
  obtain ⟨r, hr⟩ : ∃ r, causeF L id = r := ⟨_, rfl⟩
  rw [hr]
  unfold causeF at hr
  have HV := Lib.hid (fun v ps => look_T (L := L) (id := id) (v := v) (ps := ps))
  clear h
  cases ha : atL L id with
  | none =>
    rw [ha] at hr HV HH
    dsimp only at hr
    subst hr
    have HH2 : Maps.has (numD gT L) (.int .i64 id) = false := HH
    clear ha HH
    go_enter Tryz.func40, Tryz.ntmps40
    go_wp2_with (first
      | (go_at_call 60; refine (table_none _ _ _ _ _ H.out).mono ?_; rintro e w' ⟨rfl, rfl⟩)
      | (at_lookup; refine wpList_lookup_own_ok _ rfl _ _ 78 rfl 3 97 keyed_int Tryz.underlying78 heldR (z := entV 0) (Tryz.zeroValue97 _) (.held (entV 0)) [] rfl tb _ _ rfl H.out.2.1 (.int .i64 id) (.int .i64 id) rfl HK.out ?_; intro v ps hv; obtain rfl := HV.out v ps hv; clear hv))
    go_returns
    exact ⟨rfl, (Below.refl _ _).alloc (Nat.le_refl _) _⟩
  | some x =>
    rw [ha] at hr HV HH
    dsimp only at hr
    subst hr
    have HH2 : Maps.has (numD gT L) (.int .i64 id) = true := HH
    clear ha HH
    go_enter Tryz.func40, Tryz.ntmps40
    go_wp2_with (first
      | (go_at_call 60; refine (table_none _ _ _ _ _ H.out).mono ?_; rintro e w' ⟨rfl, rfl⟩)
      | (at_lookup; refine wpList_lookup_own_ok _ rfl _ _ 78 rfl 3 97 keyed_int Tryz.underlying78 heldR (z := entV 0) (Tryz.zeroValue97 _) (.held (entV 0)) [] rfl tb _ _ rfl H.out.2.1 (.int .i64 id) (.int .i64 id) rfl HK.out ?_; intro v ps hv; obtain rfl := HV.out v ps hv; clear hv))
    go_returns
    exact ⟨rfl, (Below.refl _ _).alloc (Nat.le_refl _) _⟩
end Go.Proofs.YtklelheejopfmaaGreat
namespace Go.Proofs.YtklelheejopfmaaGreat
open Go Go.RowKit
inductive Pln where
  | done
  | take (i : Nat) (r : Pln)
  | step (i : Nat) (r : Pln)
  | fork (i : Nat) (r : Pln) (j : Nat) (q : Pln)
def Pln.len : Pln → Nat
  | .done => 0
  | .take _ r => r.len + 1
  | .step _ r => r.len + 1
  | .fork _ r _ _ => r.len + 1
section
variable {P : Program} {ops : Array Oper} {Q : Exit → Act → World → Prop} {m : Nat}
theorem anyM_mono {S S' : World → Prop} (hS : ∀ w, S' w → S w) : ∀ (fuel : Nat) (listed : Array Bool) (a : Act) (w : World), wpAnyM P ops Q S' m fuel listed a w → wpAnyM P ops Q S m fuel listed a w
  | 0, _, _, _, h => h
  | fuel + 1, _, _, _, h => ⟨h.1, fun i hi => wpOp_mono (fun a' w' h' => ⟨fun hm => hS _ (h'.1 hm), anyM_mono hS fuel _ a' w' h'.2⟩) (h.2 i hi)⟩
def wpTree (P : Program) (ops : Array Oper) (Q : Exit → Act → World → Prop) (m : Nat) : Pln → (World → Prop) → Act → World → Prop
  | .done, _, a, w => wpList P ops Q (ops.toList.drop m) a w
  | .take i r, S, a, w => ∃ o v, ops[i]? = some o ∧ YieldsIf P ops S o v a ∧ wpTree P ops Q m r S (a.put o.dst v) w
  | .step i r, S, a, w => wpOp P ops Q i (fun a' w' => ∃ S' : World → Prop, (∀ w, S' w → S w) ∧ S' w' ∧ wpTree P ops Q m r S' a' w') a w
  | .fork i r j q, S, a, w => wpOp P ops Q i (fun a' w' => ∃ S' : World → Prop, (∀ w, S' w → S w) ∧ S' w' ∧ wpTree P ops Q m r S' a' w') a w ∧
      wpOp P ops Q j (fun a' w' => ∃ S' : World → Prop, (∀ w, S' w → S w) ∧ S' w' ∧ wpTree P ops Q m q S' a' w') a w
def treeOk (ops : Array Oper) (m : Nat) : Pln → Array Bool → Bool
  | .done, listed => forced ops (ops.size - m) m listed
  | .take i r, listed => decide (i < m) && Region.free .any ops listed i && (Region.ready .any ops listed).contains i && (List.range ops.size).all (fun j => decide (j < m) || reach ops ops.size j i) && treeOk ops m r (listed.setIfInBounds i true)
  | .step i r, listed => decide (i < m) && (Region.ready .any ops listed == [i]) && treeOk ops m r (listed.setIfInBounds i true)
  | .fork i r j q, listed => decide (i < m) && decide (j < m) && (r.len == q.len) && (Region.ready .any ops listed == [i, j]) && treeOk ops m r (listed.setIfInBounds i true) && treeOk ops m q (listed.setIfInBounds j true)
theorem anyM_of_tree (hsel : Region.noSelect ops = true) (hQ : ∀ c a d v w, Q (.panic c) (Act.put a d v) w → Q (.panic c) a w) (hm : m ≤ ops.size) :
    ∀ (plan : Pln) (S : World → Prop) (listed : Array Bool) (a : Act) (w : World), treeOk ops m plan listed = true → Closed ops listed → S w →
      wpTree P ops Q m plan S a w → wpAnyM P ops Q S m (plan.len + (ops.size - m)) listed a w
  | .done, S, listed, a, w, hok, _, _, h => by
    rw [Pln.len, Nat.zero_add]
    exact anyM_of_forced (ops.size - m) m listed a w hok (by omega) (Nat.le_refl _) h
  | .take i r, S, listed, a, w, hok, hcl, hS, h => by
    simp only [treeOk, Bool.and_eq_true, decide_eq_true_eq] at hok
    obtain ⟨⟨⟨⟨him, hf⟩, hr⟩, hre⟩, hok⟩ := hok
    obtain ⟨o, v, ho, hy, h⟩ := h
    have hr' : i ∈ Region.ready .any ops listed := by simpa using hr
    rw [show (Pln.take i r).len + (ops.size - m) = (r.len + (ops.size - m)) + 1 by simp [Pln.len]; omega]
    refine wpAnyM_first ho him (Region.noSelect_spec hsel) (fun c a w => hQ c a _ _ w) (fun j hj hjs => ?_) _ listed a w hcl (Region.free_spec ho hf) hr' hy hS (anyM_of_tree hsel hQ hm r S _ _ _ hok (closed_set hcl hr') hS h)
    have := List.all_eq_true.1 hre j (List.mem_range.2 hjs)
    simp only [Bool.or_eq_true, decide_eq_true_eq] at this
    exact this.resolve_left (by omega)
  | .step i r, S, listed, a, w, hok, hcl, hS, h => by
    simp only [treeOk, Bool.and_eq_true, decide_eq_true_eq, beq_iff_eq] at hok
    obtain ⟨⟨_, hr⟩, hok⟩ := hok
    rw [show (Pln.step i r).len + (ops.size - m) = (r.len + (ops.size - m)) + 1 by simp [Pln.len]; omega]
    refine ⟨fun h0 => (by rw [hr] at h0; cases h0), fun j hj => ?_⟩
    have hj' := hj
    rw [hr, List.mem_singleton] at hj
    subst hj
    exact wpOp_mono (fun a' w' ⟨S', h1, h2, h3⟩ => ⟨fun _ => h1 _ h2, anyM_mono h1 _ _ _ _ (anyM_of_tree hsel hQ hm r S' _ _ _ hok (closed_set hcl hj') h2 h3)⟩) h
  | .fork i r k q, S, listed, a, w, hok, hcl, hS, h => by
    simp only [treeOk, Bool.and_eq_true, decide_eq_true_eq, beq_iff_eq] at hok
    obtain ⟨⟨⟨⟨⟨_, _⟩, hlen⟩, hr⟩, hok1⟩, hok2⟩ := hok
    rw [show (Pln.fork i r k q).len + (ops.size - m) = (r.len + (ops.size - m)) + 1 by simp [Pln.len]; omega]
    refine ⟨fun h0 => (by rw [hr] at h0; cases h0), fun j hj => ?_⟩
    have hj' := hj
    rw [hr] at hj
    rcases List.mem_cons.1 hj with rfl | hj
    · exact wpOp_mono (fun a' w' ⟨S', h1, h2, h3⟩ => ⟨fun _ => h1 _ h2, anyM_mono h1 _ _ _ _ (anyM_of_tree hsel hQ hm r S' _ _ _ hok1 (closed_set hcl hj') h2 h3)⟩) h.1
    · rw [List.mem_singleton] at hj
      subst hj
      rw [hlen]
      exact wpOp_mono (fun a' w' ⟨S', h1, h2, h3⟩ => ⟨fun _ => h1 _ h2, anyM_mono h1 _ _ _ _ (anyM_of_tree hsel hQ hm q S' _ _ _ hok2 (closed_set hcl hj') h2 h3)⟩) h.2
/-- the plan with its operations written out -/
inductive PlnO where
  | done
  | take (o : Oper) (r : PlnO)
  | step (o : Oper) (r : PlnO)
  | fork (o : Oper) (r : PlnO) (p : Oper) (q : PlnO)
def Pln.out (ops : Array Oper) : Pln → PlnO
  | .done => .done
  | .take i r => .take (ops.getD i default) (r.out ops)
  | .step i r => .step (ops.getD i default) (r.out ops)
  | .fork i r j q => .fork (ops.getD i default) (r.out ops) (ops.getD j default) (q.out ops)
def Pln.inside (n : Nat) : Pln → Bool
  | .done => true
  | .take i r => decide (i < n) && r.inside n
  | .step i r => decide (i < n) && r.inside n
  | .fork i r j q => decide (i < n) && r.inside n && decide (j < n) && q.inside n
/-- one operation with an effect, behind it E (its slot's value put) -/
def StepO (P : Program) (dsts : List (Option Tmp)) (o : Oper) (E : Act → World → Prop) (a : Act) (w : World) : Prop :=
  wanted2 o dsts a.tmps = true ∧ ((∃ d, o.dst = some d ∧ ((∃ v w', (execOp a.eval o).run P w = .ok (.value v) w' ∧ E ⟨a.tmps.setIfInBounds d v, a.defers⟩ w') ∨
    (∃ f args, (execOp a.eval o).run P w = .ok (.enter f args) w ∧ Calls P f args w fun e w' => ∃ v, e = .returned v ∧ E ⟨a.tmps.setIfInBounds d v, a.defers⟩ w'))) ∨
    (o.dst = none ∧ ∃ w', (execOp a.eval o).run P w = .ok .skip w' ∧ E a w'))
def wpTreeO (P : Program) (dsts : List (Option Tmp)) (E : Act → World → Prop) : PlnO → (World → Prop) → Act → World → Prop
  | .done, _, a, w => E a w
  | .take o r, S, a, w => ∃ d v, o.dst = some d ∧ (wanted2 o dsts a.tmps = true ∧ ∀ w, S w → (execOp a.eval o).run P w = .ok (.value v) w) ∧ wpTreeO P dsts E r S ⟨a.tmps.setIfInBounds d v, a.defers⟩ w
  | .step o r, S, a, w => StepO P dsts o (fun a' w' => ∃ S' : World → Prop, (∀ w, S' w → S w) ∧ S' w' ∧ wpTreeO P dsts E r S' a' w') a w
  | .fork o r p q, S, a, w => StepO P dsts o (fun a' w' => ∃ S' : World → Prop, (∀ w, S' w → S w) ∧ S' w' ∧ wpTreeO P dsts E r S' a' w') a w ∧ StepO P dsts p (fun a' w' => ∃ S' : World → Prop, (∀ w, S' w → S w) ∧ S' w' ∧ wpTreeO P dsts E q S' a' w') a w
theorem step_out {i : Nat} (hi : i < ops.size) {E F : Act → World → Prop} (hEF : ∀ a w, E a w → F a w) {a : Act} {w : World} (h : StepO P (ops.toList.map (·.dst)) (ops.getD i default) E a w) : wpOp P ops Q i F a w := by
  obtain ⟨hw, h⟩ := h
  have ho : ops[i]? = some (ops.getD i default) := by simp [Array.getD, hi]
  unfold wpOp
  simp only [ho]
  rw [← wanted2_eq] at hw
  simp only [hw, if_true]
  refine .inl ?_
  unfold Oper.wp
  rcases h with ⟨d, hd, ⟨v, w', he, h⟩ | ⟨f, args, he, hc⟩⟩ | ⟨hd, w', he, h⟩
  · rw [he, Oper.upon_value]
    simp only [Act.put, hd]
    exact hEF _ _ h
  · rw [he, Oper.upon_enter]
    refine Calls.mono hc fun e w' hr => ?_
    obtain ⟨v, rfl, h⟩ := hr
    simp only [Act.put, hd]
    exact hEF _ _ h
  · rw [he, Oper.upon_skip]
    simp only [Act.put, hd]
    exact hEF _ _ h
theorem tree_of_out {E : Act → World → Prop} (hE : ∀ a w, E a w → wpList P ops Q (ops.toList.drop m) a w) : ∀ (plan : Pln) (S : World → Prop) (a : Act) (w : World), plan.inside ops.size = true →
    wpTreeO P (ops.toList.map (·.dst)) E (plan.out ops) S a w → wpTree P ops Q m plan S a w
  | .done, S, a, w, _, h => hE _ _ h
  | .take i r, S, a, w, hb, h => by
    simp only [Pln.inside, Bool.and_eq_true, decide_eq_true_eq] at hb
    obtain ⟨d, v, hd, hy, h⟩ := h
    have ho : ops[i]? = some (ops.getD i default) := by simp [Array.getD, hb.1]
    refine ⟨_, v, ho, ?_, ?_⟩
    · rw [← wanted2_eq] at hy; exact .inl hy
    · simp only [Act.put, hd]
      exact tree_of_out hE r S _ _ hb.2 h
  | .step i r, S, a, w, hb, h => by
    simp only [Pln.inside, Bool.and_eq_true, decide_eq_true_eq] at hb
    exact step_out hb.1 (fun a w ⟨S', h1, h2, h3⟩ => ⟨S', h1, h2, tree_of_out hE r S' _ _ hb.2 h3⟩) h
  | .fork i r j q, S, a, w, hb, h => by
    simp only [Pln.inside, Bool.and_eq_true, decide_eq_true_eq] at hb
    exact ⟨step_out hb.1.1.1 (fun a w ⟨S', h1, h2, h3⟩ => ⟨S', h1, h2, tree_of_out hE r S' _ _ hb.1.1.2 h3⟩) h.1, step_out hb.1.2 (fun a w ⟨S', h1, h2, h3⟩ => ⟨S', h1, h2, tree_of_out hE q S' _ _ hb.2 h3⟩) h.2⟩
def regionTreeOk (ops : Array Oper) (m : Nat) (plan : Pln) : Bool :=
  Region.noSelect ops && decide (m ≤ ops.size) && (plan.len == m) && treeOk ops m plan (Array.replicate ops.size false) && plan.inside ops.size
theorem wp_region_tree (S : World → Prop) (m : Nat) (plan : Pln) {id : Nat} {a : Act} {w : World} {l : PlnO} {dsts : List (Option Tmp)} (hmx : P.follows .mixedOrders = true) (hok : regionTreeOk ops m plan = true)
    (hQ : ∀ c a d v w, Q (.panic c) (Act.put a d v) w → Q (.panic c) a w) (hl : plan.out ops = l) (hds : ops.toList.map (·.dst) = dsts)
    (hS : S w.drew) (h : ∀ E : Act → World → Prop, (∀ a w, wpList P ops Q (ops.toList.drop m) a w → E a w) → wpTreeO P dsts E l S a w.drew) : (Code.region id ops true).wp P Q a w := by
  subst hl hds
  simp only [regionTreeOk, Bool.and_eq_true, decide_eq_true_eq, beq_iff_eq] at hok
  obtain ⟨⟨⟨⟨hsel, hm⟩, hl⟩, hok⟩, hbl⟩ := hok
  have hcl : Closed ops (Array.replicate ops.size false) := fun j o ho hl => by
    have hlt := (Array.getElem?_eq_some_iff.1 ho).1
    simp [hlt] at hl
  have := anyM_of_tree hsel hQ hm plan S _ a w.drew hok hcl hS (tree_of_out (E := wpList P ops Q (ops.toList.drop m)) (fun _ _ h => h) plan S a _ hbl (h _ fun _ _ h => h))
  rw [show plan.len + (ops.size - m) = ops.size by omega] at this
  exact wp_region_any hmx (wpAny_of_M _ _ _ _ this)
section
variable {dsts : List (Option Tmp)} {E : Act → World → Prop} {S : World → Prop}
theorem tree_take {d : Nat} {r : PlnO} {tmps : Array Value} {defers : List Deferred} {w : World} {o : Oper} {v : Value} (hd : o.dst = some d) (hw : wanted2 o dsts tmps = true)
    (hy : ∀ w, S w → (execOp (Act.eval ⟨tmps, defers⟩) o).run P w = .ok (.value v) w) (h : wpTreeO P dsts E r S ⟨tmps.setIfInBounds d v, defers⟩ w) : wpTreeO P dsts E (.take o r) S ⟨tmps, defers⟩ w :=
  ⟨d, v, hd, ⟨hw, hy⟩, h⟩
theorem tree_call {d f : Nat} {args : Array Value} {r : PlnO} {tmps : Array Value} {defers : List Deferred} {w : World} {o : Oper} {R : Ending → World → Prop} (hd : o.dst = some d) (hw : wanted2 o dsts tmps = true)
    (he : (execOp (Act.eval ⟨tmps, defers⟩) o).run P w = .ok (.enter f args) w) (hc : Calls P f args w R)
    (h : ∀ e w', R e w' → ∃ v, e = .returned v ∧ ∃ S' : World → Prop, (∀ w, S' w → S w) ∧ S' w' ∧ wpTreeO P dsts E r S' ⟨tmps.setIfInBounds d v, defers⟩ w') :
    StepO P dsts o (fun a' w' => ∃ S' : World → Prop, (∀ w, S' w → S w) ∧ S' w' ∧ wpTreeO P dsts E r S' a' w') ⟨tmps, defers⟩ w :=
  ⟨hw, .inl ⟨d, hd, .inr ⟨f, args, he, Calls.mono hc h⟩⟩⟩
theorem tree_value {d : Nat} {r : PlnO} {tmps : Array Value} {defers : List Deferred} {w w' : World} {o : Oper} {v : Value} (hd : o.dst = some d) (hw : wanted2 o dsts tmps = true)
    (he : (execOp (Act.eval ⟨tmps, defers⟩) o).run P w = .ok (.value v) w') (hS : S w') (h : wpTreeO P dsts E r S ⟨tmps.setIfInBounds d v, defers⟩ w') :
    StepO P dsts o (fun a' w' => ∃ S' : World → Prop, (∀ w, S' w → S w) ∧ S' w' ∧ wpTreeO P dsts E r S' a' w') ⟨tmps, defers⟩ w :=
  ⟨hw, .inl ⟨d, hd, .inl ⟨v, w', he, S, fun _ h => h, hS, h⟩⟩⟩
/-- an operation without a value: a store -/
theorem tree_skip (S : World → Prop) {r : PlnO} {tmps : Array Value} {defers : List Deferred} {w w' : World} {o : Oper} (hd : o.dst = none) (hw : wanted2 o dsts tmps = true)
    (he : (execOp (Act.eval ⟨tmps, defers⟩) o).run P w = .ok .skip w') (hS : S w') (h : wpTreeO P dsts E r S ⟨tmps, defers⟩ w') :
    StepO P dsts o (fun a' w' => ∃ S' : World → Prop, (∀ w, S' w → S w) ∧ S' w' ∧ wpTreeO P dsts E r S' a' w') ⟨tmps, defers⟩ w :=
  ⟨hw, .inr ⟨hd, w', he, S, fun _ h => h, hS, h⟩⟩
end
end
end Go.Proofs.YtklelheejopfmaaGreat
