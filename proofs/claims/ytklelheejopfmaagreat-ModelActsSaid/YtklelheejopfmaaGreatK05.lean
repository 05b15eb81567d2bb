/- Seqs -/
import Derived.Test.YtklelheejopfmaaGreatK01
import Derived.RangeFuncNested
import Derived.RangeFuncBound
import Derived.RangeFuncCalls
import Derived.RangeFuncLeaves
import Derived.OwnWalkIn
import Derived.TacticsInMore
import Derived.LoopNIn
import Derived.LoopIn
namespace Go.Proofs.YtklelheejopfmaaGreat
open Go Go.RowKit
/-- all blocks of A but those of M A are in B as they were; M B has no old block more. -/
structure Fr (M : World → Nat → Prop) (A B : World) : Prop where
  size : A.heap.size ≤ B.heap.size
  block : ∀ i, i < A.heap.size → ¬ M A i → B.heap[i]? = A.heap[i]?
  may : ∀ i, M B i → i < A.heap.size → M A i
theorem Fr.trans {M : World → Nat → Prop} {A B C : World} (h : Fr M A B) (k : Fr M B C) : Fr M A C :=
  ⟨Nat.le_trans h.size k.size, fun i hi hm => (k.block i (Nat.lt_of_lt_of_le hi h.size) (fun hB => hm (h.may i hB hi))).trans (h.block i hi hm),
    fun i hC hi => h.may i (k.may i hC (Nat.lt_of_lt_of_le hi h.size)) hi⟩
theorem Fr.refl (M : World → Nat → Prop) (A : World) : Fr M A A := ⟨Nat.le_refl _, fun _ _ _ => rfl, fun _ h _ => h⟩
/-- the iterator's contract: it lays blocks of its own, writes those alone, and reads the blocks Rd of w and its own blocks. -/
def SeqFresh {α : Type} (F : Fence) (n : Nat) (P : Program) (g : Nat) (lb : Array Value) (enc : α → Array Value) (S Sp : List α → Prop) (Rd : Nat → Prop) (w : World) : Prop :=
  ∀ (l : Nat) (M : World → Nat → Prop) (J Jx : List α → World → Prop) (W : World), Below w.heap.size w W →
    (∀ pre A B, J pre A → Below A.heap.size A B → J pre B) → (∀ pre A B, Jx pre A → Below A.heap.size A B → Jx pre B) →
    (∀ pre A B, J pre A → Below A.heap.size A B → ∀ i, M B i → M A i) → (∀ pre A, J pre A → ∀ i, M A i → ¬ Rd i ∧ i < A.heap.size) →
    (∀ pre x W1, J pre W1 → Sp (pre ++ [x]) → YieldAt F (n - 1) P l (enc x) W1 fun e W' => (e = .returned (.bool true) ∧ J (pre ++ [x]) W' ∧ Fr M W1 W') ∨ (e = .returned (.bool false) ∧ Jx (pre ++ [x]) W')) →
    J [] W → CallsIn F n P g (#[.func (.yield l) #[] #[]] ++ lb) W fun e W' => (∃ v, e = .returned v) ∧ ((∃ xs, S xs ∧ J xs W') ∨ (∃ pre, Sp pre ∧ Jx pre W'))
theorem grown_of_below {A B : World} (h : Below A.heap.size A B) : A.grownBy B none := ⟨h.os, h.tape, h.output, h.size, fun i hi _ => h.block i hi⟩
theorem wp_fresh {α : Type} {F : Fence} {n : Nat} {P : Program} {g : Operand} {ps : Array Tmp} {assign body : Code} {Q : Exit → Act → World → Prop} {a : Act} {w : World}
    (hro : F.round = none) (h1 : 1 ≤ n) {gf : Nat} {lb : Array Value} (hg : a.eval g = .func (.func gf) #[] lb) (hFg : F.fn gf) (eg : ∀ args w, (callFunc gf args).run P w = .ok (.enter gf args) w)
    {enc : α → Array Value} {S Sp : List α → Prop} {Rd : Nat → Prop} {w0 : World} (hseq : SeqFresh F (n - 1) P gf lb enc S Sp Rd w0) (hb0 : Below w0.heap.size w0 w) (hps : ∀ x, (enc x).size = ps.size)
    (Mc : World → Nat → Prop) (I : List α → World → Prop) (Ix : Code → List α → World → Prop) (hI : OwnFrom w.heap.size I) (hIx : ∀ c, OwnFrom w.heap.size (Ix c))
    (hMb : ∀ pre A B row, I pre A → A.grownBy B row → (∀ r, row = some r → ∃ o : Obj, A.heap[r]? = some o ∧ o.isCells = false) → ∀ i, Mc B i → Mc A i)
    (hMl : ∀ pre A, I pre A → ∀ i, Mc A i → ¬ Rd i ∧ i < A.heap.size) (hRd : ∀ i, Rd i → i < w0.heap.size) (h0 : I [] w) (a₁ : α → Act)
    (hassign : ∀ (l : Nat) (x : α) (W : World) (K : Act → World → Prop), K (a₁ x) W → assign.wpIn (F.inRound l) (n - 1 - 1) P (Exit.then K (fun _ _ _ => False)) { tmps := (ps.zip (enc x)).foldl (fun t (p, v) => t.setIfInBounds p v) a.tmps, defers := [] } W)
    (hbody : ∀ (l : Nat) (pre : List α) (x : α) (W : World), w.heap.size ≤ l → I pre W → Sp (pre ++ [x]) → body.wpIn (F.inRound l) (n - 1 - 1) P (ownPostG w.heap.size (Fr (fun A i => i = l ∨ Mc A i)) I Ix (pre ++ [x]) W) (a₁ x) W)
    (hdone : ∀ (D : Nat) (xs : List α) (W : World), w.heap.size ≤ D → S xs → I xs W → W.heap[D]? = some (.deferred (some [])) → Q .normal { a with defers := { target := .collected D, args := #[] } :: a.defers } W)
    (hstop : ∀ (D : Nat) (c : Code) (pre : List α) (W : World), w.heap.size ≤ D → Sp pre → Ix c pre W → W.heap[D]? = some (.deferred (some [])) → c.wpIn F n P Q { a with defers := { target := .collected D, args := #[] } :: a.defers } W) :
    (Code.rangeFunc g ps assign body).wpIn F n P Q a w := by
  refine wpIn_rangeFunc fun fn hfn => ?_
  rw [hro]
  let rec' : LoopState → Option Code → Loop := fun st pe => { state := st, pending := pe, fn, tmps := a.tmps, params := ps, assign, body, defers := w.heap.size }
  let W1 : World := (w.alloc (.deferred (some []))).alloc (.loop (rec' .ready none))
  have hL : W1.heap[w.heap.size + 1]? = some (.loop (rec' .ready none)) := by
    have := World.alloc_heap_new (w.alloc (.deferred (some []))) (.loop (rec' .ready none)); rwa [World.size_alloc] at this
  have hD : W1.heap[w.heap.size]? = some (.deferred (some [])) := (Below.heap_alloc _ _ _ (by simp)).trans (World.alloc_heap_new w _)
  have hW1 : Below w0.heap.size w0 W1 := hb0.trans ((((Below.refl _ w).alloc (Nat.le_refl _) _).alloc (by simp) _).mono hb0.size)
  refine ⟨w.heap.size + 1, [{ target := .collected w.heap.size, args := #[] }], W1, { target := .fn (.func gf) lb, args := #[.func (.yield (w.heap.size + 1)) #[] #[]] }, W1, gf,
    #[.func (.yield (w.heap.size + 1)) #[] #[]] ++ lb, W1, run_enterLoop_outer _ _ _ _ _, ?_, ?_, ?_, fun _ => h1, ?_⟩
  · simp only [resolve, hg]; simp [go_sem]
  · intro f' hf'; simp [Target.leads] at hf'; subst hf'; exact hFg
  · simp [invoke, go_sem, eg]
  have hput : ∀ {s : List α} {J : List α → World → Prop} {W : World} {r : Loop} (o : Obj), OwnFrom w.heap.size J → J s W → W.heap[w.heap.size + 1]? = some (.loop r) → J s (W.putObj (w.heap.size + 1) o) :=
    fun o hJ hs hl => hJ.putObj _ hs (Nat.le_succ _) hl rfl
  have hother : ∀ (W : World) (o : Obj), (W.putObj (w.heap.size + 1) o).heap[w.heap.size]? = W.heap[w.heap.size]? := fun W o => World.putObj_heap_other (Nat.ne_of_lt (Nat.lt_succ_self _))
  have hKb : ∀ {s : List α} {W : World} {r : Loop} (o : Obj), I s W → W.heap[w.heap.size + 1]? = some (.loop r) → Fr (fun A i => i = w.heap.size + 1 ∨ Mc A i) W (W.putObj (w.heap.size + 1) o) := fun {s W r} o hs hl =>
    ⟨by simp, fun i hi hm => World.putObj_heap_other (fun e => hm (.inl e)), fun i hm hi => by
      rcases hm with hm | hm
      · exact .inl hm
      · exact .inr (hMb s W _ (some (w.heap.size + 1)) hs (grownBy_putObj' W _ o) (fun r e => by cases e; exact ⟨_, hl, rfl⟩) i hm)⟩
  have hlater : ∀ {A B : World} {k : Nat} {o : Obj}, Below A.heap.size A B → A.heap[k]? = some o → B.heap[k]? = some o := fun h hk => (h.block _ (Array.getElem?_eq_some_iff.1 hk).1).trans hk
  refine (hseq (w.heap.size + 1) (fun A i => i = w.heap.size + 1 ∨ Mc A i)
    (fun pre W => I pre W ∧ W.heap[w.heap.size + 1]? = some (.loop (rec' .ready none)) ∧ W.heap[w.heap.size]? = some (.deferred (some [])))
    (fun pre W => ∃ c, Ix c pre W ∧ W.heap[w.heap.size + 1]? = some (.loop (rec' .done (some c))) ∧ W.heap[w.heap.size]? = some (.deferred (some [])))
    W1 hW1
    (fun pre A B hs hb => ⟨hI pre A B none hs.1 (grown_of_below hb) (fun r e => by cases e), hlater hb hs.2.1, hlater hb hs.2.2⟩)
    (fun pre A B hs hb => by obtain ⟨c, h1, h2, h3⟩ := hs; exact ⟨c, hIx c pre A B none h1 (grown_of_below hb) (fun r e => by cases e), hlater hb h2, hlater hb h3⟩)
    (fun pre A B hs hb i hm => by
      rcases hm with hm | hm
      · exact .inl hm
      · exact .inr (hMb pre A B none hs.1 (grown_of_below hb) (fun r e => by cases e) i hm))
    (fun pre A hs i hm => by
      rcases hm with rfl | hm
      · exact ⟨fun h => by have h1 := hRd _ h; have h2 := hb0.size; omega, (Array.getElem?_eq_some_iff.1 hs.2.1).1⟩
      · exact hMl pre A hs.1 i hm)
    ?_ ⟨hI.alloc _ (hI.alloc _ h0), hL, hD⟩).mono ?_
  · rintro pre x W ⟨hi, hl, hk⟩ hsp
    have hlt : w.heap.size + 1 < W.heap.size := (Array.getElem?_eq_some_iff.1 hl).1
    refine ⟨fn, _, assign, body, run_yield (P := P) (args := enc x) hl (hps x), roundIn_of_wpIn hfn (hassign _ x W _ ?_)⟩
    refine ⟨_, run_beginRound hl rfl, ?_⟩
    have hl2 : (W.putObj (w.heap.size + 1) (.loop { rec' .ready none with state := .busy })).heap[w.heap.size + 1]? = some (.loop { rec' .ready none with state := .busy }) := World.putObj_heap_same hlt
    have hk2 := (hother W (.loop { rec' .ready none with state := .busy })).trans hk
    refine wpIn_mono (hbody _ pre x _ (Nat.le_succ _) (hput _ hI hi hl) hsp) ?_
    have fin : ∀ (jump : Option Code) (W3 : World), KeepsFrom w.heap.size (W.putObj (w.heap.size + 1) (.loop { rec' .ready none with state := .busy })) W3 →
        ∃ st, st = (if jump.isNone then LoopState.ready else .done) ∧ (Instr.endRound (w.heap.size + 1) jump).run P W3 = .ok (.bool jump.isNone) (W3.putObj (w.heap.size + 1) (.loop (rec' st jump))) ∧
        W3.heap[w.heap.size + 1]? = some (.loop { rec' .ready none with state := .busy }) ∧
        (W3.putObj (w.heap.size + 1) (.loop (rec' st jump))).heap[w.heap.size + 1]? = some (.loop (rec' st jump)) ∧
        (W3.putObj (w.heap.size + 1) (.loop (rec' st jump))).heap[w.heap.size]? = some (.deferred (some [])) := fun jump W3 hk3 => by
      have hl3 := hk3.same _ _ (Nat.le_succ _) hl2 rfl
      exact ⟨_, rfl, run_endRound (P := P) jump hl3, hl3, World.putObj_heap_same (Array.getElem?_eq_some_iff.1 hl3).1, (hother W3 _).trans (hk3.same _ _ (Nat.le_refl _) hk2 rfl)⟩
    have left : ∀ (c : Code) (W3 : World), KeepsFrom w.heap.size (W.putObj (w.heap.size + 1) (.loop { rec' .ready none with state := .busy })) W3 → Ix c (pre ++ [x]) W3 →
        ∃ v w', (Instr.endRound (w.heap.size + 1) (some c)).run P W3 = .ok v w' ∧ ((Ending.returned v = .returned (.bool true) ∧ (I (pre ++ [x]) w' ∧ w'.heap[w.heap.size + 1]? = some (.loop (rec' .ready none)) ∧ w'.heap[w.heap.size]? = some (.deferred (some []))) ∧ Fr (fun A i => i = w.heap.size + 1 ∨ Mc A i) W w') ∨
          (Ending.returned v = .returned (.bool false) ∧ ∃ c, Ix c (pre ++ [x]) w' ∧ w'.heap[w.heap.size + 1]? = some (.loop (rec' .done (some c))) ∧ w'.heap[w.heap.size]? = some (.deferred (some [])))) := fun c W3 hk3 hx3 => by
      obtain ⟨st, rfl, hr, hl3, hl4, hk4⟩ := fin (some c) W3 hk3
      exact ⟨_, _, hr, .inr ⟨rfl, c, hput _ (hIx c) hx3 hl3, hl4, hk4⟩⟩
    rintro e a3 W3 hp
    cases e with
    | normal =>
      obtain ⟨hk3, hkp3, hi3⟩ := hp
      obtain ⟨st, rfl, hr, hl3, hl4, hk4⟩ := fin none W3 hk3
      exact ⟨_, _, hr, .inl ⟨rfl, ⟨hput _ hI hi3 hl3, hl4, hk4⟩, ((hKb _ hi hl).trans hkp3).trans (hKb _ hi3 hl3)⟩⟩
    | ret => exact left .ret W3 hp.1 hp.2
    | exit id => exact left (.exit id) W3 hp.1 hp.2
    | goto t => exact left (.goto t) W3 hp.1 hp.2
    | panic ch => exact hp.elim
    | outgrown => exact hp.elim
  · rintro e W2 ⟨⟨v, rfl⟩, (⟨xs, hS, hi, hl, hk⟩ | ⟨pre, hSp, c, hi, hl, hk⟩)⟩
    · exact ⟨none, _, run_endLoop (P := P) hl (by simp [rec']), hdone _ xs _ (Nat.le_refl _) hS (hput _ hI hi hl) ((hother _ _).trans hk)⟩
    · exact ⟨some c, _, run_endLoop (P := P) hl (by simp [rec']), hstop _ c pre _ (Nat.le_refl _) hSp (hput _ (hIx c) hi hl) ((hother _ _).trans hk)⟩
end Go.Proofs.YtklelheejopfmaaGreat
