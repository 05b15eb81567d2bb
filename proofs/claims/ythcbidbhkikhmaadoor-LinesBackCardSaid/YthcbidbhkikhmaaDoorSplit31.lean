/- strings.SplitSeq at a separator of one byte: its pieces, the iterator, and a law for a range over it. -/
import Derived.Test.YthcbidbhkikhmaaDoorPar31
import Derived.RangeFuncNested
import Derived.RangeFuncBound
import Derived.RangeFuncCalls
import Derived.RangeFuncLeaves
import Derived.OwnWalkIn
import Derived.TacticsInMore
import Derived.LoopNIn
import Derived.LoopIn
namespace Go.Proofs.YthcbidbhkikhmaaDoor
open Go Go.RowKit
attribute [local go_sem] Oper.semAt_some
def cutAt (c : UInt8) (s : List UInt8) : Nat := (s.takeWhile (fun x => x != c)).length
theorem cutAt_le (c : UInt8) (s : List UInt8) : cutAt c s ≤ s.length := (List.takeWhile_sublist _).length_le
def splitL (c : UInt8) (s : List UInt8) : List (List UInt8) :=
  if h : cutAt c s < s.length then s.take (cutAt c s) :: splitL c (s.drop (cutAt c s + 1)) else [s]
termination_by s.length
decreasing_by simp; omega
theorem splitL_last {c : UInt8} {s : List UInt8} (h : ¬ cutAt c s < s.length) : splitL c s = [s] := by rw [splitL, dif_neg h]
theorem splitL_cons {c : UInt8} {s : List UInt8} (h : cutAt c s < s.length) : splitL c s = s.take (cutAt c s) :: splitL c (s.drop (cutAt c s + 1)) := by rw [splitL, dif_pos h]
theorem index_cut (c : UInt8) : ∀ s : List UInt8, Lib.indexByte s c = if cutAt c s < s.length then ((cutAt c s : Nat) : Int) else -1
  | [] => rfl
  | x :: s => by
    have ih := index_cut c s
    unfold Lib.indexByte
    by_cases h : x = c
    · subst h
      simp [cutAt]
    · have h1 : (x == c) = false := beq_eq_false_iff_ne.2 h
      have h2 : cutAt c (x :: s) = cutAt c s + 1 := by simp [cutAt, h]
      rw [h1, h2, ih]
      by_cases hl : cutAt c s < s.length
      · have hl2 : cutAt c s + 1 < (x :: s).length := by simpa using hl
        have h3 : (((cutAt c s : Nat) : Int) == -1) = false := by rw [beq_eq_false_iff_ne]; omega
        simp [hl, h3]
      · have hl2 : ¬ cutAt c s + 1 < (x :: s).length := by simpa using hl
        simp [hl]
/-- the iterator's contract: it stores into the block b alone, behind each round that goes on -/
def SeqCells {α : Type} (F : Fence) (n : Nat) (P : Program) (g : Nat) (lb : Array Value) (enc : α → Array Value) (b : Nat) (Kp : World → World → Prop) (S Sp : List α → Prop) (w : World) : Prop :=
  ∀ (l : Nat) (J Jx : List α → World → Prop) (W : World), Below w.heap.size w W → (∀ pre W v, J pre W → J pre (W.setCell ⟨b, 0, none⟩ v)) →
    (∀ pre x W1, J pre W1 → Sp (pre ++ [x]) → YieldAt F (n - 1) P l (enc x) W1 fun e W' => (e = .returned (.bool true) ∧ J (pre ++ [x]) W' ∧ Kp W1 W') ∨ (e = .returned (.bool false) ∧ Jx (pre ++ [x]) W')) →
    J [] W → CallsIn F n P g (#[.func (.yield l) #[] #[]] ++ lb) W fun e W' => (∃ v, e = .returned v) ∧ ((∃ xs, S xs ∧ J xs W') ∨ (∃ pre, Sp pre ∧ Jx pre W'))
theorem wp_cells {α : Type} {F : Fence} {n : Nat} {P : Program} {g : Operand} {ps : Array Tmp} {assign body : Code} {Q : Exit → Act → World → Prop} {a : Act} {w : World}
    (hro : F.round = none) (h1 : 1 ≤ n) {gf : Nat} {lb : Array Value} (hg : a.eval g = .func (.func gf) #[] lb) (hFg : F.fn gf) (eg : ∀ args w, (callFunc gf args).run P w = .ok (.enter gf args) w)
    {enc : α → Array Value} {b : Nat} {Kp : World → World → Prop} {S Sp : List α → Prop} {w0 : World} (hseq : SeqCells F (n - 1) P gf lb enc b Kp S Sp w0) (hb0 : Below w0.heap.size w0 w) (hb : b < w.heap.size)
    (hKt : ∀ {A B C : World}, Kp A B → Kp B C → Kp A C) (hKb : ∀ (W : World) (l : Nat) (o : Obj), w.heap.size ≤ l → Kp W (W.putObj l o)) (hps : ∀ x, (enc x).size = ps.size)
    (I : List α → World → Prop) (Ix : Code → List α → World → Prop) (hI : OwnFrom w.heap.size I) (hIx : ∀ c, OwnFrom w.heap.size (Ix c)) (hIc : ∀ pre W v, I pre W → I pre (W.setCell ⟨b, 0, none⟩ v)) (h0 : I [] w) (a₁ : α → Act)
    (hassign : ∀ (l : Nat) (x : α) (W : World) (K : Act → World → Prop), K (a₁ x) W → assign.wpIn (F.inRound l) (n - 1 - 1) P (Exit.then K (fun _ _ _ => False)) { tmps := (ps.zip (enc x)).foldl (fun t (p, v) => t.setIfInBounds p v) a.tmps, defers := [] } W)
    (hbody : ∀ (l : Nat) (pre : List α) (x : α) (W : World), I pre W → Sp (pre ++ [x]) → body.wpIn (F.inRound l) (n - 1 - 1) P (ownPostG w.heap.size Kp I Ix (pre ++ [x]) W) (a₁ x) W)
    (hdone : ∀ (D : Nat) (xs : List α) (W : World), w.heap.size ≤ D → S xs → I xs W → W.heap[D]? = some (.deferred (some [])) → Q .normal { a with defers := { target := .collected D, args := #[] } :: a.defers } W)
    (hstop : ∀ (D : Nat) (c : Code) (pre : List α) (W : World), w.heap.size ≤ D → Sp pre → Ix c pre W → W.heap[D]? = some (.deferred (some [])) → c.wpIn F n P Q { a with defers := { target := .collected D, args := #[] } :: a.defers } W) :
    (Code.rangeFunc g ps assign body).wpIn F n P Q a w := by
  refine wpIn_rangeFunc fun fn hfn => ?_
  rw [hro]
  -- the loop's record, in its states
  let rec' : LoopState → Option Code → Loop := fun st pe => { state := st, pending := pe, fn, tmps := a.tmps, params := ps, assign, body, defers := w.heap.size }
  let W1 : World := (w.alloc (.deferred (some []))).alloc (.loop (rec' .ready none))
  have hL : W1.heap[w.heap.size + 1]? = some (.loop (rec' .ready none)) := by
    have := World.alloc_heap_new (w.alloc (.deferred (some []))) (.loop (rec' .ready none)); rwa [World.size_alloc] at this
  have hD : W1.heap[w.heap.size]? = some (.deferred (some [])) := (Below.heap_alloc _ _ _ (by simp)).trans (World.alloc_heap_new w _)
  have hW1 : Below w0.heap.size w0 W1 := hb0.trans ((((Below.refl _ w).alloc (Nat.le_refl _) _).alloc (by simp) _).mono hb0.size)
  refine ⟨w.heap.size + 1, [{ target := .collected w.heap.size, args := #[] }], W1, { target := .fn (.func gf) lb, args := #[.func (.yield (w.heap.size + 1)) #[] #[]] }, W1, gf,
    #[.func (.yield (w.heap.size + 1)) #[] #[]] ++ lb, W1, run_enterLoop_outer _ _ _ _ _, ?_, ?_, ?_, fun _ => h1, ?_⟩
  · simp only [resolve, hg]; simp [go_sem]
  · intro f' hf'; simp [Target.leads] at hf'; subst hf'; exact hFg
  · simp [invoke, go_sem, eg]
  have hput : ∀ {s : List α} {J : List α → World → Prop} {W : World} {r : Loop} (o : Obj), OwnFrom w.heap.size J → J s W → W.heap[w.heap.size + 1]? = some (.loop r) → J s (W.putObj (w.heap.size + 1) o) :=
    fun o hJ hs hl => hJ.putObj _ hs (Nat.le_succ _) hl rfl
  have hother : ∀ (W : World) (o : Obj), (W.putObj (w.heap.size + 1) o).heap[w.heap.size]? = W.heap[w.heap.size]? := fun W o => World.putObj_heap_other (Nat.ne_of_lt (Nat.lt_succ_self _))
  have hset : ∀ (W : World) (v : Value) (k : Nat), w.heap.size ≤ k → (W.setCell ⟨b, 0, none⟩ v).heap[k]? = W.heap[k]? := fun W v k hk => Below.heap_setCell W ⟨b, 0, none⟩ v k (by show k ≠ b; omega)
  refine (hseq (w.heap.size + 1)
    (fun pre W => I pre W ∧ W.heap[w.heap.size + 1]? = some (.loop (rec' .ready none)) ∧ W.heap[w.heap.size]? = some (.deferred (some [])))
    (fun pre W => ∃ c, Ix c pre W ∧ W.heap[w.heap.size + 1]? = some (.loop (rec' .done (some c))) ∧ W.heap[w.heap.size]? = some (.deferred (some [])))
    W1 hW1 (fun pre W v hs => ⟨hIc pre W v hs.1, (hset W v _ (Nat.le_succ _)).trans hs.2.1, (hset W v _ (Nat.le_refl _)).trans hs.2.2⟩) ?_ ⟨hI.alloc _ (hI.alloc _ h0), hL, hD⟩).mono ?_
  · rintro pre x W ⟨hi, hl, hk⟩ hsp
    have hlt : w.heap.size + 1 < W.heap.size := (Array.getElem?_eq_some_iff.1 hl).1
    refine ⟨fn, _, assign, body, run_yield (P := P) (args := enc x) hl (hps x), roundIn_of_wpIn hfn (hassign _ x W _ ?_)⟩
    refine ⟨_, run_beginRound hl rfl, ?_⟩
    have hl2 : (W.putObj (w.heap.size + 1) (.loop { rec' .ready none with state := .busy })).heap[w.heap.size + 1]? = some (.loop { rec' .ready none with state := .busy }) := World.putObj_heap_same hlt
    have hk2 := (hother W (.loop { rec' .ready none with state := .busy })).trans hk
    refine wpIn_mono (hbody _ pre x _ (hput _ hI hi hl) hsp) ?_
    have fin : ∀ (jump : Option Code) (W3 : World), KeepsFrom w.heap.size (W.putObj (w.heap.size + 1) (.loop { rec' .ready none with state := .busy })) W3 →
        ∃ st, st = (if jump.isNone then LoopState.ready else .done) ∧ (Instr.endRound (w.heap.size + 1) jump).run P W3 = .ok (.bool jump.isNone) (W3.putObj (w.heap.size + 1) (.loop (rec' st jump))) ∧
        W3.heap[w.heap.size + 1]? = some (.loop { rec' .ready none with state := .busy }) ∧
        (W3.putObj (w.heap.size + 1) (.loop (rec' st jump))).heap[w.heap.size + 1]? = some (.loop (rec' st jump)) ∧
        (W3.putObj (w.heap.size + 1) (.loop (rec' st jump))).heap[w.heap.size]? = some (.deferred (some [])) := fun jump W3 hk3 => by
      have hl3 := hk3.same _ _ (Nat.le_succ _) hl2 rfl
      exact ⟨_, rfl, run_endRound (P := P) jump hl3, hl3, World.putObj_heap_same (Array.getElem?_eq_some_iff.1 hl3).1, (hother W3 _).trans (hk3.same _ _ (Nat.le_refl _) hk2 rfl)⟩
    have left : ∀ (c : Code) (W3 : World), KeepsFrom w.heap.size (W.putObj (w.heap.size + 1) (.loop { rec' .ready none with state := .busy })) W3 → Ix c (pre ++ [x]) W3 →
        ∃ v w', (Instr.endRound (w.heap.size + 1) (some c)).run P W3 = .ok v w' ∧ ((Ending.returned v = .returned (.bool true) ∧ (I (pre ++ [x]) w' ∧ w'.heap[w.heap.size + 1]? = some (.loop (rec' .ready none)) ∧ w'.heap[w.heap.size]? = some (.deferred (some []))) ∧ Kp W w') ∨
          (Ending.returned v = .returned (.bool false) ∧ ∃ c, Ix c (pre ++ [x]) w' ∧ w'.heap[w.heap.size + 1]? = some (.loop (rec' .done (some c))) ∧ w'.heap[w.heap.size]? = some (.deferred (some [])))) := fun c W3 hk3 hx3 => by
      obtain ⟨st, rfl, hr, hl3, hl4, hk4⟩ := fin (some c) W3 hk3
      exact ⟨_, _, hr, .inr ⟨rfl, c, hput _ (hIx c) hx3 hl3, hl4, hk4⟩⟩
    rintro e a3 W3 hp
    cases e with
    | normal =>
      obtain ⟨hk3, hkp3, hi3⟩ := hp
      obtain ⟨st, rfl, hr, hl3, hl4, hk4⟩ := fin none W3 hk3
      exact ⟨_, _, hr, .inl ⟨rfl, ⟨hput _ hI hi3 hl3, hl4, hk4⟩, hKt (hKt (hKb _ _ _ (Nat.le_succ _)) hkp3) (hKb _ _ _ (Nat.le_succ _))⟩⟩
    | ret => exact left .ret W3 hp.1 hp.2
    | exit id => exact left (.exit id) W3 hp.1 hp.2
    | goto t => exact left (.goto t) W3 hp.1 hp.2
    | panic ch => exact hp.elim
    | outgrown => exact hp.elim
  · rintro e W2 ⟨⟨v, rfl⟩, (⟨xs, hS, hi, hl, hk⟩ | ⟨pre, hSp, c, hi, hl, hk⟩)⟩
    · exact ⟨none, _, run_endLoop (P := P) hl (by simp [rec']), hdone _ xs _ (Nat.le_refl _) hS (hput _ hI hi hl) ((hother _ _).trans hk)⟩
    · exact ⟨some c, _, run_endLoop (P := P) hl (by simp [rec']), hstop _ c pre _ (Nat.le_refl _) hSp (hput _ (hIx c) hi hl) ((hother _ _).trans hk)⟩
def curLen (b : Nat) (w : World) : Nat := match w.cell? ⟨b, 0, none⟩ with | some (.string s) => s.size | _ => 0
theorem curLen_blk {w : World} {b : Nat} {t : TypeId} {r : List UInt8} (h : Blk w b t #[.string (bs r)]) : curLen b w = r.length := by
  unfold curLen
  rw [h.cell 0]
  exact bs_size r
theorem lines_find (r : List UInt8) (c : UInt8) (w : World) : Calls Tryd.prog 56 #[.string (bs r), .string (bs [c])] w fun e w' => e = .returned (.int .i64 (if cutAt c r < r.length then ((cutAt c r : Nat) : Int) else -1)) ∧ w = w' := by
  refine (Tryd.strings_Index_one (bs r) c w).mono ?_
  rintro e w' ⟨rfl, rfl⟩
  rw [bs_toList, index_cut]
  exact ⟨rfl, rfl⟩
set_option maxRecDepth 100000 in
set_option maxHeartbeats 4000000 in
theorem split_in (n : Nat) (hn : 1 ≤ n) (l b1 b2 b3 : Nat) (c : UInt8) (s : List UInt8) (hsz : s.length ≤ 10000) (J Jx : List (List UInt8) → World → Prop) (hJc : ∀ pre W v, J pre W → J pre (W.setCell ⟨b2, 0, none⟩ v))
    (hY : ∀ pre x W1, J pre W1 → pre ++ [x] <+: splitL c s → YieldAt Fence.wide (n - 1) Tryd.prog l #[.string (bs x)] W1 fun e W' =>
      (e = .returned (.bool true) ∧ J (pre ++ [x]) W' ∧ (W'.heap[b1]? = W1.heap[b1]? ∧ W'.heap[b2]? = W1.heap[b2]? ∧ W'.heap[b3]? = W1.heap[b3]?)) ∨ (e = .returned (.bool false) ∧ Jx (pre ++ [x]) W'))
    (W : World) (h1 : Blk W b1 9 #[.string (bs [c])]) (h2 : Blk W b2 9 #[.string (bs s)]) (h3 : Blk W b3 3 #[.int .i64 0]) (h12 : b1 ≠ b2) (h32 : b3 ≠ b2) (h0 : J [] W) :
    CallsIn Fence.wide n Tryd.prog 54 #[.func (.yield l) #[] #[], .pointer (some ⟨b1, 0, none⟩), .pointer (some ⟨b2, 0, none⟩), .pointer (some ⟨b3, 0, none⟩)] W fun e W' => (∃ v, e = .returned v) ∧
      ((∃ xs, xs = splitL c s ∧ J xs W') ∨ (∃ pre, pre <+: splitL c s ∧ Jx pre W')) := by
  refine callsIn_of_wp Tryd.func54 rfl trivial ?_ rfl
  simp only [Tryd.ntmps54, List.size_toArray, List.length_cons, List.length_nil, Nat.reduceAdd, Nat.reduceSub, Array.replicate_succ, Array.replicate_zero, List.push_toArray, List.append_toArray, List.nil_append, List.cons_append]
  have c1 := h1.cell 0
  have c2 := h2.cell 0
  have c3 := h3.cell 0
  have H1 := Lib.hid h1
  have H2 := Lib.hid h2
  have H3 := Lib.hid h3
  clear h1 h2 h3
  gi_wp2
  gi_loopw [] (fun wr => ∃ (pre : List (List UInt8)) (r : List UInt8), Hid (splitL c s = pre ++ splitL c r) ∧ r.length ≤ s.length ∧ Hid (Blk wr b1 9 #[.string (bs [c])]) ∧ Hid (Blk wr b2 9 #[.string (bs r)]) ∧ Hid (Blk wr b3 3 #[.int .i64 0]) ∧ Hid (J pre wr)) (fun wr => curLen b2 wr)
  case atStart => exact ⟨[], s, Lib.hid rfl, Nat.le_refl _, H1, H2, H3, Lib.hid h0⟩
  case round =>
    obtain ⟨pre, r, Hsp, hrl, H1r, H2r, H3r, HJ⟩ := hrel
    have x1 := H1r.out.cell 0
    have x2 := H2r.out.cell 0
    have x3 := H3r.out.cell 0
    have f2 := H2r.out.frozen 0
    have C1 := Lib.hid (fun W => lines_find r c W)
    by_cases hc : cutAt c r < r.length
    · obtain ⟨m, hm⟩ : ∃ m, m = cutAt c r := ⟨_, rfl⟩
      have hsl := splitL_cons hc
      rw [if_pos hc] at C1
      rw [← hm] at C1 hc hsl
      have hw : pre ++ [r.take m] <+: splitL c s := by rw [Hsp.out, hsl]; exact ⟨splitL c (r.drop (m + 1)), by simp⟩
      obtain ⟨fn, tmps, assign, body, hy, hR⟩ := hY pre (r.take m) wr HJ.out hw
      have Hsl := Lib.hid hsl
      have HR := Lib.hid hR
      have hm0 : ¬ (m : Int) < 0 := by omega
      have hm1 : (m : Int) ≤ (r.length : Int) := by omega
      have hm2 : (m : Int) + 1 ≤ (r.length : Int) := by omega
      have HW := Lib.hid hw
      clear hsl hR hw hm
      gi_wp2_with (refine ⟨trivial, ?_⟩; gi_at_call 56; refine (callsIn_wide.2 (C1.out _)).mono ?_; rintro e w' ⟨rfl, rfl⟩)
      refine HR.out.mono ?_
      rintro e W3 (⟨rfl, hJ3, hk1, hk2, hk3⟩ | ⟨rfl, hJx3⟩)
      · have h1w : Blk W3 b1 9 #[.string (bs [c])] := hk1.trans H1r.out
        have h2w : Blk W3 b2 9 #[.string (bs r)] := hk2.trans H2r.out
        have h3w : Blk W3 b3 3 #[.int .i64 0] := hk3.trans H3r.out
        have y1 := h1w.cell 0
        have y2 := h2w.cell 0
        have g2 := h2w.frozen 0
        have HM := Lib.hid (show m < r.length from hc)
        have HJ3 := Lib.hid (hJc _ _ (.string (bs (r.drop (m + 1)))) hJ3)
        have H1w := Lib.hid (h1w.far (p := ⟨b2, 0, none⟩) h12 (.string (bs (r.drop (m + 1)))))
        have H2w := Lib.hid (h2w.set_ 0 (.string (bs (r.drop (m + 1)))))
        have H3w := Lib.hid (h3w.far (p := ⟨b2, 0, none⟩) h32 (.string (bs (r.drop (m + 1)))))
        have hm3 : IntKind.i64.wrap ((m : Int) + 1) = (m : Int) + 1 := by rw [IntKind.wrap_i64]; omega
        clear h1w h2w h3w hk1 hk2 hk3 hJ3
        obtain ⟨m2, hm2'⟩ : ∃ m2, m2 = m + 1 := ⟨_, rfl⟩
        rw [← hm2'] at HJ3 H1w H2w H3w
        have hm4 : (m : Int) + 1 = (m2 : Int) := by omega
        have hm5 : (m2 : Int) ≤ (r.length : Int) := by omega
        have HM2 := Lib.hid hm2'
        rw [hm4] at hm3
        clear hm2' hm2
        gi_wp2
        have h5 := HM2.out
        have h6 := HM.out
        refine ⟨⟨pre ++ [r.take m], r.drop m2, Lib.hid ?_, ?_, H1w, H2w, H3w, HJ3⟩, ?_⟩
        · rw [Hsp.out, Hsl.out, h5]; simp
        · rw [List.length_drop]; omega
        · rw [curLen_blk H2w.out, curLen_blk H2r.out, List.length_drop]; omega
      · clear hc
        gi_wp2
        refine bodyPost_ret (results_none rfl _ _ _) rfl ?_
        exact ⟨⟨_, rfl⟩, .inr ⟨pre ++ [r.take m], HW.out, hJx3⟩⟩
    · have hsl := splitL_last hc
      rw [if_neg hc] at C1
      have hw : pre ++ [r] <+: splitL c s := by rw [Hsp.out, hsl]; exact ⟨[], by simp⟩
      obtain ⟨fn, tmps, assign, body, hy, hR⟩ := hY pre r wr HJ.out hw
      have Hsl := Lib.hid hsl
      have HR := Lib.hid hR
      have HW := Lib.hid hw
      clear hsl hR hw hc
      gi_wp2_with (refine ⟨trivial, ?_⟩; gi_at_call 56; refine (callsIn_wide.2 (C1.out _)).mono ?_; rintro e w' ⟨rfl, rfl⟩)
      refine HR.out.mono ?_
      rintro e W3 (⟨rfl, hJ3, hk1, hk2, hk3⟩ | ⟨rfl, hJx3⟩)
      · gi_wp2
        go_end0
        exact ⟨⟨_, rfl⟩, .inl ⟨pre ++ [r], by rw [Hsp.out, Hsl.out], hJ3⟩⟩
      · gi_wp2
        go_end0
        exact ⟨⟨_, rfl⟩, .inr ⟨pre ++ [r], HW.out, hJx3⟩⟩
theorem split_cells (n : Nat) (hn : 1 ≤ n) (b1 b2 b3 : Nat) (c : UInt8) (s : List UInt8) (hsz : s.length ≤ 10000) (w : World) (h1 : Blk w b1 9 #[.string (bs [c])]) (h2 : Blk w b2 9 #[.string (bs s)]) (h3 : Blk w b3 3 #[.int .i64 0])
    (h12 : b1 ≠ b2) (h32 : b3 ≠ b2) : SeqCells Fence.wide n Tryd.prog 54 #[.pointer (some ⟨b1, 0, none⟩), .pointer (some ⟨b2, 0, none⟩), .pointer (some ⟨b3, 0, none⟩)] (fun x => #[Value.string (bs x)]) b2
      (fun A B => B.heap[b1]? = A.heap[b1]? ∧ B.heap[b2]? = A.heap[b2]? ∧ B.heap[b3]? = A.heap[b3]?) (fun xs => xs = splitL c s) (fun pre => pre <+: splitL c s) w := by
  intro l J Jx W hW hJ hY h0
  exact split_in n hn l b1 b2 b3 c s hsz J Jx hJ hY W (h1.below hW h1.lt) (h2.below hW h2.lt) (h3.below hW h3.lt) h12 h32 h0
def SplitPost (c : UInt8) (s : List UInt8) (w : World) (e : Ending) (w' : World) : Prop := ∃ b1 b2 b3, e = .returned (.func (.func 54) #[] #[.pointer (some ⟨b1, 0, none⟩), .pointer (some ⟨b2, 0, none⟩), .pointer (some ⟨b3, 0, none⟩)]) ∧
  Blk w' b1 9 #[.string (bs [c])] ∧ Blk w' b2 9 #[.string (bs s)] ∧ Blk w' b3 3 #[.int .i64 0] ∧ b1 ≠ b2 ∧ b3 ≠ b2 ∧ w.heap.size ≤ b1 ∧ w.heap.size ≤ b2 ∧ w.heap.size ≤ b3 ∧ Below w.heap.size w w'
theorem split_seq (c : UInt8) (s : List UInt8) (w : World) : Calls Tryd.prog 36 #[.string (bs s), .string (bs [c])] w (SplitPost c s w) := by
  have h1 : Calls Tryd.prog 45 #[.string (bs s), .string (bs [c]), .int .i64 0] w (SplitPost c s w) := by
    have hs := Blk.new w 9 #[.string (bs s)]
    have hc := Blk.new (w.alloc (.cells #[.string (bs s)] 9)) 9 #[.string (bs [c])]
    have hz := Blk.new ((w.alloc (.cells #[.string (bs s)] 9)).alloc (.cells #[.string (bs [c])] 9)) 3 #[.int .i64 0]
    rw [World.size_alloc] at hc
    rw [World.size_alloc, World.size_alloc] at hz
    have HS := Lib.hid ((hs.alloc (.cells #[.string (bs [c])] 9)).alloc (.cells #[.int .i64 0] 3))
    have HC := Lib.hid (hc.alloc (.cells #[.int .i64 0] 3))
    have HZ := Lib.hid hz
    clear hs hc hz
    go_enter Tryd.func45, Tryd.ntmps45
    go_wp2_with fail
    go_ret
    exact ⟨w.heap.size + 1, w.heap.size, w.heap.size + 1 + 1, rfl, HC.out, HS.out, HZ.out, by omega, by omega, by omega, by omega, by omega, (((Below.refl _ _).alloc (Nat.le_refl _) _).alloc (by simp) _).alloc (by simp; omega) _⟩
  have H1 := Lib.hid h1
  clear h1
  go_enter Tryd.func36, Tryd.ntmps36
  go_wp2_with (go_at_call 45; refine H1.out.mono ?_; rintro e w' ⟨b1, b2, b3, rfl, hr⟩; have HR := Lib.hid hr; clear hr)
  go_ret
  exact ⟨b1, b2, b3, rfl, HR.out⟩
end Go.Proofs.YthcbidbhkikhmaaDoor
