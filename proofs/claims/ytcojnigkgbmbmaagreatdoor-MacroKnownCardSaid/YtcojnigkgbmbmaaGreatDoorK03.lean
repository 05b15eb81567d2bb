/- Rng, Bits, Pre03, Trie -/
import Derived.Test.YtcojnigkgbmbmaaGreatDoorK01
import Derived.RangeFuncNested
import Derived.RangeFuncBound
import Derived.RangeFuncCalls
import Derived.RangeFuncLeaves
import Derived.OwnWalkIn
import Derived.TacticsInMore
import Derived.LoopNIn
import Derived.LoopIn
namespace Go.Proofs.YtcojnigkgbmbmaaGreatDoor
open Go Go.RowKit
/-- K speaks of blocks alone that are no cells. -/
def KStay (K : World → Prop) : Prop := ∀ A B : World, K A → (∀ (i : Nat) (o : Obj), A.heap[i]? = some o → o.isCells = false → B.heap[i]? = some o) → K B
theorem KStay.below {K : World → Prop} (h : KStay K) {A B : World} (hK : K A) (hb : Below A.heap.size A B) : K B :=
  h A B hK fun i _ hi _ => (hb.block i (Array.getElem?_eq_some_iff.1 hi).1).trans hi
theorem KStay.set {K : World → Prop} (h : KStay K) {A : World} {p : Addr} {v : Value} {t : TypeId} {cs : Array Value} (hK : K A) (hp : Blk A p.block t cs) : K (A.setCell p v) :=
  h A _ hK fun i o hi ho => (Below.heap_setCell A p v i (fun e => by subst e; unfold Blk at hp; rw [hp] at hi; cases hi; cases ho)).trans hi
/-- the iterator's contract at the invariants I (ahead of a round, and at the end) and I2 (behind a round). -/
def SeqU {α : Type} (F : Fence) (n : Nat) (P : Program) (g : Nat) (lb : Array Value) (enc : α → Array Value) (I I2 : List α → World → Prop) (S Sp : List α → Prop) : Prop :=
  ∀ (l : Nat) (K : World → Prop) (Jx : List α → World → Prop) (W : World), KStay K →
    (∀ pre x W1, I pre W1 → K W1 → Sp (pre ++ [x]) → YieldAt F (n - 1) P l (enc x) W1 fun e W' => (e = .returned (.bool true) ∧ I2 (pre ++ [x]) W' ∧ K W') ∨ (e = .returned (.bool false) ∧ Jx (pre ++ [x]) W')) →
    I [] W → K W → CallsIn F n P g (#[.func (.yield l) #[] #[]] ++ lb) W fun e W' => (∃ v, e = .returned v) ∧ ((∃ xs, S xs ∧ I xs W' ∧ K W') ∨ (∃ pre, Sp pre ∧ Jx pre W'))
theorem wp_u {α : Type} {F : Fence} {n : Nat} {P : Program} {g : Operand} {ps : Array Tmp} {assign body : Code} {Q : Exit → Act → World → Prop} {a : Act} {w : World}
    (hro : F.round = none) (h1 : 1 ≤ n) {gf : Nat} {lb : Array Value} (hg : a.eval g = .func (.func gf) #[] lb) (hFg : F.fn gf) (eg : ∀ args w, (callFunc gf args).run P w = .ok (.enter gf args) w)
    {enc : α → Array Value} {I I2 : List α → World → Prop} {S Sp : List α → Prop} (hseq : SeqU F (n - 1) P gf lb enc I I2 S Sp) (hps : ∀ x, (enc x).size = ps.size)
    (Ix : Code → List α → World → Prop) (J : List α → α → Act → World → Prop) (hI : OwnFrom w.heap.size I) (hI2 : OwnFrom w.heap.size I2) (hIx : ∀ c, OwnFrom w.heap.size (Ix c)) (hJ : ∀ x a', OwnFrom w.heap.size (fun pre W => J pre x a' W)) (h0 : I [] w)
    (hassign : ∀ (l : Nat) (pre : List α) (x : α) (W : World), I pre W → Sp (pre ++ [x]) → assign.wpIn (F.inRound l) (n - 1 - 1) P (Exit.then (fun a' W' => J pre x a' W' ∧ KeepsFrom w.heap.size W W') (fun _ _ _ => False)) { tmps := (ps.zip (enc x)).foldl (fun t (p, v) => t.setIfInBounds p v) a.tmps, defers := [] } W)
    (hbody : ∀ (l : Nat) (pre : List α) (x : α) (a' : Act) (W : World), J pre x a' W → Sp (pre ++ [x]) → body.wpIn (F.inRound l) (n - 1 - 1) P (ownPostG w.heap.size (fun _ _ => True) I2 Ix (pre ++ [x]) W) a' W)
    (hdone : ∀ (D : Nat) (xs : List α) (W : World), w.heap.size ≤ D → S xs → I xs W → W.heap[D]? = some (.deferred (some [])) → Q .normal { a with defers := { target := .collected D, args := #[] } :: a.defers } W)
    (hstop : ∀ (D : Nat) (c : Code) (pre : List α) (W : World), w.heap.size ≤ D → Sp pre → Ix c pre W → W.heap[D]? = some (.deferred (some [])) → c.wpIn F n P Q { a with defers := { target := .collected D, args := #[] } :: a.defers } W) :
    (Code.rangeFunc g ps assign body).wpIn F n P Q a w := by
  refine wpIn_rangeFunc fun fn hfn => ?_
  rw [hro]
  -- the loop's record, in its states
  let rec' : LoopState → Option Code → Loop := fun st pe => { state := st, pending := pe, fn, tmps := a.tmps, params := ps, assign, body, defers := w.heap.size }
  let W1 : World := (w.alloc (.deferred (some []))).alloc (.loop (rec' .ready none))
  have hL : W1.heap[w.heap.size + 1]? = some (.loop (rec' .ready none)) := by
    have := World.alloc_heap_new (w.alloc (.deferred (some []))) (.loop (rec' .ready none)); rwa [World.size_alloc] at this
  have hD : W1.heap[w.heap.size]? = some (.deferred (some [])) := (Below.heap_alloc _ _ _ (by simp)).trans (World.alloc_heap_new w _)
  refine ⟨w.heap.size + 1, [{ target := .collected w.heap.size, args := #[] }], W1, { target := .fn (.func gf) lb, args := #[.func (.yield (w.heap.size + 1)) #[] #[]] }, W1, gf,
    #[.func (.yield (w.heap.size + 1)) #[] #[]] ++ lb, W1, run_enterLoop_outer _ _ _ _ _, ?_, ?_, ?_, fun _ => h1, ?_⟩
  · simp only [resolve, hg]; simp [go_sem]
  · intro f' hf'; simp [Target.leads] at hf'; subst hf'; exact hFg
  · simp [invoke, go_sem, eg]
  have hput : ∀ {s : List α} {J : List α → World → Prop} {W : World} {r : Loop} (o : Obj), OwnFrom w.heap.size J → J s W → W.heap[w.heap.size + 1]? = some (.loop r) → J s (W.putObj (w.heap.size + 1) o) :=
    fun o hJ hs hl => hJ.putObj _ hs (Nat.le_succ _) hl rfl
  have hother : ∀ (W : World) (o : Obj), (W.putObj (w.heap.size + 1) o).heap[w.heap.size]? = W.heap[w.heap.size]? := fun W o => World.putObj_heap_other (Nat.ne_of_lt (Nat.lt_succ_self _))
  refine (hseq (w.heap.size + 1)
    (fun W => W.heap[w.heap.size + 1]? = some (.loop (rec' .ready none)) ∧ W.heap[w.heap.size]? = some (.deferred (some [])))
    (fun pre W => ∃ c, Ix c pre W ∧ W.heap[w.heap.size + 1]? = some (.loop (rec' .done (some c))) ∧ W.heap[w.heap.size]? = some (.deferred (some [])))
    W1 (fun A B hK hkeep => ⟨hkeep _ _ hK.1 rfl, hkeep _ _ hK.2 rfl⟩) ?_ (hI.alloc _ (hI.alloc _ h0)) ⟨hL, hD⟩).mono ?_
  · rintro pre x W hi ⟨hl, hk⟩ hsp
    refine ⟨fn, _, assign, body, run_yield (P := P) (args := enc x) hl (hps x), roundIn_of_wpIn hfn (wpIn_mono (hassign _ pre x W hi hsp) ?_)⟩
    rintro e a' W' he
    cases e with
    | normal => ?_
    | _ => exact he.elim
    obtain ⟨hj, hkf⟩ := he
    have hl' := hkf.same _ _ (Nat.le_succ _) hl rfl
    have hk' := hkf.same _ _ (Nat.le_refl _) hk rfl
    refine ⟨_, run_beginRound hl' rfl, ?_⟩
    have hlt : w.heap.size + 1 < W'.heap.size := (Array.getElem?_eq_some_iff.1 hl').1
    have hl2 : (W'.putObj (w.heap.size + 1) (.loop { rec' .ready none with state := .busy })).heap[w.heap.size + 1]? = some (.loop { rec' .ready none with state := .busy }) := World.putObj_heap_same hlt
    have hk2 := (hother W' (.loop { rec' .ready none with state := .busy })).trans hk'
    refine wpIn_mono (hbody _ pre x _ _ (hput (J := fun pre W => J pre x a' W) _ (hJ x a') hj hl') hsp) ?_
    have fin : ∀ (jump : Option Code) (W3 : World), KeepsFrom w.heap.size (W'.putObj (w.heap.size + 1) (.loop { rec' .ready none with state := .busy })) W3 →
        ∃ st, st = (if jump.isNone then LoopState.ready else .done) ∧ (Instr.endRound (w.heap.size + 1) jump).run P W3 = .ok (.bool jump.isNone) (W3.putObj (w.heap.size + 1) (.loop (rec' st jump))) ∧
        W3.heap[w.heap.size + 1]? = some (.loop { rec' .ready none with state := .busy }) ∧
        (W3.putObj (w.heap.size + 1) (.loop (rec' st jump))).heap[w.heap.size + 1]? = some (.loop (rec' st jump)) ∧
        (W3.putObj (w.heap.size + 1) (.loop (rec' st jump))).heap[w.heap.size]? = some (.deferred (some [])) := fun jump W3 hk3 => by
      have hl3 := hk3.same _ _ (Nat.le_succ _) hl2 rfl
      exact ⟨_, rfl, run_endRound (P := P) jump hl3, hl3, World.putObj_heap_same (Array.getElem?_eq_some_iff.1 hl3).1, (hother W3 _).trans (hk3.same _ _ (Nat.le_refl _) hk2 rfl)⟩
    have left : ∀ (c : Code) (W3 : World), KeepsFrom w.heap.size (W'.putObj (w.heap.size + 1) (.loop { rec' .ready none with state := .busy })) W3 → Ix c (pre ++ [x]) W3 →
        ∃ v w', (Instr.endRound (w.heap.size + 1) (some c)).run P W3 = .ok v w' ∧ ((Ending.returned v = .returned (.bool true) ∧ I2 (pre ++ [x]) w' ∧ (w'.heap[w.heap.size + 1]? = some (.loop (rec' .ready none)) ∧ w'.heap[w.heap.size]? = some (.deferred (some [])))) ∨
          (Ending.returned v = .returned (.bool false) ∧ ∃ c, Ix c (pre ++ [x]) w' ∧ w'.heap[w.heap.size + 1]? = some (.loop (rec' .done (some c))) ∧ w'.heap[w.heap.size]? = some (.deferred (some [])))) := fun c W3 hk3 hx3 => by
      obtain ⟨st, rfl, hr, hl3, hl4, hk4⟩ := fin (some c) W3 hk3
      exact ⟨_, _, hr, .inr ⟨rfl, c, hput _ (hIx c) hx3 hl3, hl4, hk4⟩⟩
    rintro e a3 W3 hp
    cases e with
    | normal =>
      obtain ⟨hk3, hkp3, hi3⟩ := hp
      obtain ⟨st, rfl, hr, hl3, hl4, hk4⟩ := fin none W3 hk3
      exact ⟨_, _, hr, .inl ⟨rfl, hput _ hI2 hi3 hl3, hl4, hk4⟩⟩
    | ret => exact left .ret W3 hp.1 hp.2
    | exit id => exact left (.exit id) W3 hp.1 hp.2
    | goto t => exact left (.goto t) W3 hp.1 hp.2
    | panic ch => exact hp.elim
    | outgrown => exact hp.elim
  · rintro e W2 ⟨⟨v, rfl⟩, (⟨xs, hS, hi, hl, hk⟩ | ⟨pre, hSp, c, hi, hl, hk⟩)⟩
    · exact ⟨none, _, run_endLoop (P := P) hl (by simp [rec']), hdone _ xs _ (Nat.le_refl _) hS (hput _ hI hi hl) ((hother _ _).trans hk)⟩
    · exact ⟨some c, _, run_endLoop (P := P) hl (by simp [rec']), hstop _ c pre _ (Nat.le_refl _) hSp (hput _ (hIx c) hi hl) ((hother _ _).trans hk)⟩
/-- the same, where the frame behind the assignment is found by the proof. -/
theorem wp_uF {α : Type} {F : Fence} {n : Nat} {P : Program} {g : Operand} {ps : Array Tmp} {assign body : Code} {Q : Exit → Act → World → Prop} {a : Act} {w : World}
    (hro : F.round = none) (h1 : 1 ≤ n) {gf : Nat} {lb : Array Value} (hg : a.eval g = .func (.func gf) #[] lb) (hFg : F.fn gf) (eg : ∀ args w, (callFunc gf args).run P w = .ok (.enter gf args) w)
    {enc : α → Array Value} {I I2 : List α → World → Prop} {S Sp : List α → Prop} (hseq : SeqU F (n - 1) P gf lb enc I I2 S Sp) (hps : ∀ x, (enc x).size = ps.size)
    (Ix : Code → List α → World → Prop) (J : List α → α → Nat → World → Prop) (hI : OwnFrom w.heap.size I) (hI2 : OwnFrom w.heap.size I2) (hIx : ∀ c, OwnFrom w.heap.size (Ix c)) (hJ : ∀ x k, OwnFrom w.heap.size (fun pre W => J pre x k W)) (h0 : I [] w)
    (hround : ∃ A : α → Nat → Act,
      (∀ (l : Nat) (pre : List α) (x : α) (W : World), I pre W → Sp (pre ++ [x]) → assign.wpIn (F.inRound l) (n - 1 - 1) P (Exit.then (fun a' W' => (∃ k, a' = A x k ∧ J pre x k W') ∧ KeepsFrom w.heap.size W W') (fun _ _ _ => False)) { tmps := (ps.zip (enc x)).foldl (fun t (p, v) => t.setIfInBounds p v) a.tmps, defers := [] } W) ∧
      (∀ (l : Nat) (pre : List α) (x : α) (k : Nat) (W : World), J pre x k W → Sp (pre ++ [x]) → body.wpIn (F.inRound l) (n - 1 - 1) P (ownPostG w.heap.size (fun _ _ => True) I2 Ix (pre ++ [x]) W) (A x k) W))
    (hdone : ∀ (D : Nat) (xs : List α) (W : World), w.heap.size ≤ D → S xs → I xs W → W.heap[D]? = some (.deferred (some [])) → Q .normal { a with defers := { target := .collected D, args := #[] } :: a.defers } W)
    (hstop : ∀ (D : Nat) (c : Code) (pre : List α) (W : World), w.heap.size ≤ D → Sp pre → Ix c pre W → W.heap[D]? = some (.deferred (some [])) → c.wpIn F n P Q { a with defers := { target := .collected D, args := #[] } :: a.defers } W) :
    (Code.rangeFunc g ps assign body).wpIn F n P Q a w := by
  obtain ⟨A, ha, hb⟩ := hround
  refine wp_u hro h1 hg hFg eg hseq hps Ix (fun pre x a' W => ∃ k, a' = A x k ∧ J pre x k W) hI hI2 hIx (fun x a' s W W' row hs hgr hr => ?_) h0 ha (fun l pre x a' W hj hsp => ?_) hdone hstop
  · obtain ⟨k, e, hj⟩ := hs
    exact ⟨k, e, hJ x k s W W' row hj hgr hr⟩
  · obtain ⟨k, rfl, hj⟩ := hj
    exact hb l pre x k W hj hsp
end Go.Proofs.YtcojnigkgbmbmaaGreatDoor
namespace Go.Proofs.YtcojnigkgbmbmaaGreatDoor
open Go Go.RowKit
def bitN (l : List UInt8) (k : Nat) : Nat := (l.getD (k / 8) 0).toNat / 2 ^ (7 - k % 8) % 2
theorem bitN_lt (l : List UInt8) (k : Nat) : bitN l k < 2 := Nat.mod_lt _ (by decide)
def numN (l : List UInt8) (k : Nat) : Nat → Nat
  | 0 => 0
  | n + 1 => 2 * numN l k n + bitN l (k + n)
theorem numN_lt (l : List UInt8) (k n : Nat) : numN l k n < 2 ^ n := by
  induction n with
  | zero => simp [numN]
  | succ n ih => have := bitN_lt l (k + n); simp only [numN, Nat.pow_succ]; omega
theorem bits_bit (A : Option Addr) (n c : Nat) (l : List UInt8) (i : Int) (w : World) (hr : Sl w A (l.map byteV)) (hn : l.length = n) (h0 : 0 ≤ i) (h1 : i < 8 * n) :
   Calls Tryz.prog 143 #[.slice A n c, .int .i64 i] w fun e w' => e = .returned (.int .i64 (bitN l i.toNat)) ∧ w = w' := by
  obtain ⟨k, rfl⟩ := Int.eq_ofNat_of_zero_le h0
  subst hn
  obtain ⟨ad, rfl, _, hc⟩ := hr.byte (k / 8) (by omega)
  have hk : (0:Int) ≤ 7 - ↑k % 8 := by omega
  have hb : l[k / 8].toNat < 256 := UInt8.toNat_lt _
  have hb2 : l[k / 8].toNat / 2 ^ (7 - k % 8) < 256 := Nat.lt_of_le_of_lt (Nat.div_le_self _ _) hb
  have hlt : k / 8 < l.length := by omega
  have hfin : wrap64 (↑l[k / 8].toNat / 2 ^ (7 - k % 8)) % 2 = ((bitN l k : Nat) : Int) := by
    generalize hq : l[k / 8].toNat / 2 ^ (7 - k % 8) = q at hb2
    rw [show ((l[k / 8].toNat : Int) / 2 ^ (7 - k % 8)) = (q : Int) by rw [← hq]; simp, IntWalk.wrap64_in _ (by omega), ← hq]
    simp [bitN, List.getD, hlt]
  have Hf := Lib.hid hfin
  clear hfin hb hb2
  go_enter Tryz.func143, Tryz.ntmps143
  go_wp2
  go_ret
  rw [Hf.out, Int.toNat_natCast]
  exact ⟨rfl, rfl⟩
set_option maxHeartbeats 400000 in
theorem bits_Read (A : Option Addr) (n c : Nat) (l : List UInt8) (i m : Int) (w : World) (hr : Sl w A (l.map byteV)) (hn : l.length = n) (h0 : 0 ≤ i) (hm : 0 ≤ m) (hm2 : m ≤ 32) (h1 : i + m ≤ 8 * n) (hsz : n ≤ 2 ^ 47) :
   Calls Tryz.prog 110 #[.slice A n c, .int .i64 i, .int .i64 m] w fun e w' => e = .returned (.tuple #[.int .i64 (numN l i.toNat m.toNat), .int .i64 0]) ∧ w = w' := by
  obtain ⟨k, rfl⟩ := Int.eq_ofNat_of_zero_le h0
  obtain ⟨m, rfl⟩ := Int.eq_ofNat_of_zero_le hm
  have e1 : decide ((k:Int) < 0) = false := by simp
  have e2 : decide ((m:Int) < 0) = false := by simp
  have e3 : ¬ (32 : Int) < m := by omega
  have e4 : ¬ (8 * (n : Int)) < k := by omega
  have e5 : ¬ (8 * (n : Int)) - k < m := by omega
  go_enter Tryz.func110, Tryz.ntmps110
  go_wp2
  go_loop [1, 2, 8] (fun i n x => ∃ j : Nat, j ≤ m ∧ i = .int .i64 ((k + j : Nat) : Int) ∧ n = .int .i64 ((m - j : Nat) : Int) ∧ x = .int .i64 (numN l k j)) (fun _ n _ => (intOf n).toNat)
  case atStart => exact ⟨0, by omega, rfl, rfl, rfl⟩
  case round =>
    obtain ⟨j, hj, rfl, rfl, rfl⟩ := hrel
    by_cases hlt : j < m
    · have hb := bitN_lt l (k + j)
      have hx := numN_lt l k j
      have hx2 : numN l k j < 2 ^ 32 := Nat.lt_of_lt_of_le hx (Nat.pow_le_pow_right (by decide) (by omega))
      have hp : (0 : Int) < ((m - j : Nat) : Int) := by omega
      have Ho := Lib.hid (i64_shl_or (numN l k j) (bitN l (k + j)) (by omega) hb)
      clear hx
      have hz : (0:Int) ≤ ((k+j : Nat) : Int) := by omega
      go_wp2_with (go_at_call 143; refine (bits_bit _ _ _ l _ _ hr hn (by omega) (by omega)).mono ?_; rintro e w' ⟨rfl, rfl⟩)
      refine ⟨⟨j + 1, by omega, by congr 1, by congr 1; omega, ?_⟩, ?_⟩
      · have h2 := Ho.out; exact congrArg (Value.int .i64) h2
      · simp [intOf]; omega
    · have hp : ¬ (0 : Int) < ((m - j : Nat) : Int) := by omega
      obtain rfl : j = m := by omega
      go_wp2
      go_ret2
      exact ⟨by simp, rfl⟩
theorem bits_Read_v (v : Int) (A : Option Addr) (n c : Nat) (l : List UInt8) (i m : Int) (w : World) (hv : (numN l i.toNat m.toNat : Int) = v) (hr : Sl w A (l.map byteV)) (hn : l.length = n) (h0 : 0 ≤ i) (hm : 0 ≤ m) (hm2 : m ≤ 32) (h1 : i + m ≤ 8 * n) (hsz : n ≤ 2 ^ 47) :
   Calls Tryz.prog 110 #[.slice A n c, .int .i64 i, .int .i64 m] w fun e w' => e = .returned (.tuple #[.int .i64 v, .int .i64 0]) ∧ w = w' := by
  rw [← hv]; exact bits_Read A n c l i m w hr hn h0 hm hm2 h1 hsz
theorem bits_Read_more (A : Option Addr) (n c : Nat) (i m : Int) (w : World) (h0 : 0 ≤ i) (hm : 0 ≤ m) (hm2 : m ≤ 32) (h1 : 8 * n < i + m) (hsz : n ≤ 2 ^ 47) :
   Calls Tryz.prog 110 #[.slice A n c, .int .i64 i, .int .i64 m] w fun e w' => e = .returned (.tuple #[.int .i64 0, .int .i64 5]) ∧ w = w' := by
  have e1 : decide (i < 0) = false := by simpa using h0
  have e2 : decide (m < 0) = false := by simpa using hm
  have e3 : ¬ (32 : Int) < m := by omega
  by_cases e4 : (8 * (n : Int)) < i
  · go_enter Tryz.func110, Tryz.ntmps110
    go_wp2
    go_ret2
    exact ⟨rfl, rfl⟩
  · have e5 : (8 * (n : Int)) - i < m := by omega
    go_enter Tryz.func110, Tryz.ntmps110
    go_wp2
    go_ret2
    exact ⟨rfl, rfl⟩
theorem bits_Count (A : Option Addr) (n c : Nat) (w : World) (hsz : n ≤ 2 ^ 47) :
   Calls Tryz.prog 142 #[.slice A n c] w fun e w' => e = .returned (.int .i64 (8 * n)) ∧ w = w' := by
  go_enter Tryz.func142, Tryz.ntmps142
  go_wp2
  go_ret
  exact ⟨rfl, rfl⟩
end Go.Proofs.YtcojnigkgbmbmaaGreatDoor
namespace Go.Proofs.YtcojnigkgbmbmaaGreatDoor
open Go Go.RowKit
def strV (c : List UInt8) : Value := .string (bs c)
def bitC (l : List UInt8) (k : Nat) : UInt8 := if bitN l k = 0 then 48 else 49
def bitsL (l : List UInt8) (i n : Nat) : List UInt8 := (List.range n).map fun j => bitC l (i + j)
theorem bitsL_succ (l : List UInt8) (i n : Nat) : bitsL l i (n + 1) = bitsL l i n ++ [bitC l (i + n)] := by simp [bitsL, List.range_succ]
theorem bitsL_length (l : List UInt8) (i n : Nat) : (bitsL l i n).length = n := by simp [bitsL]
theorem numN_one (l : List UInt8) (k : Nat) : numN l k 1 = bitN l k := by simp [numN]
def isCode (c : List UInt8) : Bool := c.all (fun b => b == 48 || b == 49) && decide (1 ≤ c.length) && decide (c.length ≤ 24)
def codesFree (cs : List (List UInt8)) : Bool := (List.range cs.length).all fun i => (List.range cs.length).all fun k => i == k || !(cs.getD k []).isPrefixOf (cs.getD i [])
def findR (s : List UInt8) : List (List UInt8) → List Int → Option (Int × Int)
  | c :: cs, n :: ns => if c.isPrefixOf s then some (n, (c.length : Int)) else findR s cs ns
  | _, _ => none
def getT (cs : List (List UInt8)) (ns : List Int) (s : List UInt8) : Int × Int × Int :=
  match findR s cs ns with
  | some (n, k) => (n, k, 0)
  | none => if cs.any (fun c => s.isPrefixOf c) then (0, 0, 5) else (0, 0, 7)
def treeR (cs : List (List UInt8)) (ns : List Int) (l : List UInt8) (i : Int) : Int × Int × Int :=
  if i < 0 then (0, 0, 3) else getT cs ns (bitsL l i.toNat (min 24 (8 * l.length - i.toNat)))
theorem prefix_take (p s : List UInt8) (_h : p.length ≤ s.length) : (s.take p.length == p) = p.isPrefixOf s := by
  rw [Bool.eq_iff_iff, beq_iff_eq, List.isPrefixOf_iff_prefix, List.prefix_iff_eq_take]
  exact eq_comm
theorem prefix_long (p s : List UInt8) (h : ¬ p.length ≤ s.length) : p.isPrefixOf s = false := by
  rw [Bool.eq_false_iff]
  intro hp
  exact h (List.isPrefixOf_iff_prefix.1 hp).length_le
end Go.Proofs.YtcojnigkgbmbmaaGreatDoor
namespace Go.Proofs.YtcojnigkgbmbmaaGreatDoor
open Go Go.RowKit
structure Nd where
  a : Nat
  b : Nat
  leaf : Bool
  num : Int
def ndC (x : Nd) : List Value := [.int .i64 x.a, .int .i64 x.b, .bool x.leaf, .int .i64 x.num]
theorem ndC_len (x : Nd) : (ndC x).length = 4 := rfl
def Nd.to (x : Nd) (c : UInt8) : Nat := if c = 48 then x.a else x.b
def Nd.link (x : Nd) (c : UInt8) (k : Nat) : Nd := if c = 48 then ⟨k, x.b, x.leaf, x.num⟩ else ⟨x.a, k, x.leaf, x.num⟩
def nd0 : Nd := ⟨0, 0, false, 0⟩
/-- a step of put: from node k by the bit c. -/
def goN (N : List Nd) (k : Nat) (c : UInt8) : List Nd × Nat :=
  if (N.getD k nd0).to c = 0 then ((N ++ [nd0]).set k ((N.getD k nd0).link c N.length), N.length) else (N, (N.getD k nd0).to c)
def walkP : List Nd → Nat → List UInt8 → Option (List Nd × Nat)
  | N, k, [] => if decide (N.length ≤ k) || decide (10000 ≤ N.length) then none else some (N, k)
  | N, k, c :: s => if (N.getD k nd0).leaf || decide (N.length ≤ k) || decide (10000 ≤ N.length) then none else walkP (goN N k c).1 (goN N k c).2 s
def putN (N : List Nd) (s : List UInt8) (num : Int) : Option (List Nd) :=
  match walkP N 0 s with
  | none => none
  | some (M, k) => if (M.getD k nd0).leaf || (M.getD k nd0).a != 0 || (M.getD k nd0).b != 0 then none else some (M.set k ⟨0, 0, true, num⟩)
def putAll : List Nd → List (List UInt8) → List Int → Option (List Nd)
  | N, c :: cs, n :: ns => match putN N c n with
    | none => none
    | some M => putAll M cs ns
  | N, _, _ => some N
/-- the tree of codes. -/
def treeN (cs : List (List UInt8)) (ns : List Int) : List Nd := (putAll [nd0] cs ns).getD []
def walkT (N : List Nd) : Nat → List UInt8 → Int → Int × Int × Int
  | _, [], _ => (0, 0, 5)
  | k, c :: s, many => if (N.getD k nd0).to c = 0 then (0, 0, 7) else if (N.getD ((N.getD k nd0).to c) nd0).leaf then ((N.getD ((N.getD k nd0).to c) nd0).num, many + 1, 0) else walkT N ((N.getD k nd0).to c) s (many + 1)
def wfN (N : List Nd) : Bool := N.all fun x => decide (x.a < N.length) && decide (x.b < N.length)
theorem wfN_to {N : List Nd} (h : wfN N = true) (k : Nat) (hk : 0 < N.length) (c : UInt8) : (N.getD k nd0).to c < N.length := by
  rw [List.getD]
  cases he : N[k]? with
  | none => simpa [Nd.to, nd0] using hk
  | some x =>
    have := List.all_eq_true.1 h x (List.mem_of_getElem? he)
    simp only [Bool.and_eq_true, decide_eq_true_eq] at this
    simp only [Option.getD_some, Nd.to]
    split
    · exact this.1
    · exact this.2
def strip (c : UInt8) : List (List UInt8 × Int) → List (List UInt8 × Int)
  | [] => []
  | ([], _) :: D => strip c D
  | (d :: s, n) :: D => if d == c then (s, n) :: strip c D else strip c D
def okT : Nat → List Nd → Nat → List (List UInt8 × Int) → Bool
  | 0, _, _, _ => false
  | f + 1, N, k, D => D.all (fun p => p.1 != []) && D != [] && [(48 : UInt8), 49].all fun c =>
      if (N.getD k nd0).to c == 0 then strip c D == [] else
        if (N.getD ((N.getD k nd0).to c) nd0).leaf then strip c D == [([], (N.getD ((N.getD k nd0).to c) nd0).num)] else okT f N ((N.getD k nd0).to c) (strip c D)
def lookD (D : List (List UInt8 × Int)) (s : List UInt8) (many : Int) : Int × Int × Int :=
  match D.find? (fun p => p.1.isPrefixOf s) with
  | some p => (p.2, many + p.1.length, 0)
  | none => if D.any (fun p => s.isPrefixOf p.1) then (0, 0, 5) else (0, 0, 7)
theorem lookD_nil (D : List (List UInt8 × Int)) (h : D.all (fun p => p.1 != []) = true) (h1 : D ≠ []) (many : Int) : lookD D [] many = (0, 0, 5) := by
  have hf : D.find? (fun p => p.1.isPrefixOf ([] : List UInt8)) = none := by
    rw [List.find?_eq_none]
    intro p hp
    have := List.all_eq_true.1 h p hp
    obtain ⟨s, n⟩ := p
    cases s with
    | nil => simp at this
    | cons x s => simp
  unfold lookD
  rw [hf]
  cases D with
  | nil => exact absurd rfl h1
  | cons p D => simp
theorem lookD_cons : ∀ (D : List (List UInt8 × Int)) (h : D.all (fun p => p.1 != []) = true) (c : UInt8) (s : List UInt8) (many : Int), lookD D (c :: s) many = lookD (strip c D) s (many + 1)
  | [], _, c, s, many => rfl
  | ([], n) :: D, h, c, s, many => by simp at h
  | (d :: t, n) :: D, h, c, s, many => by
    have ih := lookD_cons D (by simpa using h) c s many
    unfold lookD at ih ⊢
    by_cases hd : d = c
    · subst hd
      simp only [strip, beq_self_eq_true, if_true, List.find?_cons, List.isPrefixOf_cons_cons, Bool.true_and, List.any_cons]
      cases hp : t.isPrefixOf s with
      | true => simp; omega
      | false =>
        simp only []
        cases hs : s.isPrefixOf t with
        | false => simp only [Bool.false_or]; exact ih
        | true =>
          simp only [Bool.true_or, if_true]
          cases h1 : D.find? (fun p => p.1.isPrefixOf (d :: s)) with
          | none =>
            rw [h1] at ih
            cases h2 : (strip d D).find? (fun p => p.1.isPrefixOf s) with
            | none => rfl
            | some p => rw [h2] at ih; simp only at ih; split at ih <;> simp at ih
          | some p =>
            rw [h1] at ih
            cases h2 : (strip d D).find? (fun p => p.1.isPrefixOf s) with
            | none => rw [h2] at ih; simp only at ih; split at ih <;> simp at ih
            | some q => rw [h2] at ih; exact ih
    · have h1 : (d == c) = false := beq_eq_false_iff_ne.2 hd
      have h2 : (c == d) = false := beq_eq_false_iff_ne.2 (Ne.symm hd)
      simp only [strip, h1, if_false, List.find?_cons, List.isPrefixOf_cons_cons, Bool.false_and, List.any_cons, h2, Bool.false_or, Bool.false_eq_true]
      exact ih
theorem walk_look : ∀ (f : Nat) (N : List Nd) (k : Nat) (D : List (List UInt8 × Int)) (s : List UInt8) (many : Int), okT f N k D = true → (∀ c ∈ s, c = 48 ∨ c = 49) → walkT N k s many = lookD D s many
  | 0, N, k, D, s, many, h, _ => by simp [okT] at h
  | f + 1, N, k, D, s, many, h, hs => by
    rw [okT, Bool.and_eq_true, Bool.and_eq_true] at h
    obtain ⟨⟨h1, h2⟩, h3⟩ := h
    have h2' : D ≠ [] := by simpa using h2
    cases s with
    | nil => rw [lookD_nil D h1 h2']; rfl
    | cons c s =>
      rw [lookD_cons D h1 c s many, walkT]
      have hc : c ∈ [(48 : UInt8), 49] := by have := hs c (by simp); simpa using this
      have h4 := List.all_eq_true.1 h3 c hc
      by_cases ht : (N.getD k nd0).to c = 0
      · rw [if_pos ht]
        rw [if_pos (beq_iff_eq.2 ht)] at h4
        rw [beq_iff_eq.1 h4]
        rfl
      · rw [if_neg ht]
        rw [if_neg (by simpa using ht)] at h4
        by_cases hl : (N.getD ((N.getD k nd0).to c) nd0).leaf = true
        · rw [if_pos hl]
          rw [if_pos hl] at h4
          rw [beq_iff_eq.1 h4]
          simp [lookD]
        · rw [if_neg hl]
          rw [if_neg hl] at h4
          exact walk_look f N _ _ s (many + 1) h4 (fun x hx => hs x (by simp [hx]))
theorem walk_take : ∀ (f : Nat) (N : List Nd) (k : Nat) (D : List (List UInt8 × Int)) (s : List UInt8) (many : Int), okT f N k D = true → (∀ c ∈ s, c = 48 ∨ c = 49) → walkT N k s many = walkT N k (s.take f) many
  | 0, N, k, D, s, many, h, _ => by simp [okT] at h
  | f + 1, N, k, D, s, many, h, hs => by
    rw [okT, Bool.and_eq_true, Bool.and_eq_true] at h
    obtain ⟨⟨h1, h2⟩, h3⟩ := h
    cases s with
    | nil => rfl
    | cons c s =>
      rw [List.take_succ_cons, walkT, walkT]
      have hc : c ∈ [(48 : UInt8), 49] := by have := hs c (by simp); simpa using this
      have h4 := List.all_eq_true.1 h3 c hc
      by_cases ht : (N.getD k nd0).to c = 0
      · rw [if_pos ht, if_pos ht]
      · rw [if_neg ht, if_neg ht]
        rw [if_neg (by simpa using ht)] at h4
        by_cases hl : (N.getD ((N.getD k nd0).to c) nd0).leaf = true
        · rw [if_pos hl, if_pos hl]
        · rw [if_neg hl, if_neg hl]
          rw [if_neg hl] at h4
          exact walk_take f N _ _ s (many + 1) h4 (fun x hx => hs x (by simp [hx]))
theorem find_zip (s : List UInt8) : ∀ (cs : List (List UInt8)) (ns : List Int), findR s cs ns = ((cs.zip ns).find? (fun p => p.1.isPrefixOf s)).map (fun p => (p.2, (p.1.length : Int)))
  | [], ns => by rw [findR.eq_def]; rfl
  | c :: cs, [] => by rw [findR.eq_def]; rfl
  | c :: cs, n :: ns => by
    rw [findR, List.zip_cons_cons, List.find?_cons, find_zip s cs ns]
    cases hp : c.isPrefixOf s with
    | true => simp
    | false => simp
theorem any_zip (f : List UInt8 → Bool) : ∀ (cs : List (List UInt8)) (ns : List Int), cs.length = ns.length → (cs.zip ns).any (fun p => f p.1) = cs.any f
  | [], ns, h => rfl
  | c :: cs, [], h => by simp at h
  | c :: cs, n :: ns, h => by rw [List.zip_cons_cons, List.any_cons, List.any_cons, any_zip f cs ns (by simpa using h)]
theorem getT_look (cs : List (List UInt8)) (ns : List Int) (s : List UInt8) (h : cs.length = ns.length) : getT cs ns s = lookD (cs.zip ns) s 0 := by
  unfold getT lookD
  rw [find_zip]
  cases (cs.zip ns).find? (fun p => p.1.isPrefixOf s) with
  | some p => simp
  | none => simp only [Option.map_none]; rw [any_zip _ cs ns h]
theorem bitC_or (l : List UInt8) (k : Nat) : bitC l k = 48 ∨ bitC l k = 49 := by unfold bitC; split <;> simp
theorem bitsL_or (l : List UInt8) (i n : Nat) : ∀ c ∈ bitsL l i n, c = 48 ∨ c = 49 := by
  intro c hc
  obtain ⟨j, _, rfl⟩ := List.mem_map.1 hc
  exact bitC_or l _
theorem bitsL_take (l : List UInt8) (i n m : Nat) : (bitsL l i n).take m = bitsL l i (min m n) := by
  unfold bitsL
  rw [← List.map_take, List.take_range]
/-- what a tree that is one answers is what the reference's does. -/
theorem walk_tree (N : List Nd) (cs : List (List UInt8)) (ns : List Int) (h : okT 24 N 0 (cs.zip ns) = true) (hl : cs.length = ns.length) (l : List UInt8) (i : Nat) :
    walkT N 0 (bitsL l i (8 * l.length - i)) 0 = treeR cs ns l i := by
  have h1 := bitsL_or l i (8 * l.length - i)
  rw [walk_take 24 N 0 _ _ 0 h h1, bitsL_take, walk_look 24 N 0 _ _ 0 h (bitsL_or _ _ _), ← getT_look cs ns _ hl, treeR, if_neg (by omega), Int.toNat_natCast]
theorem bitsL_cons (l : List UInt8) (i n : Nat) : bitsL l i (n + 1) = bitC l i :: bitsL l (i + 1) n := by
  unfold bitsL
  rw [List.range_succ_eq_map, List.map_cons, List.map_map]
  congr 1
  apply List.map_congr_left
  intro j _
  show bitC l (i + (j + 1)) = bitC l (i + 1 + j)
  congr 1
  omega
end Go.Proofs.YtcojnigkgbmbmaaGreatDoor
