/- Numb, RngG, Tabl -/
import Derived.Test.YtcojnigkgbmbmaaGreatDoorK21
import Derived.Lib.ConvBytes
import Derived.Test.YtcojnigkgbmbmaaGreatDoorK09
import Derived.Test.YtcojnigkgbmbmaaGreatDoorK17
namespace Go.Proofs.YtcojnigkgbmbmaaGreatDoor
open Go Go.RowKit
theorem numS_snoc (s : List UInt8) (c : UInt8) : numS (s ++ [c]) = 2 * numS s + (c.toNat - 48) := by unfold numS; rw [List.foldl_append]; rfl
theorem numS_lt (s : List UInt8) (h : ∀ c ∈ s, c = 48 ∨ c = 49) (k : Nat) : numS (s.take k) < 2 ^ k := by
  induction k with
  | zero => simp [numS]
  | succ k ih =>
    by_cases hk : k < s.length
    · rw [List.take_succ_eq_append_getElem hk, numS_snoc]
      have : s[k].toNat - 48 ≤ 1 := by rcases h _ (List.getElem_mem hk) with e | e <;> rw [e] <;> decide
      rw [Nat.pow_succ]; omega
    · rw [List.take_of_length_le (by omega)]
      rw [List.take_of_length_le (by omega)] at ih
      rw [Nat.pow_succ]; omega
theorem below_bytes (w : World) (e : TypeId) (t : ByteArray) : Below w.heap.size w (Lib.bytesWorld w e t) :=
  have h := ((Below.refl w.heap.size w).drew.alloc (B := w.heap.size) (by simp) (.cells (Lib.bytesCells w e t) e))
  ⟨h.os, h.tape, h.output, by rw [Lib.bytesWorld_size]; omega, fun b hb => Lib.bytesWorld_at_old w e t b hb⟩
theorem numS_step (s : List UInt8) (j : Nat) (hj : j < s.length) (c : Nat) (hc : (s.getD j 0).toNat = 48 + c) : numS (s.take (j + 1)) = 2 * numS (s.take j) + c := by
  rw [List.take_succ_eq_append_getElem hj, numS_snoc]
  have h2 : s.getD j 0 = s[j] := by simp [List.getD, hj]
  rw [h2] at hc
  omega
set_option maxRecDepth 100000 in
set_option maxHeartbeats 4000000 in
theorem parse_uint (s : List UInt8) (hs : ∀ c ∈ s, c = 48 ∨ c = 49) (h1 : 1 ≤ s.length) (h2 : s.length ≤ 20) (w : World) : Calls Tryz.prog 200 #[.string (bs s), .int .i64 2, .int .i64 64] w fun e w' => e = .returned (.tuple #[.int .u64 (numS s : Nat), .nilIface]) ∧ Below w.heap.size w w' := by
  have e1 : (s == []) = false := by rw [beq_eq_false_iff_ne]; intro e; rw [e] at h1; simp at h1
  have e2 : s.isEmpty = false := by cases s with
    | nil => simp at h1
    | cons a s => rfl
  have hd : ∀ j, j < s.length → s.getD j 0 = 48 ∨ s.getD j 0 = 49 := fun j hj => by
    have h2 : s.getD j 0 = s[j] := by simp [List.getD, hj]
    rw [h2]; exact hs _ (List.getElem_mem hj)
  have HD := Lib.hid hd
  have hlt : ∀ j, j ≤ s.length → numS (s.take j) < 1048576 := fun j hj => by
    have := numS_lt s hs j
    have h3 : 2 ^ j ≤ 2 ^ 20 := Nat.pow_le_pow_right (by decide) (by omega)
    omega
  have HL := Lib.hid hlt
  have hst := numS_step s
  have HS := Lib.hid hst
  have HE : Hid (numS (s.take s.length) = numS s) := Lib.hid (by rw [List.take_length])
  clear hs hd hlt hst
  have hcv := Lib.run_convert_string_bytes (P := Tryz.prog) w 9 22 5 (bs s) (u := .string) (by kernel_rfl) (by kernel_rfl) (by kernel_rfl)
  have hB : ∀ j, j < s.length → (Lib.bytesWorld w 5 (bs s)).cell? ⟨w.heap.size, j, none⟩ = some (.int .u8 (s.getD j 0).toNat) := fun j hj => by
    rw [Lib.bytesWorld_cell w 5 (bs s) j (by rw [bs_size]; exact hj), bs_toList]
  have HB := Lib.hid hB
  have hbel := below_bytes w 5 (bs s)
  obtain ⟨W1, hW1⟩ : ∃ W1, W1 = Lib.bytesWorld w 5 (bs s) := ⟨_, rfl⟩
  rw [← hW1] at hcv HB hbel
  clear hW1 hB
  generalize numS s = N at HE ⊢
  rw [bs_size] at hcv
  obtain ⟨cp, hcp⟩ : ∃ cp, cp = grownCap w s.length 0 5 := ⟨_, rfl⟩
  rw [← hcp] at hcv
  clear hcp
  have hmv : IntKind.u64.wrap (IntKind.u64.wrap 18446744073709551616 - 1) = 18446744073709551615 := by kernel_rfl
  go_enter Tryz.func200, Tryz.ntmps200
  go_wp2_with fail
  go_loop [12, 13, 101] (fun vu vn vi => ∃ (j q : Nat) (a : Int), vu = .bool false ∧ vn = .int .u64 a ∧ vi = .int .i64 (j : Int) ∧ j ≤ s.length ∧ Hid (q = numS (s.take j) ∧ a = (q : Int)))
    (fun _ _ vi => s.length - (Go.RowKit.intOf vi).toNat)
  case atStart => exact ⟨0, 0, 0, rfl, rfl, rfl, by omega, Lib.hid ⟨rfl, rfl⟩⟩
  case round =>
    obtain ⟨j, q, a, rfl, rfl, rfl, hj, Hq⟩ := hrel
    obtain ⟨ha0, ha1⟩ : 0 ≤ a ∧ a < 1048576 := by
      have := HL.out j hj
      rw [← Hq.out.1] at this
      rw [Hq.out.2]
      omega
    by_cases hlt : j < s.length
    · have hc := HB.out j hlt
      rcases HD.out j hlt with hz | hz
      · rw [hz] at hc
        have Hn := Lib.hid (HS.out j hlt 0 (by rw [hz]; rfl))
        clear hz
        go_wp2
        exact ⟨⟨j + 1, 2 * q + 0, a * 2, rfl, by congr 1, by congr 1, by omega, Lib.hid ⟨by rw [Hn.out, ← Hq.out.1], by have := Hq.out.2; omega⟩⟩, by simp [Go.RowKit.intOf]; omega⟩
      · rw [hz] at hc
        have Hn := Lib.hid (HS.out j hlt 1 (by rw [hz]; rfl))
        clear hz
        go_wp2
        exact ⟨⟨j + 1, 2 * q + 1, a * 2 + 1, rfl, by congr 1, by congr 1, by omega, Lib.hid ⟨by rw [Hn.out, ← Hq.out.1], by have := Hq.out.2; omega⟩⟩, by simp [Go.RowKit.intOf]; omega⟩
    · obtain rfl : j = s.length := by omega
      obtain ⟨hq1, hq2⟩ := Hq.out
      rw [HE.out] at hq1
      clear Hq
      subst hq1
      go_wp2
      go_ret2
      exact ⟨rfl, hbel⟩
set_option maxRecDepth 100000 in
set_option maxHeartbeats 4000000 in
theorem int_ParseInt (s : List UInt8) (hs : ∀ c ∈ s, c = 48 ∨ c = 49) (h1 : 1 ≤ s.length) (h2 : s.length ≤ 20) (w : World) : Calls Tryz.prog 196 #[.string (bs s), .int .i64 2, .int .i64 64] w fun e w' => e = .returned (.tuple #[.int .i64 (numS s : Nat), .nilIface]) ∧ Below w.heap.size w w' := by
  have e1 : (s == []) = false := by rw [beq_eq_false_iff_ne]; intro e; rw [e] at h1; simp at h1
  have e2 : s.isEmpty = false := by cases s with
    | nil => simp at h1
    | cons a s => rfl
  have hd : s[0] = 48 ∨ s[0] = 49 := hs _ (List.getElem_mem h1)
  have hlt : numS s < 1048576 := by
    have := numS_lt s hs s.length
    rw [List.take_length] at this
    have h3 : 2 ^ s.length ≤ 2 ^ 20 := Nat.pow_le_pow_right (by decide) (by omega)
    omega
  have hC := fun w => parse_uint s hs h1 h2 w
  have HC := Lib.hid hC
  clear hs hC
  obtain ⟨a, ha⟩ : ∃ a : Int, a = (numS s : Nat) := ⟨_, rfl⟩
  rw [← ha] at HC ⊢
  have ha0 : 0 ≤ a := by omega
  have ha1 : a < 1048576 := by omega
  clear ha hlt
  go_enter Tryz.func196, Tryz.ntmps196
  rcases hd with hd | hd
  · go_wp2_with (go_at_call 200; refine (HC.out _).mono ?_; rintro e w' ⟨rfl, hb⟩)
    go_ret2
    exact ⟨rfl, hb⟩
  · go_wp2_with (go_at_call 200; refine (HC.out _).mono ?_; rintro e w' ⟨rfl, hb⟩)
    go_ret2
    exact ⟨rfl, hb⟩
set_option maxRecDepth 100000 in
set_option maxHeartbeats 4000000 in
theorem strconv_ParseInt (s : List UInt8) (hs : ∀ c ∈ s, c = 48 ∨ c = 49) (h1 : 1 ≤ s.length) (h2 : s.length ≤ 20) (w : World) : Calls Tryz.prog 189 #[.string (bs s), .int .i64 2, .int .i64 64] w fun e w' => e = .returned (.tuple #[.int .i64 (numS s : Nat), .nilIface]) ∧ Below w.heap.size w w' := by
  have HC := Lib.hid (fun w => int_ParseInt s hs h1 h2 w)
  clear hs
  generalize numS s = n at *
  go_enter Tryz.func189, Tryz.ntmps189
  go_wp2_with (go_at_call 196; refine (HC.out _).mono ?_; rintro e w' ⟨rfl, hb⟩)
  go_ret2
  exact ⟨rfl, hb⟩
set_option maxRecDepth 100000 in
set_option maxHeartbeats 4000000 in
theorem coeff_number (s : List UInt8) (hs : ∀ c ∈ s, c = 48 ∨ c = 49) (h1 : 1 ≤ s.length) (h2 : s.length ≤ 20) (w : World) : Calls Tryz.prog 179 #[.string (bs s)] w fun e w' => e = .returned (.int .i64 (numS s : Nat)) ∧ Below w.heap.size w w' := by
  have HC := Lib.hid (fun w => strconv_ParseInt s hs h1 h2 w)
  clear hs
  generalize numS s = n at *
  go_enter Tryz.func179, Tryz.ntmps179
  go_wp2_with (go_at_call 189; refine (HC.out _).mono ?_; rintro e w' ⟨rfl, hb⟩)
  go_ret
  exact ⟨rfl, hb⟩
end Go.Proofs.YtcojnigkgbmbmaaGreatDoor
namespace Go.Proofs.YtcojnigkgbmbmaaGreatDoor
open Go Go.RowKit
/-- all cells of A that lie at B or behind are in W as they were. -/
structure KeepC (B : Nat) (A W : World) : Prop where
  keep : ∀ (k : Nat) (o : Obj), B ≤ k → A.heap[k]? = some o → o.isCells = true → W.heap[k]? = some o
theorem KeepC.refl (B : Nat) (A : World) : KeepC B A A := ⟨fun _ _ _ h _ => h⟩
theorem KeepC.trans {B : Nat} {A W V : World} (h : KeepC B A W) (k : KeepC B W V) : KeepC B A V := ⟨fun i o hi ho hc => k.keep i o hi (h.keep i o hi ho hc) hc⟩
theorem KeepC.set {B : Nat} {A W : World} (h : KeepC B A W) (a : Addr) (ha : a.block < B) (v : Value) : KeepC B A (W.setCell a v) := h.trans ⟨fun k o hk ho _ => (Below.heap_setCell W a v k (by omega)).trans ho⟩
theorem KeepC.below {B : Nat} {A W V : World} (h : KeepC B A W) (hb : Below W.heap.size W V) : KeepC B A V := h.trans ⟨fun k o _ ho _ => (hb.block k (Array.getElem?_eq_some_iff.1 ho).1).trans ho⟩
theorem KeepC.alloc {B : Nat} {A W : World} (h : KeepC B A W) (o : Obj) : KeepC B A (W.alloc o) := h.below ((Below.refl _ _).alloc (Nat.le_refl _) _)
theorem KeepC.drew {B : Nat} {A W : World} (h : KeepC B A W) : KeepC B A W.drew := h.trans ⟨fun _ _ _ h _ => h⟩
theorem KeepC.put {B : Nat} {A W : World} (h : KeepC B A W) (D : Nat) (hD : D < B) (o : Obj) : KeepC B A (W.putObj D o) := h.trans ⟨fun k o hk ho _ => (World.putObj_heap_other (by omega)).trans ho⟩
/-- a store into a block that is new, ahead of which nothing was kept. -/
theorem KeepC.setNew {B : Nat} {A W : World} (h : KeepC B A W) (a : Addr) (ha : A.heap.size ≤ a.block) (v : Value) : KeepC B A (W.setCell a v) :=
  ⟨fun k o hk ho hc => (Below.heap_setCell W a v k (fun e => by have := (Array.getElem?_eq_some_iff.1 ho).1; omega)).trans (h.keep k o hk ho hc)⟩
theorem KeepC.grown {B : Nat} {A W V : World} {row : Option Nat} (h : KeepC B A W) (hg : W.grownBy V row) (hr : ∀ r, row = some r → r < B) : KeepC B A V :=
  h.trans ⟨fun k o hk ho _ => (hg.block k (Array.getElem?_eq_some_iff.1 ho).1 (fun e => by have := hr k e.symm; omega)).trans ho⟩
theorem KeepC.blk {B g : Nat} {A W : World} {t : TypeId} {cs : Array Value} (h : KeepC B A W) (hb : Blk A g t cs) (hg : B ≤ g) : Blk W g t cs := h.keep g _ hg hb rfl
/-- the iterator's contract, where the body keeps the cells behind the iterator's start. -/
def SeqG {α : Type} (F : Fence) (n : Nat) (P : Program) (g : Nat) (lb : Array Value) (enc : α → Array Value) (I I2 : List α → World → Prop) (S Sp : List α → Prop) : Prop :=
  ∀ (l : Nat) (K : World → Prop) (Jx : List α → World → Prop) (W : World), KStay K →
    (∀ pre x W1, I pre W1 → K W1 → Sp (pre ++ [x]) → YieldAt F (n - 1) P l (enc x) W1 fun e W' => (e = .returned (.bool true) ∧ I2 (pre ++ [x]) W' ∧ K W' ∧ KeepC W.heap.size W1 W') ∨ (e = .returned (.bool false) ∧ Jx (pre ++ [x]) W')) →
    I [] W → K W → CallsIn F n P g (#[.func (.yield l) #[] #[]] ++ lb) W fun e W' => (∃ v, e = .returned v) ∧ ((∃ xs, S xs ∧ I xs W' ∧ K W') ∨ (∃ pre, Sp pre ∧ Jx pre W'))
theorem wp_g {α : Type} {F : Fence} {n : Nat} {P : Program} {g : Operand} {ps : Array Tmp} {assign body : Code} {Q : Exit → Act → World → Prop} {a : Act} {w : World}
    (hro : F.round = none) (h1 : 1 ≤ n) {gf : Nat} {lb : Array Value} (hg : a.eval g = .func (.func gf) #[] lb) (hFg : F.fn gf) (eg : ∀ args w, (callFunc gf args).run P w = .ok (.enter gf args) w)
    {enc : α → Array Value} {I I2 : List α → World → Prop} {S Sp : List α → Prop} (hseq : SeqG F (n - 1) P gf lb enc I I2 S Sp) (hps : ∀ x, (enc x).size = ps.size)
    (Ix : Code → List α → World → Prop) (J : List α → α → Act → World → Prop) (hI : OwnFrom w.heap.size I) (hI2 : OwnFrom w.heap.size I2) (hIx : ∀ c, OwnFrom w.heap.size (Ix c)) (hJ : ∀ x a', OwnFrom w.heap.size (fun pre W => J pre x a' W)) (h0 : I [] w)
    (hassign : ∀ (l : Nat) (pre : List α) (x : α) (W : World), I pre W → Sp (pre ++ [x]) → assign.wpIn (F.inRound l) (n - 1 - 1) P (Exit.then (fun a' W' => J pre x a' W' ∧ KeepsFrom w.heap.size W W' ∧ KeepC (w.heap.size + 2) W W') (fun _ _ _ => False)) { tmps := (ps.zip (enc x)).foldl (fun t (p, v) => t.setIfInBounds p v) a.tmps, defers := [] } W)
    (hbody : ∀ (l : Nat) (pre : List α) (x : α) (a' : Act) (W : World), J pre x a' W → Sp (pre ++ [x]) → body.wpIn (F.inRound l) (n - 1 - 1) P (ownPostG w.heap.size (KeepC (w.heap.size + 2)) I2 Ix (pre ++ [x]) W) a' W)
    (hdone : ∀ (D : Nat) (xs : List α) (W : World), w.heap.size ≤ D → S xs → I xs W → W.heap[D]? = some (.deferred (some [])) → Q .normal { a with defers := { target := .collected D, args := #[] } :: a.defers } W)
    (hstop : ∀ (D : Nat) (c : Code) (pre : List α) (W : World), w.heap.size ≤ D → Sp pre → Ix c pre W → W.heap[D]? = some (.deferred (some [])) → c.wpIn F n P Q { a with defers := { target := .collected D, args := #[] } :: a.defers } W) :
    (Code.rangeFunc g ps assign body).wpIn F n P Q a w := by
  refine wpIn_rangeFunc fun fn hfn => ?_
  rw [hro]
  -- the loop's record, in its states
  let rec' : LoopState → Option Code → Loop := fun st pe => { state := st, pending := pe, fn, tmps := a.tmps, params := ps, assign, body, defers := w.heap.size }
  let W1 : World := (w.alloc (.deferred (some []))).alloc (.loop (rec' .ready none))
  have hsz1 : W1.heap.size = w.heap.size + 2 := by show ((w.alloc _).alloc _).heap.size = _; simp
  have hL : W1.heap[w.heap.size + 1]? = some (.loop (rec' .ready none)) := by
    have := World.alloc_heap_new (w.alloc (.deferred (some []))) (.loop (rec' .ready none)); rwa [World.size_alloc] at this
  have hD : W1.heap[w.heap.size]? = some (.deferred (some [])) := (Below.heap_alloc _ _ _ (by simp)).trans (World.alloc_heap_new w _)
  refine ⟨w.heap.size + 1, [{ target := .collected w.heap.size, args := #[] }], W1, { target := .fn (.func gf) lb, args := #[.func (.yield (w.heap.size + 1)) #[] #[]] }, W1, gf,
    #[.func (.yield (w.heap.size + 1)) #[] #[]] ++ lb, W1, run_enterLoop_outer _ _ _ _ _, ?_, ?_, ?_, fun _ => h1, ?_⟩
  · simp only [resolve, hg]; simp [go_sem]
  · intro f' hf'; simp [Target.leads] at hf'; subst hf'; exact hFg
  · simp [invoke, go_sem, eg]
  have hput : ∀ {s : List α} {J : List α → World → Prop} {W : World} {r : Loop} (o : Obj), OwnFrom w.heap.size J → J s W → W.heap[w.heap.size + 1]? = some (.loop r) → J s (W.putObj (w.heap.size + 1) o) :=
    fun o hJ hs hl => hJ.putObj _ hs (Nat.le_succ _) hl rfl
  have hother : ∀ (W : World) (o : Obj), (W.putObj (w.heap.size + 1) o).heap[w.heap.size]? = W.heap[w.heap.size]? := fun W o => World.putObj_heap_other (Nat.ne_of_lt (Nat.lt_succ_self _))
  refine (hseq (w.heap.size + 1)
    (fun W => W.heap[w.heap.size + 1]? = some (.loop (rec' .ready none)) ∧ W.heap[w.heap.size]? = some (.deferred (some [])))
    (fun pre W => ∃ c, Ix c pre W ∧ W.heap[w.heap.size + 1]? = some (.loop (rec' .done (some c))) ∧ W.heap[w.heap.size]? = some (.deferred (some [])))
    W1 (fun A B hK hkeep => ⟨hkeep _ _ hK.1 rfl, hkeep _ _ hK.2 rfl⟩) ?_ (hI.alloc _ (hI.alloc _ h0)) ⟨hL, hD⟩).mono ?_
  · rintro pre x W hi ⟨hl, hk⟩ hsp
    refine ⟨fn, _, assign, body, run_yield (P := P) (args := enc x) hl (hps x), roundIn_of_wpIn hfn (wpIn_mono (hassign _ pre x W hi hsp) ?_)⟩
    rintro e a' W' he
    cases e with
    | normal => ?_
    | _ => exact he.elim
    obtain ⟨hj, hkf, hkc⟩ := he
    have hl' := hkf.same _ _ (Nat.le_succ _) hl rfl
    have hk' := hkf.same _ _ (Nat.le_refl _) hk rfl
    refine ⟨_, run_beginRound hl' rfl, ?_⟩
    have hlt : w.heap.size + 1 < W'.heap.size := (Array.getElem?_eq_some_iff.1 hl').1
    have hl2 : (W'.putObj (w.heap.size + 1) (.loop { rec' .ready none with state := .busy })).heap[w.heap.size + 1]? = some (.loop { rec' .ready none with state := .busy }) := World.putObj_heap_same hlt
    have hk2 := (hother W' (.loop { rec' .ready none with state := .busy })).trans hk'
    refine wpIn_mono (hbody _ pre x _ _ (hput (J := fun pre W => J pre x a' W) _ (hJ x a') hj hl') hsp) ?_
    have fin : ∀ (jump : Option Code) (W3 : World), KeepsFrom w.heap.size (W'.putObj (w.heap.size + 1) (.loop { rec' .ready none with state := .busy })) W3 →
        ∃ st, st = (if jump.isNone then LoopState.ready else .done) ∧ (Instr.endRound (w.heap.size + 1) jump).run P W3 = .ok (.bool jump.isNone) (W3.putObj (w.heap.size + 1) (.loop (rec' st jump))) ∧
        W3.heap[w.heap.size + 1]? = some (.loop { rec' .ready none with state := .busy }) ∧
        (W3.putObj (w.heap.size + 1) (.loop (rec' st jump))).heap[w.heap.size + 1]? = some (.loop (rec' st jump)) ∧
        (W3.putObj (w.heap.size + 1) (.loop (rec' st jump))).heap[w.heap.size]? = some (.deferred (some [])) := fun jump W3 hk3 => by
      have hl3 := hk3.same _ _ (Nat.le_succ _) hl2 rfl
      exact ⟨_, rfl, run_endRound (P := P) jump hl3, hl3, World.putObj_heap_same (Array.getElem?_eq_some_iff.1 hl3).1, (hother W3 _).trans (hk3.same _ _ (Nat.le_refl _) hk2 rfl)⟩
    have left : ∀ (c : Code) (W3 : World), KeepsFrom w.heap.size (W'.putObj (w.heap.size + 1) (.loop { rec' .ready none with state := .busy })) W3 → Ix c (pre ++ [x]) W3 →
        ∃ v w', (Instr.endRound (w.heap.size + 1) (some c)).run P W3 = .ok v w' ∧ ((Ending.returned v = .returned (.bool true) ∧ I2 (pre ++ [x]) w' ∧ (w'.heap[w.heap.size + 1]? = some (.loop (rec' .ready none)) ∧ w'.heap[w.heap.size]? = some (.deferred (some []))) ∧ KeepC W1.heap.size W w') ∨
          (Ending.returned v = .returned (.bool false) ∧ ∃ c, Ix c (pre ++ [x]) w' ∧ w'.heap[w.heap.size + 1]? = some (.loop (rec' .done (some c))) ∧ w'.heap[w.heap.size]? = some (.deferred (some [])))) := fun c W3 hk3 hx3 => by
      obtain ⟨st, rfl, hr, hl3, hl4, hk4⟩ := fin (some c) W3 hk3
      exact ⟨_, _, hr, .inr ⟨rfl, c, hput _ (hIx c) hx3 hl3, hl4, hk4⟩⟩
    rintro e a3 W3 hp
    cases e with
    | normal =>
      obtain ⟨hk3, hkp3, hi3⟩ := hp
      obtain ⟨st, rfl, hr, hl3, hl4, hk4⟩ := fin none W3 hk3
      exact ⟨_, _, hr, .inl ⟨rfl, hput _ hI2 hi3 hl3, ⟨hl4, hk4⟩, by rw [hsz1]; exact (((hkc.put (w.heap.size + 1) (by omega) _).trans hkp3).put (w.heap.size + 1) (by omega) _)⟩⟩
    | ret => exact left .ret W3 hp.1 hp.2
    | exit id => exact left (.exit id) W3 hp.1 hp.2
    | goto t => exact left (.goto t) W3 hp.1 hp.2
    | panic ch => exact hp.elim
    | outgrown => exact hp.elim
  · rintro e W2 ⟨⟨v, rfl⟩, (⟨xs, hS, hi, hl, hk⟩ | ⟨pre, hSp, c, hi, hl, hk⟩)⟩
    · exact ⟨none, _, run_endLoop (P := P) hl (by simp [rec']), hdone _ xs _ (Nat.le_refl _) hS (hput _ hI hi hl) ((hother _ _).trans hk)⟩
    · exact ⟨some c, _, run_endLoop (P := P) hl (by simp [rec']), hstop _ c pre _ (Nat.le_refl _) hSp (hput _ (hIx c) hi hl) ((hother _ _).trans hk)⟩
/-- the same, where the frame behind the assignment is found by the proof. -/
theorem wp_gF {α : Type} {F : Fence} {n : Nat} {P : Program} {g : Operand} {ps : Array Tmp} {assign body : Code} {Q : Exit → Act → World → Prop} {a : Act} {w : World}
    (hro : F.round = none) (h1 : 1 ≤ n) {gf : Nat} {lb : Array Value} (hg : a.eval g = .func (.func gf) #[] lb) (hFg : F.fn gf) (eg : ∀ args w, (callFunc gf args).run P w = .ok (.enter gf args) w)
    {enc : α → Array Value} {I I2 : List α → World → Prop} {S Sp : List α → Prop} (hseq : SeqG F (n - 1) P gf lb enc I I2 S Sp) (hps : ∀ x, (enc x).size = ps.size)
    (Ix : Code → List α → World → Prop) (J : List α → α → Nat → World → Prop) (hI : OwnFrom w.heap.size I) (hI2 : OwnFrom w.heap.size I2) (hIx : ∀ c, OwnFrom w.heap.size (Ix c)) (hJ : ∀ x k, OwnFrom w.heap.size (fun pre W => J pre x k W)) (h0 : I [] w)
    (hround : ∃ A : α → Nat → Act,
      (∀ (l : Nat) (pre : List α) (x : α) (W : World), I pre W → Sp (pre ++ [x]) → assign.wpIn (F.inRound l) (n - 1 - 1) P (Exit.then (fun a' W' => (∃ k, a' = A x k ∧ J pre x k W') ∧ KeepsFrom w.heap.size W W' ∧ KeepC (w.heap.size + 2) W W') (fun _ _ _ => False)) { tmps := (ps.zip (enc x)).foldl (fun t (p, v) => t.setIfInBounds p v) a.tmps, defers := [] } W) ∧
      (∀ (l : Nat) (pre : List α) (x : α) (k : Nat) (W : World), J pre x k W → Sp (pre ++ [x]) → body.wpIn (F.inRound l) (n - 1 - 1) P (ownPostG w.heap.size (KeepC (w.heap.size + 2)) I2 Ix (pre ++ [x]) W) (A x k) W))
    (hdone : ∀ (D : Nat) (xs : List α) (W : World), w.heap.size ≤ D → S xs → I xs W → W.heap[D]? = some (.deferred (some [])) → Q .normal { a with defers := { target := .collected D, args := #[] } :: a.defers } W)
    (hstop : ∀ (D : Nat) (c : Code) (pre : List α) (W : World), w.heap.size ≤ D → Sp pre → Ix c pre W → W.heap[D]? = some (.deferred (some [])) → c.wpIn F n P Q { a with defers := { target := .collected D, args := #[] } :: a.defers } W) :
    (Code.rangeFunc g ps assign body).wpIn F n P Q a w := by
  obtain ⟨A, ha, hb⟩ := hround
  refine wp_g hro h1 hg hFg eg hseq hps Ix (fun pre x a' W => ∃ k, a' = A x k ∧ J pre x k W) hI hI2 hIx (fun x a' s W W' row hs hgr hr => ?_) h0 ha (fun l pre x a' W hj hsp => ?_) hdone hstop
  · obtain ⟨k, e, hj⟩ := hs
    exact ⟨k, e, hJ x k s W W' row hj hgr hr⟩
  · obtain ⟨k, rfl, hj⟩ := hj
    exact hb l pre x k W hj hsp
end Go.Proofs.YtcojnigkgbmbmaaGreatDoor
namespace Go.Proofs.YtcojnigkgbmbmaaGreatDoor
open Go Go.RowKit
attribute [local go_sem] Oper.semAt_some
def rowsA : Array Value := #[.string ⟨#[49, 49, 32, 48, 49, 48, 48, 32, 48, 48, 49, 48, 49, 32, 48, 48, 48, 48, 49, 49, 48, 32, 48, 48, 49, 48, 48, 49, 49, 48, 32, 48, 48, 49, 48, 48, 48, 48, 49, 32, 48, 48, 48, 48, 48, 48, 49, 48, 49, 48, 32, 48, 48, 48, 48, 48, 48, 48, 49, 49, 49, 48, 49, 32, 48, 48, 48, 48, 48, 48, 48, 49, 49, 48, 48, 48, 32, 48, 48, 48, 48, 48, 48, 48, 49, 48, 48, 49, 49, 32, 48, 48, 48, 48, 48, 48, 48, 49, 48, 48, 48, 48, 32, 48, 48, 48, 48, 48, 48, 48, 48, 49, 49, 48, 49, 48, 32, 48, 48, 48, 48, 48, 48, 48, 48, 49, 49, 48, 48, 49, 32, 48, 48, 48, 48, 48, 48, 48, 48, 49, 49, 48, 48, 48, 32, 48, 48, 48, 48, 48, 48, 48, 48, 49, 48, 49, 49, 49]⟩, .string ⟨#[48, 49, 49, 32, 48, 48, 48, 49, 49, 48, 32, 48, 48, 49, 48, 48, 49, 48, 49, 32, 48, 48, 48, 48, 48, 48, 49, 49, 48, 48, 32, 48, 48, 48, 48, 48, 48, 48, 49, 49, 48, 49, 49, 32, 48, 48, 48, 48, 48, 48, 48, 48, 49, 48, 49, 49, 48, 32, 48, 48, 48, 48, 48, 48, 48, 48, 49, 48, 49, 48, 49]⟩, .string ⟨#[48, 49, 48, 49, 32, 48, 48, 48, 48, 49, 48, 48, 32, 48, 48, 48, 48, 48, 48, 49, 48, 49, 49, 32, 48, 48, 48, 48, 48, 48, 48, 49, 48, 49, 48, 48, 32, 48, 48, 48, 48, 48, 48, 48, 48, 49, 48, 49, 48, 48]⟩, .string ⟨#[48, 48, 49, 49, 49, 32, 48, 48, 49, 48, 48, 49, 48, 48, 32, 48, 48, 48, 48, 48, 48, 48, 49, 49, 49, 48, 48, 32, 48, 48, 48, 48, 48, 48, 48, 48, 49, 48, 48, 49, 49]⟩, .string ⟨#[48, 48, 49, 49, 48, 32, 48, 48, 48, 48, 48, 48, 49, 49, 49, 49, 32, 48, 48, 48, 48, 48, 48, 48, 49, 48, 48, 49, 48]⟩, .string ⟨#[48, 48, 48, 49, 49, 49, 32, 48, 48, 48, 48, 48, 48, 49, 48, 48, 49, 32, 48, 48, 48, 48, 48, 48, 48, 48, 49, 48, 48, 49, 48]⟩, .string ⟨#[48, 48, 48, 49, 48, 49, 32, 48, 48, 48, 48, 48, 48, 48, 49, 49, 49, 49, 48]⟩, .string ⟨#[48, 48, 48, 49, 48, 48, 32, 48, 48, 48, 48, 48, 48, 48, 49, 48, 49, 48, 49]⟩, .string ⟨#[48, 48, 48, 48, 49, 49, 49, 32, 48, 48, 48, 48, 48, 48, 48, 49, 48, 48, 48, 49]⟩, .string ⟨#[48, 48, 48, 48, 49, 48, 49, 32, 48, 48, 48, 48, 48, 48, 48, 48, 49, 48, 48, 48, 49]⟩, .string ⟨#[48, 48, 49, 48, 48, 49, 49, 49, 32, 48, 48, 48, 48, 48, 48, 48, 48, 49, 48, 48, 48, 48]⟩, .string ⟨#[48, 48, 49, 48, 48, 48, 49, 49]⟩, .string ⟨#[48, 48, 49, 48, 48, 48, 49, 48]⟩, .string ⟨#[48, 48, 49, 48, 48, 48, 48, 48]⟩, .string ⟨#[48, 48, 48, 48, 48, 48, 49, 49, 49, 48]⟩, .string ⟨#[48, 48, 48, 48, 48, 48, 49, 49, 48, 49]⟩, .string ⟨#[48, 48, 48, 48, 48, 48, 49, 48, 48, 48]⟩, .string ⟨#[48, 48, 48, 48, 48, 48, 48, 49, 49, 49, 49, 49]⟩, .string ⟨#[48, 48, 48, 48, 48, 48, 48, 49, 49, 48, 49, 48]⟩, .string ⟨#[48, 48, 48, 48, 48, 48, 48, 49, 49, 48, 48, 49]⟩, .string ⟨#[48, 48, 48, 48, 48, 48, 48, 49, 48, 49, 49, 49]⟩, .string ⟨#[48, 48, 48, 48, 48, 48, 48, 49, 48, 49, 49, 48]⟩, .string ⟨#[48, 48, 48, 48, 48, 48, 48, 48, 49, 49, 49, 49, 49]⟩, .string ⟨#[48, 48, 48, 48, 48, 48, 48, 48, 49, 49, 49, 49, 48]⟩, .string ⟨#[48, 48, 48, 48, 48, 48, 48, 48, 49, 49, 49, 48, 49]⟩, .string ⟨#[48, 48, 48, 48, 48, 48, 48, 48, 49, 49, 49, 48, 48]⟩, .string ⟨#[48, 48, 48, 48, 48, 48, 48, 48, 49, 49, 48, 49, 49]⟩]
theorem rowsA_eq : rowsA = (rowL.map strV).toArray := by kernel_rfl
theorem rowL_len : rowL.length = 27 := by kernel_rfl
set_option maxRecDepth 100000 in
theorem coeff_rows (w : World) : Calls Tryz.prog 172 #[] w fun e w' => e = .returned (.slice (some ⟨w.heap.size, 0, none⟩) 27 27) ∧ w.alloc (.cells rowsA 9) = w' := by
  go_enter Tryz.func172, Tryz.ntmps172
  go_wp2
  go_ret
  exact ⟨rfl, rfl⟩
theorem coeff_table (first : Bool) (w : World) : Calls Tryz.prog 158 #[.bool first] w fun e w' => e = .returned (.func (.func 171) #[] #[.pointer (some ⟨w.heap.size, 0, none⟩)]) ∧ w.alloc (.cells #[.bool first] 4) = w' := by
  go_enter Tryz.func158, Tryz.ntmps158
  go_wp2
  go_ret
  exact ⟨rfl, rfl⟩
def encT (x : (Int × Int) × List UInt8) : Array Value := #[.agg #[.int .i64 x.1.1, .int .i64 x.1.2], .string (bs x.2)]
theorem row_ascii : ∀ r ∈ rowL, ∀ c ∈ r, c.toNat < 128 := by decide +kernel
theorem row_small : ∀ r ∈ rowL, r.length ≤ 1000 := by decide +kernel
theorem row_fields : ∀ r ∈ rowL, (Lib.fields r).length ≤ 100 := by decide +kernel
def codT (first : Bool) (r i : Nat) (c : List UInt8) : List UInt8 := if first && r == 0 && i == 0 then [49] else c
theorem tabRow_cons (first : Bool) (r i : Nat) (c : List UInt8) (cs : List (List UInt8)) : tabRow first r i (c :: cs) = ((((r : Int), (i : Int) + 1), codT first r i c)) :: tabRow first r (i + 1) cs := rfl
theorem tabRows_cons (first : Bool) (r : Nat) (x : List UInt8) (xs : List (List UInt8)) : tabRows first r (x :: xs) = tabRow first r 0 (Lib.fields x) ++ tabRows first (r + 1) xs := rfl
def ixT : Value → Int
  | .int _ n => n
  | _ => 0
set_option maxRecDepth 100000 in
set_option maxHeartbeats 4000000 in
theorem table_seq (n : Nat) (hn : 1 ≤ n) (b : Nat) (first : Bool) (I : List ((Int × Int) × List UInt8) → World → Prop) (hI : ∀ pre A B, I pre A → Below A.heap.size A B → I pre B) (hIs : ∀ pre W, I pre W → Blk W b 4 #[.bool first] ∧ Ts W) :
    SeqG Fence.wide n Tryz.prog 171 #[.pointer (some ⟨b, 0, none⟩)] encT I I (fun xs => xs = tabL first) (fun pre => pre <+: tabL first) := by
  intro lp K Jx W hK hY h0 hk0
  refine callsIn_of_wp Tryz.func171 rfl trivial ?_ rfl
  simp only [Tryz.ntmps171, List.size_toArray, List.length_cons, List.length_nil, Nat.reduceAdd, Nat.reduceSub, Array.replicate_succ, Array.replicate_zero, List.push_toArray, List.append_toArray, List.nil_append, List.cons_append]
  have HY := Lib.hid hY; have HI := Lib.hid hI; have HIs := Lib.hid hIs; have HK := Lib.hid hK; have H0 := Lib.hid h0; have HK0 := Lib.hid hk0
  clear hY hI hIs hK h0 hk0
  obtain ⟨RA, hra⟩ : ∃ RA, RA = rowsA := ⟨_, rfl⟩
  have CR := Lib.hid (fun W => coeff_rows W)
  rw [← hra] at CR
  have HRA := Lib.hid (hra.trans rowsA_eq)
  clear hra
  obtain ⟨TL, htl⟩ : ∃ TL, TL = tabL first := ⟨_, rfl⟩
  have HTL := Lib.hid htl
  rw [← htl] at HY
  rw [← htl]
  clear htl
  gi_wp2_with (refine ⟨trivial, ?_⟩; gi_at_call 172; refine (callsIn_wide.2 (CR.out _)).mono ?_; rintro e w1 ⟨rfl, rfl⟩)
  gi_loopw [9] (fun v9 wr => ∃ (r : Nat) (pre : List ((Int × Int) × List UInt8)), v9 = .int .i64 (r : Int) ∧ r ≤ 27 ∧ Hid (TL = pre ++ tabRows first r (rowL.drop r)) ∧ Hid (I pre wr) ∧ Hid (K wr) ∧ Hid (Blk wr W.heap.size 9 RA)) (fun v9 _ => 27 - (ixT v9).toNat)
  case atStart =>
    refine ⟨0, [], rfl, by omega, Lib.hid (by rw [HTL.out]; rfl), Lib.hid (HI.out _ _ _ H0.out ((Below.refl _ _).alloc (Nat.le_refl _) _)), Lib.hid (HK.out.below HK0.out ((Below.refl _ _).alloc (Nat.le_refl _) _)), Lib.hid (Blk.new _ _ _)⟩
  case round =>
    obtain ⟨r, pre0, rfl, hr, HD, HI0, HK1, HB⟩ := hrel
    by_cases hrl : r < 27
    · have hrli : (r : Int) < 27 := by omega
      have hr0 : ¬ ((r : Int) < 0) := by omega
      have hrow : r < rowL.length := by rw [rowL_len]; exact hrl
      obtain ⟨x, hx⟩ : ∃ x, rowL[r] = x := ⟨_, rfl⟩
      have hmem : x ∈ rowL := by rw [← hx]; exact List.getElem_mem hrow
      have hc : wr.cell? ⟨W.heap.size, r, none⟩ = some (.string (bs x)) := by
        rw [HB.out.cell, HRA.out, List.getElem?_toArray, List.getElem?_map, List.getElem?_eq_getElem hrow, hx]; rfl
      have HF0 := Lib.hid (show TL = pre0 ++ (tabRow first r 0 ((Lib.fields x).drop 0) ++ tabRows first (r + 1) (rowL.drop (r + 1))) by
        rw [HD.out, List.drop_eq_getElem_cons hrow, hx, tabRows_cons]; rfl)
      obtain ⟨hb, ht⟩ := HIs.out _ _ HI0.out
      have CF := Lib.hid (Tryz.strings_Fields (bs x) wr (by rw [bs_size]; have := row_small x hmem; omega) (fun j c h => row_ascii x hmem c (by rw [bs_toList] at h; exact List.mem_of_getElem? h)) ht)
      rw [bs_toList] at CF
      have hfl := row_fields x hmem
      generalize Lib.fields x = fs at HF0 CF hfl
      have HFL := Lib.hid hfl
      clear hb ht hfl hmem hx
      obtain ⟨F0, hF0⟩ : ∃ F0, F0 = wr.heap.size := ⟨_, rfl⟩
      have HF0L := Lib.hid (show W.heap.size ≤ F0 by have := HB.out.lt; omega)
      rw [← hF0] at CF
      have hbl : Below wr.heap.size wr (wr.alloc (.cells ((fs.map fun l => Value.string ⟨l.toArray⟩).toArray) 9)) := (Below.refl _ _).alloc (Nat.le_refl _) _
      have HI1 := Lib.hid (HI.out _ _ _ HI0.out hbl)
      have HK2 := Lib.hid (HK.out.below HK1.out hbl)
      have HB2 := Lib.hid (HB.out.below hbl HB.out.lt)
      have HFS := Lib.hid (blkAt (Blk.new wr 9 ((fs.map fun l => Value.string ⟨l.toArray⟩).toArray)) hF0.symm)
      clear hbl hF0
      gi_wp2_with (refine ⟨trivial, ?_⟩; gi_at_call 173; refine (callsIn_wide.2 CF.out).mono ?_; rintro e w2 ⟨rfl, rfl⟩)
      generalize wr.alloc (.cells ((fs.map fun l => Value.string ⟨l.toArray⟩).toArray) 9) = wo at HI1 HK2 HB2 HFS ⊢
      clear CF HB HI0 HK1 HD hc
      gi_loopw [17] (fun v17 wr => ∃ (i : Nat) (pre : List ((Int × Int) × List UInt8)), v17 = .int .i64 (i : Int) ∧ i ≤ fs.length ∧ Hid (TL = pre ++ (tabRow first r i (fs.drop i) ++ tabRows first (r + 1) (rowL.drop (r + 1)))) ∧ Hid (I pre wr) ∧ Hid (K wr) ∧ Hid (Blk wr W.heap.size 9 RA) ∧ Hid (Blk wr F0 9 ((fs.map fun l => Value.string ⟨l.toArray⟩).toArray))) (fun v17 _ => fs.length - (ixT v17).toNat)
      case atStart => exact ⟨0, pre0, rfl, by omega, HF0, HI1, HK2, HB2, HFS⟩
      case round =>
        obtain ⟨i, pre, rfl, hi, HF, HIr, HKr, HBr, HFr⟩ := hrel
        by_cases hlt : i < fs.length
        · have hlti : (i : Int) < (fs.length : Int) := by omega
          have hi0 : ¬ ((i : Int) < 0) := by omega
          have hw1 : IntKind.i64.wrap ((i : Int) + 1) = (i : Int) + 1 := by have := HFL.out; rw [IntKind.wrap_i64]; omega
          obtain ⟨c, hci⟩ : ∃ c, fs[i] = c := ⟨_, rfl⟩
          have hcell : wr.cell? ⟨F0, i, none⟩ = some (.string (bs c)) := by
            rw [HFr.out.cell, List.getElem?_toArray, List.getElem?_map, List.getElem?_eq_getElem hlt, hci]; rfl
          have hb := (HIs.out _ _ HIr.out).1
          have b0 := hb.cell 0
          clear hb
          rcases Bool.eq_false_or_eq_true first with hfst | hfst
          rotate_left 1
          · rw [hfst] at b0

            obtain ⟨cc, hcc⟩ : ∃ cc, codT first r i c = cc := ⟨_, rfl⟩
            have HN := Lib.hid (show TL = pre ++ ((((r : Int), (i : Int) + 1), cc) :: tabRow first r (i + 1) (fs.drop (i + 1)) ++ tabRows first (r + 1) (rowL.drop (r + 1))) by rw [HF.out, List.drop_eq_getElem_cons hlt, hci, tabRow_cons, hcc])
            have hce : cc = c := by rw [← hcc]; unfold codT; rw [hfst]; rfl
            clear hcc
            have hsp : pre ++ [(((r : Int), (i : Int) + 1), cc)] <+: TL := by rw [HN.out]; exact ⟨tabRow first r (i + 1) (fs.drop (i + 1)) ++ tabRows first (r + 1) (rowL.drop (r + 1)), by simp⟩
            obtain ⟨fn, tmps, assign, body, hyy, hR⟩ := HY.out pre (((r : Int), (i : Int) + 1), cc) wr HIr.out HKr.out hsp
            unfold encT at hyy
            dsimp only at hyy
            have HR := Lib.hid hR; have HSP := Lib.hid hsp
            clear hR hsp
            subst hce
            clear hfst
            gi_wp2_with fail
            refine HR.out.mono ?_
            rintro e W3 (⟨rfl, hI3, hk3, hkc3⟩ | ⟨rfl, hJx3⟩)
            · have HI3 := Lib.hid hI3; have HK3 := Lib.hid hk3; have HA3 := Lib.hid (hkc3.blk HBr.out (Nat.le_refl _)); have HF3 := Lib.hid (hkc3.blk HFr.out HF0L.out)
              clear hI3 hk3 hyy hkc3
              gi_wp2_with fail
              refine ⟨⟨i + 1, _, by simp, by omega, Lib.hid ?_, HI3, HK3, HA3, HF3⟩, ?_⟩
              · rw [HN.out]; simp
              · show fs.length - ((i : Int) + 1).toNat < fs.length - (i : Int).toNat
                omega
            · gi_wp2_with fail
              refine bodyPost_ret (results_none rfl _ _ _) rfl ?_
              exact ⟨⟨_, rfl⟩, .inr ⟨_, HSP.out, hJx3⟩⟩
          · rw [hfst] at b0
            by_cases hrz : r = 0
            · by_cases hiz : i = 0
              · have e1 : ((r : Int) == 0) = true := by rw [beq_iff_eq]; omega
                have e2 : ((i : Int) == 0) = true := by rw [beq_iff_eq]; omega

                obtain ⟨cc, hcc⟩ : ∃ cc, codT first r i c = cc := ⟨_, rfl⟩
                have HN := Lib.hid (show TL = pre ++ ((((r : Int), (i : Int) + 1), cc) :: tabRow first r (i + 1) (fs.drop (i + 1)) ++ tabRows first (r + 1) (rowL.drop (r + 1))) by rw [HF.out, List.drop_eq_getElem_cons hlt, hci, tabRow_cons, hcc])
                have hce : cc = [49] := by rw [← hcc]; unfold codT; rw [hfst, hrz, hiz]; rfl
                clear hcc
                have hsp : pre ++ [(((r : Int), (i : Int) + 1), cc)] <+: TL := by rw [HN.out]; exact ⟨tabRow first r (i + 1) (fs.drop (i + 1)) ++ tabRows first (r + 1) (rowL.drop (r + 1)), by simp⟩
                obtain ⟨fn, tmps, assign, body, hyy, hR⟩ := HY.out pre (((r : Int), (i : Int) + 1), cc) wr HIr.out HKr.out hsp
                unfold encT at hyy
                dsimp only at hyy
                rw [hce, show bs [49] = (⟨#[49]⟩ : ByteArray) from rfl] at hyy
                have HR := Lib.hid hR; have HSP := Lib.hid hsp
                clear hR hsp
                subst hce
                clear hfst hrz hiz
                gi_wp2_with fail
                refine HR.out.mono ?_
                rintro e W3 (⟨rfl, hI3, hk3, hkc3⟩ | ⟨rfl, hJx3⟩)
                · have HI3 := Lib.hid hI3; have HK3 := Lib.hid hk3; have HA3 := Lib.hid (hkc3.blk HBr.out (Nat.le_refl _)); have HF3 := Lib.hid (hkc3.blk HFr.out HF0L.out)
                  clear hI3 hk3 hyy hkc3
                  gi_wp2_with fail
                  refine ⟨⟨i + 1, _, by simp, by omega, Lib.hid ?_, HI3, HK3, HA3, HF3⟩, ?_⟩
                  · rw [HN.out]; simp
                  · show fs.length - ((i : Int) + 1).toNat < fs.length - (i : Int).toNat
                    omega
                · gi_wp2_with fail
                  refine bodyPost_ret (results_none rfl _ _ _) rfl ?_
                  exact ⟨⟨_, rfl⟩, .inr ⟨_, HSP.out, hJx3⟩⟩
              · have e1 : ((r : Int) == 0) = true := by rw [beq_iff_eq]; omega
                have e2 : ((i : Int) == 0) = false := by rw [beq_eq_false_iff_ne]; omega

                obtain ⟨cc, hcc⟩ : ∃ cc, codT first r i c = cc := ⟨_, rfl⟩
                have HN := Lib.hid (show TL = pre ++ ((((r : Int), (i : Int) + 1), cc) :: tabRow first r (i + 1) (fs.drop (i + 1)) ++ tabRows first (r + 1) (rowL.drop (r + 1))) by rw [HF.out, List.drop_eq_getElem_cons hlt, hci, tabRow_cons, hcc])
                have hce : cc = c := by rw [← hcc]; unfold codT; rw [hfst, hrz, show (i == 0) = false by simpa using hiz]; rfl
                clear hcc
                have hsp : pre ++ [(((r : Int), (i : Int) + 1), cc)] <+: TL := by rw [HN.out]; exact ⟨tabRow first r (i + 1) (fs.drop (i + 1)) ++ tabRows first (r + 1) (rowL.drop (r + 1)), by simp⟩
                obtain ⟨fn, tmps, assign, body, hyy, hR⟩ := HY.out pre (((r : Int), (i : Int) + 1), cc) wr HIr.out HKr.out hsp
                unfold encT at hyy
                dsimp only at hyy
                have HR := Lib.hid hR; have HSP := Lib.hid hsp
                clear hR hsp
                subst hce
                clear hfst hrz hiz
                gi_wp2_with fail
                refine HR.out.mono ?_
                rintro e W3 (⟨rfl, hI3, hk3, hkc3⟩ | ⟨rfl, hJx3⟩)
                · have HI3 := Lib.hid hI3; have HK3 := Lib.hid hk3; have HA3 := Lib.hid (hkc3.blk HBr.out (Nat.le_refl _)); have HF3 := Lib.hid (hkc3.blk HFr.out HF0L.out)
                  clear hI3 hk3 hyy hkc3
                  gi_wp2_with fail
                  refine ⟨⟨i + 1, _, by simp, by omega, Lib.hid ?_, HI3, HK3, HA3, HF3⟩, ?_⟩
                  · rw [HN.out]; simp
                  · show fs.length - ((i : Int) + 1).toNat < fs.length - (i : Int).toNat
                    omega
                · gi_wp2_with fail
                  refine bodyPost_ret (results_none rfl _ _ _) rfl ?_
                  exact ⟨⟨_, rfl⟩, .inr ⟨_, HSP.out, hJx3⟩⟩
            · have e1 : ((r : Int) == 0) = false := by rw [beq_eq_false_iff_ne]; omega

              obtain ⟨cc, hcc⟩ : ∃ cc, codT first r i c = cc := ⟨_, rfl⟩
              have HN := Lib.hid (show TL = pre ++ ((((r : Int), (i : Int) + 1), cc) :: tabRow first r (i + 1) (fs.drop (i + 1)) ++ tabRows first (r + 1) (rowL.drop (r + 1))) by rw [HF.out, List.drop_eq_getElem_cons hlt, hci, tabRow_cons, hcc])
              have hce : cc = c := by rw [← hcc]; unfold codT; rw [hfst, show (r == 0) = false by simpa using hrz]; rfl
              clear hcc
              have hsp : pre ++ [(((r : Int), (i : Int) + 1), cc)] <+: TL := by rw [HN.out]; exact ⟨tabRow first r (i + 1) (fs.drop (i + 1)) ++ tabRows first (r + 1) (rowL.drop (r + 1)), by simp⟩
              obtain ⟨fn, tmps, assign, body, hyy, hR⟩ := HY.out pre (((r : Int), (i : Int) + 1), cc) wr HIr.out HKr.out hsp
              unfold encT at hyy
              dsimp only at hyy
              have HR := Lib.hid hR; have HSP := Lib.hid hsp
              clear hR hsp
              subst hce
              clear hfst hrz
              gi_wp2_with fail
              refine HR.out.mono ?_
              rintro e W3 (⟨rfl, hI3, hk3, hkc3⟩ | ⟨rfl, hJx3⟩)
              · have HI3 := Lib.hid hI3; have HK3 := Lib.hid hk3; have HA3 := Lib.hid (hkc3.blk HBr.out (Nat.le_refl _)); have HF3 := Lib.hid (hkc3.blk HFr.out HF0L.out)
                clear hI3 hk3 hyy hkc3
                gi_wp2_with fail
                refine ⟨⟨i + 1, _, by simp, by omega, Lib.hid ?_, HI3, HK3, HA3, HF3⟩, ?_⟩
                · rw [HN.out]; simp
                · show fs.length - ((i : Int) + 1).toNat < fs.length - (i : Int).toNat
                  omega
              · gi_wp2_with fail
                refine bodyPost_ret (results_none rfl _ _ _) rfl ?_
                exact ⟨⟨_, rfl⟩, .inr ⟨_, HSP.out, hJx3⟩⟩
        · have hie : i = fs.length := by omega
          subst hie
          have hnl : ¬ ((fs.length : Int) < (fs.length : Int)) := by omega
          gi_wp2_with fail
          refine ⟨⟨r + 1, pre, by simp, by omega, Lib.hid (by have h := HF.out; rw [List.drop_length] at h; exact h), HIr, HKr, HBr⟩, ?_⟩
          show 27 - ((r : Int) + 1).toNat < 27 - (r : Int).toNat
          omega
    · have hre : r = 27 := by omega
      subst hre
      gi_wp2_with fail
      refine bodyPost_end (results_none rfl _ _ _) rfl ?_
      have he : TL = pre0 := by have h := HD.out; rw [show rowL.drop 27 = [] by kernel_rfl] at h; simpa [tabRows] using h
      exact ⟨⟨_, rfl⟩, .inl (by first | exact ⟨_, he.symm, HI0.out, HK1.out⟩ | exact ⟨by rw [he]; exact HI0.out, HK1.out⟩)⟩
end Go.Proofs.YtcojnigkgbmbmaaGreatDoor
