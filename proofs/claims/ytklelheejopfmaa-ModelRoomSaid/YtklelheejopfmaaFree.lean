/- package model: Free: a sum over a map in whatever order. -/
import Derived.Test.YtklelheejopfmaaOver
namespace Go.Proofs.Ytklelheejopfmaa
open Go Go.RowKit Go.Maps
attribute [local go_sem] Oper.semAt_some
/-- the frames of live numbers that are not to come any more -/
def sumF (left : Lit → Bool) : Nat → List Ent → Int
  | _, [] => 0
  | s, x :: L => (if x.1 = 0 ∧ left (keyI ((s : Int) + 1)) = false then x.2.frames else 0) + sumF left (s + 1) L
/-- the frames of all live numbers -/
def allF (L : List Ent) : Int := sumF (fun _ => false) 0 L
theorem sumF_bounds {c : Cfg} {B : Int} (hq : c.quota ≤ 64) (left : Lit → Bool) : ∀ (L : List Ent) (s : Nat), (∀ x ∈ L, KnOk c B x.2) → 0 ≤ sumF left s L ∧ sumF left s L ≤ 64 * L.length
  | [], s, _ => by simp [sumF]
  | x :: L, s, h => by
    have ih := sumF_bounds hq left L (s + 1) (fun y hy => h y (by simp [hy]))
    have hx := h x (by simp)
    have h1 := hx.2.2.2.2.2.2.2.2.1
    have h2 := hx.2.2.2.2.2.2.2.2.2
    rw [sumF, List.length_cons]
    split <;> constructor <;> omega
theorem sumF_congr {l1 l2 : Lit → Bool} : ∀ (L : List Ent) (s : Nat), (∀ i : Nat, i < L.length → l1 (keyI ((s + i : Nat) + 1)) = l2 (keyI ((s + i : Nat) + 1)) ∨ L[i]?.map (·.1) ≠ some 0) → sumF l1 s L = sumF l2 s L
  | [], s, _ => rfl
  | x :: L, s, h => by
    have ih := sumF_congr L (s + 1) (fun i hi => by
      have h1 := h (i + 1) (by simpa using hi)
      rw [List.getElem?_cons_succ] at h1
      have e : s + (i + 1) = s + 1 + i := by omega
      rw [e] at h1
      exact h1)
    have h0 := h 0 (by simp)
    rw [sumF, sumF, ih]
    congr 1
    rw [Nat.add_zero, List.getElem?_cons_zero] at h0
    rcases h0 with h0 | h0
    · rw [h0]
    · have h1 : x.1 ≠ 0 := fun e => h0 (by simp [e])
      rw [if_neg (fun e => h1 e.1), if_neg (fun e => h1 e.1)]
theorem sumF_strike (left : Lit → Bool) : ∀ (L : List Ent) (s i : Nat) (k : Kn), L[i]? = some (0, k) → left (keyI ((s + i : Nat) + 1)) = true →
    sumF (fun z => left z && !z.sameKey (keyI ((s + i : Nat) + 1))) s L = sumF left s L + k.frames
  | [], s, i, k, h, _ => by simp at h
  | x :: L, s, 0, k, h, hl => by
    rw [List.getElem?_cons_zero] at h
    cases h
    rw [sumF, sumF]
    have h1 := sumF_congr (l1 := fun z => left z && !z.sameKey (keyI ((s + 0 : Nat) + 1))) (l2 := left) L (s + 1) (fun i hi => .inl (by
      show (left _ && !(keyI _).sameKey (keyI _)) = _
      rw [sameKey_I]
      have : decide (((s + 1 + i : Nat) : Int) + 1 = ((s + 0 : Nat) : Int) + 1) = false := decide_eq_false (by omega)
      rw [this, Bool.not_false, Bool.and_true]))
    rw [h1]
    rw [Nat.add_zero] at hl ⊢
    have h2 : (left (keyI ((s : Int) + 1)) && !(keyI ((s : Int) + 1)).sameKey (keyI ((s : Int) + 1))) = false := by rw [sameKey_I]; simp
    have h3 : (left (keyI ((s : Int) + 1))) = true := hl
    rw [h2, h3, if_pos ⟨rfl, rfl⟩, if_neg (by simp)]
    dsimp only
    omega
  | x :: L, s, i + 1, k, h, hl => by
    rw [List.getElem?_cons_succ] at h
    have e : s + (i + 1) = s + 1 + i := by omega
    rw [e] at hl ⊢
    have ih := sumF_strike left L (s + 1) i k h hl
    rw [sumF, sumF, ih]
    have h1 : (keyI ((s : Int) + 1)).sameKey (keyI (((s + 1 + i : Nat) : Int) + 1)) = false := by rw [sameKey_I]; simp; omega
    rw [h1, Bool.not_false, Bool.and_true]
    omega
theorem sumF_start (L : List Ent) : sumF (Maps.has (numD gL L)) 0 L = 0 := by
  suffices ∀ (M : List Ent) (s : Nat), (∀ i : Nat, i < M.length → M[i]?.map (·.1) = some 0 → Maps.has (numD gL L) (keyI ((s + i : Nat) + 1)) = true) → sumF (Maps.has (numD gL L)) s M = 0 from this L 0 (fun i hi h => by
    rw [Nat.zero_add]
    show Maps.has (numD gL L) (.int .i64 _) = true
    rw [numD_has, if_pos (by omega)]
    have e : (((i : Int) + 1 - 1)).toNat = i := by omega
    rw [e]
    cases hx : L[i]? with
    | none => rw [hx] at h; simp at h
    | some x =>
      rw [hx] at h
      have h1 : x.1 = 0 := by simpa using h
      show (gL x).isSome = true
      unfold gL
      rw [if_pos h1]; rfl)
  intro M
  induction M with
  | nil => intro s _; rfl
  | cons x M ih =>
    intro s h
    rw [sumF, ih (s + 1) (fun i hi hx => by
      have h1 := h (i + 1) (by simpa using hi) (by rw [List.getElem?_cons_succ]; exact hx)
      have e : s + (i + 1) = s + 1 + i := by omega
      rw [e] at h1
      exact h1)]
    have h0 := h 0 (by simp)
    rw [Nat.add_zero, List.getElem?_cons_zero] at h0
    by_cases hx : x.1 = 0
    · have h1 := h0 (by simp [hx])
      rw [if_neg (fun e => by rw [h1] at e; cases e.2)]; rfl
    · rw [if_neg (fun e => hx e.1)]; rfl
/-- what comes of a map of live numbers is one of them -/
theorem next_live {L : List Ent} {x : Int} {v : Value} {y : DataW Value × List MemPlace} (hv : heldR v = some y) (hat : ∀ zd, (numD gL L).atKey (.int .i64 x) zd = y.1) : 1 ≤ x ∧ ∃ k, L[(x - 1).toNat]? = some (0, k) ∧ v = k.val := by
  unfold heldR at hv
  cases hv
  have h1 := hat (.held (.bool true))
  have h2 := hat (.held (.bool false))
  rw [numD_atKey] at h1 h2
  injection h1 with h1
  injection h2 with h2
  cases ho : (if 1 ≤ x then L[(x - 1).toNat]?.bind gL else none) with
  | none => rw [ho] at h1 h2; simp only [Option.getD_none] at h1 h2; rw [← h1] at h2; cases h2
  | some u =>
    rw [ho] at h1
    simp only [Option.getD_some] at h1
    subst h1
    split at ho
    · rename_i hx
      refine ⟨hx, ?_⟩
      cases hl : L[(x - 1).toNat]? with
      | none => rw [hl] at ho; cases ho
      | some e =>
        rw [hl] at ho
        obtain ⟨d, k⟩ := e
        have h3 : gL (d, k) = some u := ho
        unfold gL at h3
        split at h3
        · rename_i hd
          dsimp only at hd
          subst hd
          cases h3
          exact ⟨k, rfl, rfl⟩
        · cases h3
    · cases ho
set_option maxRecDepth 100000 in
set_option maxHeartbeats 1000000 in
theorem mod_Free (w : World) (bm bt tb lb : Nat) (c : Cfg) (B : Int) (L : List Ent) (h : MAt w bm bt tb lb c B L) :
    Calls Try.prog 14 #[.pointer (some ⟨bm, 0, none⟩)] w fun e w' => e = .returned (.int .i64 (c.frames - allF L)) ∧ Below w.heap.size w w' := by
  have H := Lib.hid h
  have m1 := h.1.cell 1
  have m6 := h.1.cell 6
  have HBn := Lib.hid (fun (left : Lit → Bool) => sumF_bounds (c := c) (B := B) (by have := h.2.2.2.2.1.2.2.2.1; have := h.2.2.2.2.1.2.2.2.2.2.1; omega) left L 0 h.2.2.2.2.2.1)
  have hlen := h.2.1.2.2.1
  have hfr := h.2.2.2.2.1.2.2.2.1
  have hfr1 := h.2.2.2.2.1.2.2.1
  have HF := Lib.hid (And.intro hlen (And.intro hfr1 hfr))
  clear h hlen hfr hfr1
  go_enter Try.func14, Try.ntmps14
  go_wp2_with (first
    | (go_at_call 33; refine (mod_none _ _ _ _ _ _ _ _ H.out).mono ?_; rintro e w' ⟨rfl, rfl⟩)
    | (at_range; refine wpList_range_own _ rfl _ 47 rfl 3 59 keyed_int Try.underlying47 heldR lb L.length (numD gL L) rfl H.out.2.2.1 ?_; intro w0 hrg0 hg0 hs0))
  go_frame
  have HR0 := Lib.hid hrg0
  have HG0 := Lib.hid (below_of_grown' hg0)
  clear hrg0 hg0 hs0
  go_loopw [3] (fun v3 wr => ∃ (left : Lit → Bool) (cnt : Nat), v3 = .int .i64 (c.frames - sumF left 0 L) ∧ Hid (wr.ranges Try.prog 3 heldR lb w.heap.size L.length (numD gL L) left cnt) ∧ Hid (Below w.heap.size w wr)) (fun _ wr => wr.rangeLeft lb w.heap.size)
  case atStart => exact ⟨_, _, by rw [sumF_start]; simp, HR0, HG0⟩
  case round =>
    obtain ⟨left, cnt, rfl, HR, HB⟩ := hrel
    go_wp2_with (at_next; refine wpList_next_ranges _ rfl _ rfl 3 keyed_int heldR encZ id (fun key kl hk => by obtain ⟨x, hx, _⟩ := Maps.keyOf_i64 Try.underlying3 hk; exact ⟨x, hx⟩) (fun v _ _ => ⟨v, rfl⟩) lb w.heap.size L.length _ _ _ rfl HR.out ?_ ?_)
    · intro hc0 hl0
      have HE := Lib.hid (show sumF left 0 L = allF L from sumF_congr L 0 (fun i _ => .inl (hl0 _)))
      clear hc0 hl0
      go_wp2
      go_ret
      exact ⟨by show Ending.returned (.int .i64 (c.frames - sumF left 0 L)) = _; rw [HE.out], HB.out⟩
    · intro x v kl yd yp w2 cnt2 hkey hlk hv hat hrg2 hlt hg2 hs2 hen
      obtain ⟨x', ex, rfl, _⟩ := Maps.keyOf_i64 Try.underlying3 hkey
      obtain rfl : x = x' := encZ_inj ex
      obtain ⟨hx1, k, hk, rfl⟩ := next_live (y := (yd, yp)) hv hat
      obtain ⟨i, hi⟩ : ∃ i, (x - 1).toNat = i := ⟨_, rfl⟩
      rw [hi] at hk
      have hxi : x = ((0 + i : Nat) : Int) + 1 := by omega
      subst hxi
      have hst := sumF_strike left L 0 i k hk hlk
      have hb1 := HBn.out left
      have hb2 := HBn.out (fun z => left z && !z.sameKey (keyI (((0 + i : Nat) : Int) + 1)))
      have hw : wrap64 (c.frames - sumF left 0 L - k.frames) = c.frames - sumF (fun z => left z && !z.sameKey (keyI (((0 + i : Nat) : Int) + 1))) 0 L := by
        have := HF.out
        rw [hst] at hb2 ⊢
        unfold wrap64
        omega
      have HR2 := Lib.hid hrg2
      have HB2 := Lib.hid (HB.out.grown hg2 HB.out.size (fun k hk => by cases hk; exact Nat.le_refl _))
      have HSZ := Lib.hid HB2.out.size
      have HLT := Lib.hid hlt
      have HEQ := Lib.hid HR.out.left_eq
      obtain ⟨ca, en, cz, q, l, f, fr, p, g⟩ := k
      dsimp only at hw
      obtain ⟨y0, hy0⟩ : ∃ y0, sumF left 0 L = y0 := ⟨_, rfl⟩
      obtain ⟨y1, hy1⟩ : ∃ y1, sumF (fun z => left z && !z.sameKey (keyI (((0 + i : Nat) : Int) + 1))) 0 L = y1 := ⟨_, rfl⟩
      rw [hy0, hy1] at hw
      rw [hy0]
      have HY1 := Lib.hid hy1
      have HW := Lib.hid hw
      clear hrg2 hg2 hlt hs2 hv hat hkey hlk hx1 hi hk hst hb1 hb2 hy0 hy1
      go_wp2
      go_roundw
      case rel => exact ⟨_, cnt2, by show Value.int .i64 (wrap64 (c.frames - y0 - fr)) = .int .i64 (c.frames - sumF (fun z => left z && !z.sameKey (keyI (((0 + i : Nat) : Int) + 1))) 0 L); rw [HY1.out, HW.out], Lib.hid (HR2.out.alloc _), Lib.hid (HB2.out.alloc HSZ.out _)⟩
      case measure => rw [(HR2.out.alloc _).left_eq, HEQ.out]; exact HLT.out
end Go.Proofs.Ytklelheejopfmaa
