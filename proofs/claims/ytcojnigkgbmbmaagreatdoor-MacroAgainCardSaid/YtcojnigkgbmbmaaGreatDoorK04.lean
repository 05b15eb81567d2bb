/- PMap, Tells -/
import Derived.Test.YtcojnigkgbmbmaaGreatDoorK01
import Derived.Maps.OwnIn
import Derived.Lib.SlKeysI
import Derived.Maps.Views
namespace Go.Proofs.YtcojnigkgbmbmaaGreatDoor
open Go Go.RowKit Go.Maps
def heldR (v : Value) : Option (DataW Value × List MemPlace) := some (.held v, [])
def keyI (k : Int) : Lit := .int .i64 k
/-- the entries by number: those x of L that have a value, at their place + s + 1. -/
def numE {α : Type} (g : α → Option Value) : Nat → List α → List (Lit × DataW Value)
  | _, [] => []
  | s, x :: L => (match g x with | some v => [(keyI ((s : Int) + 1), .held v)] | none => []) ++ numE g (s + 1) L
section
variable {α : Type} {g : α → Option Value}
theorem numE_above : ∀ (L : List α) (s : Nat) (p : Lit × DataW Value), p ∈ numE g s L → ∃ k : Int, p.1 = keyI k ∧ (s : Int) + 1 ≤ k ∧ k ≤ s + L.length
  | [], s, p, h => by simp [numE] at h
  | x :: L, s, p, h => by
    rw [numE, List.mem_append] at h
    rcases h with h | h
    · cases hg : g x with
      | none => rw [hg] at h; simp at h
      | some v => rw [hg] at h; simp at h; subst h; exact ⟨_, rfl, by omega, by simp; omega⟩
    · obtain ⟨k, h1, h2, h3⟩ := numE_above L (s + 1) p h
      exact ⟨k, h1, by omega, by simp; omega⟩
theorem sameKey_I (a b : Int) : (keyI a).sameKey (keyI b) = decide (a = b) := by simp [keyI, Lit.sameKey]
theorem before_I (a b : Int) : (keyI a).before (keyI b) = decide (a < b) := by simp [keyI, Lit.before]
theorem numE_filter (L : List α) (s : Nat) (k : Int) (hk : k < (s : Int) + 1 ∨ (s : Int) + L.length < k) : (numE g s L).filter (fun p => !p.1.sameKey (keyI k)) = numE g s L := by
  refine List.filter_eq_self.2 fun p hp => ?_
  obtain ⟨j, h1, h2, h3⟩ := numE_above L s p hp
  rw [h1, sameKey_I]
  simp; omega
theorem insert_first (k : Int) (d : DataW Value) (l : List (Lit × DataW Value)) (h : ∀ p ∈ l, ∃ j : Int, p.1 = keyI j ∧ k < j) : DataW.insert (keyI k, d) l = (keyI k, d) :: l := by
  cases l with
  | nil => rfl
  | cons y r =>
    obtain ⟨j, h1, h2⟩ := h y (by simp)
    unfold DataW.insert
    simp only [h1, before_I]
    rw [if_pos (by simpa using h2)]
theorem insert_skip (k : Int) (d : DataW Value) (l r : List (Lit × DataW Value)) (h : ∀ p ∈ l, ∃ j : Int, p.1 = keyI j ∧ j < k) : DataW.insert (keyI k, d) (l ++ r) = l ++ DataW.insert (keyI k, d) r := by
  induction l with
  | nil => rfl
  | cons y l ih =>
    obtain ⟨j, h1, h2⟩ := h y (by simp)
    rw [List.cons_append, DataW.insert]
    simp only [h1, before_I]
    rw [if_neg (by simp; omega), ih (fun p hp => h p (by simp [hp]))]
    simp
theorem numE_put : ∀ (L : List α) (s i : Nat) (x : α) (v : Value), i < L.length → g x = some v →
    DataW.insert (keyI (((s + i : Nat) : Int) + 1), .held v) ((numE g s L).filter (fun p => !p.1.sameKey (keyI (((s + i : Nat) : Int) + 1)))) = numE g s (L.set i x)
  | [], s, i, x, v, hi, hx => by simp at hi
  | y :: L, s, 0, x, v, hi, hx => by
    rw [List.set_cons_zero, numE, numE, hx, List.filter_append, numE_filter L (s + 1) _ (.inl (by omega))]
    have h1 : List.filter (fun p : Lit × DataW Value => !p.1.sameKey (keyI (((s + 0 : Nat) : Int) + 1))) (match g y with | some v => [(keyI ((s : Int) + 1), DataW.held v)] | none => []) = [] := by
      cases g y with
      | none => rfl
      | some u => simp [sameKey_I]
    rw [h1, List.nil_append]
    exact insert_first _ _ _ (fun p hp => by obtain ⟨j, h1, h2, _⟩ := numE_above L (s + 1) p hp; exact ⟨j, h1, by simp at h2 ⊢; omega⟩)
  | y :: L, s, i + 1, x, v, hi, hx => by
    have ih := numE_put L (s + 1) i x v (by simpa using hi) hx
    have e1 : ((s + 1 + i : Nat) : Int) = ((s + (i + 1) : Nat) : Int) := by omega
    rw [e1] at ih
    have hsm : ∀ p ∈ (match g y with | some v => [(keyI ((s : Int) + 1), DataW.held v)] | none => []), ∃ j : Int, p.1 = keyI j ∧ j < ((s + (i + 1) : Nat) : Int) + 1 := fun p hp => by
      cases hg : g y with
      | none => rw [hg] at hp; simp at hp
      | some u => rw [hg] at hp; simp at hp; subst hp; exact ⟨_, rfl, by omega⟩
    have hf : List.filter (fun p : Lit × DataW Value => !p.1.sameKey (keyI (((s + (i + 1) : Nat) : Int) + 1))) (match g y with | some v => [(keyI ((s : Int) + 1), DataW.held v)] | none => []) = (match g y with | some v => [(keyI ((s : Int) + 1), DataW.held v)] | none => []) :=
      List.filter_eq_self.2 fun p hp => by obtain ⟨j, h1, h2⟩ := hsm p hp; rw [h1, sameKey_I]; simp; omega
    rw [List.set_cons_succ, numE, numE, List.filter_append, hf, insert_skip _ _ _ _ hsm, ih]
theorem numE_add : ∀ (L : List α) (s : Nat) (x : α) (v : Value), g x = some v →
    DataW.insert (keyI (((s + L.length : Nat) : Int) + 1), .held v) ((numE g s L).filter (fun p => !p.1.sameKey (keyI (((s + L.length : Nat) : Int) + 1)))) = numE g s (L ++ [x]) := by
  intro L s x v hx
  rw [numE_filter L s _ (.inr (by omega))]
  have h1 := insert_skip (((s + L.length : Nat) : Int) + 1) (.held v) (numE g s L) [] (fun p hp => by obtain ⟨j, h1, _, h3⟩ := numE_above L s p hp; exact ⟨j, h1, by omega⟩)
  rw [List.append_nil] at h1
  rw [h1]
  clear h1
  induction L generalizing s with
  | nil => simp [numE, hx, DataW.insert]
  | cons y L ih =>
    have ih' := ih (s + 1)
    have e1 : ((s + 1 + L.length : Nat) : Int) = ((s + (y :: L).length : Nat) : Int) := by simp; omega
    rw [e1] at ih'
    rw [List.cons_append, numE, numE, List.append_assoc, ih']
theorem numE_del : ∀ (L : List α) (s i : Nat) (x : α), i < L.length → g x = none →
    (numE g s L).filter (fun p => !p.1.sameKey (keyI (((s + i : Nat) : Int) + 1))) = numE g s (L.set i x)
  | [], s, i, x, hi, hx => by simp at hi
  | y :: L, s, 0, x, hi, hx => by
    rw [List.set_cons_zero, numE, numE, hx, List.filter_append, numE_filter L (s + 1) _ (.inl (by omega))]
    congr 1
    cases g y with
    | none => rfl
    | some u => simp [sameKey_I]
  | y :: L, s, i + 1, x, hi, hx => by
    have ih := numE_del L (s + 1) i x (by simpa using hi) hx
    have e1 : ((s + 1 + i : Nat) : Int) = ((s + (i + 1) : Nat) : Int) := by omega
    rw [e1] at ih
    rw [List.set_cons_succ, numE, numE, List.filter_append, ih]
    congr 1
    cases hg : g y with
    | none => rfl
    | some u => simp [sameKey_I]; omega
theorem numE_find : ∀ (L : List α) (s : Nat) (k : Int), (numE g s L).find? (fun p => p.1.sameKey (keyI k)) = (if (s : Int) + 1 ≤ k then L[(k - 1 - s).toNat]?.bind g else none).map fun v => (keyI k, DataW.held v)
  | [], s, k => by simp [numE]
  | y :: L, s, k => by
    rw [numE, List.find?_append, numE_find L (s + 1) k]
    rcases Int.lt_trichotomy k ((s : Int) + 1) with h | h | h
    · rw [if_neg (by simp; omega), if_neg (by omega)]
      cases g y with
      | none => rfl
      | some u =>
        have h1 : (keyI ((s : Int) + 1)).sameKey (keyI k) = false := by rw [sameKey_I]; simp; omega
        simp [h1]
    · subst h
      rw [if_neg (by omega), if_pos (by omega)]
      have e : ((s : Int) + 1 - 1 - s).toNat = 0 := by omega
      rw [e]
      cases hg : g y with
      | none => simp [hg]
      | some u =>
        have h1 : (keyI ((s : Int) + 1)).sameKey (keyI ((s : Int) + 1)) = true := by rw [sameKey_I]; simp
        simp [h1, hg]
    · rw [if_pos (by simp; omega), if_pos (by omega)]
      have e : (k - 1 - (s : Int)).toNat = (k - 1 - ((s + 1 : Nat) : Int)).toNat + 1 := by omega
      rw [e, List.getElem?_cons_succ]
      cases g y with
      | none => rfl
      | some u =>
        have h1 : (keyI ((s : Int) + 1)).sameKey (keyI k) = false := by rw [sameKey_I]; simp; omega
        simp [h1]
theorem numE_length : ∀ (L : List α) (s : Nat), (numE g s L).length = (L.filter fun x => (g x).isSome).length
  | [], s => rfl
  | y :: L, s => by
    rw [numE, List.length_append, numE_length L (s + 1), List.filter_cons]
    cases g y with
    | none => simp
    | some u => simp; omega
/-- the datum of such a map. -/
def numD (g : α → Option Value) (L : List α) : DataW Value := .map (numE g 0 L)
theorem numD_atKey (L : List α) (k : Int) (z : Value) : (numD g L).atKey (.int .i64 k) (.held z) = .held ((if 1 ≤ k then L[(k - 1).toNat]?.bind g else none).getD z) := by
  have h := numE_find (g := g) L 0 k
  have e0 : (((0 : Nat) : Int)) = 0 := rfl
  rw [e0, Int.zero_add, Int.sub_zero] at h
  unfold numD DataW.atKey
  simp only
  have e1 : keyI k = .int .i64 k := rfl
  rw [← e1, h]
  cases (if 1 ≤ k then L[(k - 1).toNat]?.bind g else none) <;> rfl
theorem numD_has (L : List α) (k : Int) : Maps.has (numD g L) (.int .i64 k) = (if 1 ≤ k then L[(k - 1).toNat]?.bind g else none).isSome := by
  have h := numE_find (g := g) L 0 k
  have e0 : (((0 : Nat) : Int)) = 0 := rfl
  rw [e0, Int.zero_add, Int.sub_zero] at h
  show (numE g 0 L).any (fun p => p.1.sameKey (keyI k)) = _
  have h2 : ((numE g 0 L).find? (fun p => p.1.sameKey (keyI k))).isSome = (numE g 0 L).any (fun p => p.1.sameKey (keyI k)) := by rw [Bool.eq_iff_iff, List.find?_isSome, List.any_eq_true]
  rw [← h2, h]
  cases (if 1 ≤ k then L[(k - 1).toNat]?.bind g else none) <;> rfl
theorem numD_set (L : List α) (i : Nat) (x : α) (v : Value) (hi : i < L.length) (hx : g x = some v) : (numD g L).put (.int .i64 ((i : Int) + 1)) (.held v) = numD g (L.set i x) := by
  have h := numE_put L 0 i x v hi hx
  rw [Nat.zero_add] at h
  show DataW.map _ = DataW.map _
  rw [← h]; rfl
theorem numD_add (L : List α) (x : α) (v : Value) (hx : g x = some v) : (numD g L).put (.int .i64 ((L.length : Int) + 1)) (.held v) = numD g (L ++ [x]) := by
  have h := numE_add L 0 x v hx
  rw [Nat.zero_add] at h
  show DataW.map _ = DataW.map _
  rw [← h]; rfl
theorem numD_del (L : List α) (i : Nat) (x : α) (hi : i < L.length) (hx : g x = none) : (numD g L).del (.int .i64 ((i : Int) + 1)) = numD g (L.set i x) := by
  have h := numE_del L 0 i x hi hx
  rw [Nat.zero_add] at h
  show DataW.map _ = DataW.map _
  rw [← h]; rfl
theorem numD_size (L : List α) : Maps.size (numD g L) = (L.filter fun x => (g x).isSome).length := numE_length L 0
/-- the numbers of those that have a value, rising. -/
def numK (g : α → Option Value) : Nat → List α → List Int
  | _, [] => []
  | s, x :: L => (if (g x).isSome then [(s : Int) + 1] else []) ++ numK g (s + 1) L
theorem numD_keys (L : List α) : intKeys (numD g L) = numK g 0 L := by
  suffices ∀ s, (numE g s L).map (fun p => intOf p.1) = numK g s L from this 0
  induction L with
  | nil => intro s; rfl
  | cons y L ih =>
    intro s
    rw [numE, numK, List.map_append, ih]
    congr 1
    cases g y <;> rfl
theorem numK_above : ∀ (L : List α) (s : Nat) (k : Int), k ∈ numK g s L → (s : Int) + 1 ≤ k ∧ k ≤ s + L.length
  | [], s, k, h => by simp [numK] at h
  | x :: L, s, k, h => by
    rw [numK, List.mem_append] at h
    rcases h with h | h
    · split at h
      · simp at h; subst h; exact ⟨by omega, by simp; omega⟩
      · simp at h
    · have := numK_above L (s + 1) k h
      simp at this ⊢; omega
theorem numK_rising : ∀ (L : List α) (s : Nat), (numK g s L).Pairwise (fun a b => a < b)
  | [], s => by simp [numK]
  | x :: L, s => by
    rw [numK, List.pairwise_append]
    refine ⟨?_, numK_rising L (s + 1), fun a ha b hb => ?_⟩
    · split <;> simp
    · split at ha
      · simp at ha; have := (numK_above L (s + 1) b hb).1; omega
      · simp at ha
theorem sort_rising {l : List Int} (h : l.Pairwise (fun a b => a < b)) : l.mergeSort (fun x y => decide (x ≤ y)) = l :=
  List.mergeSort_of_pairwise (h.imp fun hab => by simp; omega)
theorem sort_numK {ss : List Int} (L : List α) (h : ss.Perm (intKeys (numD g L))) : ss.mergeSort (fun x y => decide (x ≤ y)) = numK g 0 L := by
  rw [numD_keys] at h
  exact (mergeSort_of_perm_i h).trans (sort_rising (numK_rising L 0))
end
end Go.Proofs.YtcojnigkgbmbmaaGreatDoor
namespace Go.Proofs.YtcojnigkgbmbmaaGreatDoor
open Go Go.RowKit Go.Maps
abbrev tellV (c : List UInt8) : Value := .agg #[.string (bs c)]
def addD (D : DataW Value) (n : Int) (c : List UInt8) : DataW Value := if Maps.has D (keyI n) then D else D.put (keyI n) (.held (tellV c))
def allD : DataW Value → List (List UInt8) → List Int → DataW Value
  | D, c :: cs, n :: ns => allD (addD D n c) cs ns
  | D, _, _ => D
/-- D tells the code of each number as f says. -/
def Tells (D : DataW Value) (f : Int → Option (List UInt8)) : Prop := IsMap D ∧ ∀ k, Maps.has D (keyI k) = (f k).isSome ∧ ∀ z, D.atKey (keyI k) z = ((f k).map fun c => DataW.held (tellV c)).getD z
theorem keyI_ne {a b : Int} (h : a ≠ b) : keyI a ≠ keyI b := fun e => h (by unfold keyI at e; injection e)
theorem tells_none : Tells (.map []) (fun _ => none) := ⟨isMap_empty, fun _ => ⟨rfl, fun _ => rfl⟩⟩
theorem tells_add {D : DataW Value} {f : Int → Option (List UInt8)} (h : Tells D f) (n : Int) (c : List UInt8) : Tells (addD D n c) (fun k => if k = n then some ((f n).getD c) else f k) := by
  unfold addD
  cases hf : f n with
  | some c' =>
    have h1 : Maps.has D (keyI n) = true := by rw [(h.2 n).1, hf]; rfl
    rw [if_pos h1]
    refine ⟨h.1, fun k => ?_⟩
    by_cases hk : k = n
    · subst hk
      have := h.2 k
      rw [hf] at this
      simpa using this
    · simpa [hk] using h.2 k
  | none =>
    have h1 : Maps.has D (keyI n) = false := by rw [(h.2 n).1, hf]; rfl
    rw [if_neg (by rw [h1]; simp)]
    refine ⟨h.1.put _ _, fun k => ?_⟩
    by_cases hk : k = n
    · subst hk
      refine ⟨?_, fun z => ?_⟩
      · rw [has_put_same h.1 (by simp [keyI, WideAt.IsKeyLit])]; simp
      · rw [atKey_put_same h.1 (by simp [keyI, WideAt.IsKeyLit])]; simp
    · have hne := keyI_ne hk
      refine ⟨?_, fun z => ?_⟩
      · rw [has_put_other hne, (h.2 k).1]; simp [hk]
      · rw [atKey_put_other hne, (h.2 k).2]; simp [hk]
/-- the code of a number: the first one. -/
def codeF : List (List UInt8) → List Int → Int → Option (List UInt8)
  | c :: cs, n :: ns, k => if k = n then some c else codeF cs ns k
  | _, _, _ => none
theorem tells_all : ∀ (cs : List (List UInt8)) (ns : List Int) (D : DataW Value) (f : Int → Option (List UInt8)), Tells D f → Tells (allD D cs ns) (fun k => (f k).or (codeF cs ns k))
  | [], ns, D, f, h => by
    have e : (fun k => (f k).or (codeF [] ns k)) = f := by funext k; cases f k <;> simp [codeF]
    rw [e]; exact h
  | c :: cs, [], D, f, h => by
    have e : (fun k => (f k).or (codeF (c :: cs) [] k)) = f := by funext k; cases f k <;> simp [codeF]
    rw [e]; exact h
  | c :: cs, n :: ns, D, f, h => by
    have ih := tells_all cs ns _ _ (tells_add h n c)
    have e : (fun k => (f k).or (codeF (c :: cs) (n :: ns) k)) = fun k => (if k = n then some ((f n).getD c) else f k).or (codeF cs ns k) := by
      funext k
      by_cases hk : k = n
      · subst hk; cases f k <;> simp [codeF]
      · simp [codeF, hk]
    rw [e]; exact ih
/-- the map of a tree of codes. -/
def mapT (cs : List (List UInt8)) (ns : List Int) : DataW Value := allD (.map []) cs ns
theorem tells_map (cs : List (List UInt8)) (ns : List Int) : Tells (mapT cs ns) (codeF cs ns) := by
  have h := tells_all cs ns _ _ tells_none
  have e : (fun k => Option.or none (codeF cs ns k)) = codeF cs ns := by funext k; simp
  rw [e] at h; exact h
theorem codeF_run : ∀ (cs : List (List UInt8)) (lo k : Int), codeF cs ((List.range cs.length).map fun i : Nat => lo + (i : Int)) k = if k < lo then none else cs[(k - lo).toNat]?
  | [], lo, k => by simp [codeF]
  | c :: cs, lo, k => by
    have ih := codeF_run cs (lo + 1) k
    have e : (List.range (c :: cs).length).map (fun i : Nat => lo + (i : Int)) = lo :: (List.range cs.length).map fun i : Nat => lo + 1 + (i : Int) := by
      rw [List.length_cons, List.range_succ_eq_map, List.map_cons, List.map_map]
      congr 1
      · simp
      · apply List.map_congr_left; intro i _; show lo + ((i + 1 : Nat) : Int) = _; omega
    rw [e, codeF, ih]
    by_cases h1 : k = lo
    · subst h1; simp
    · rw [if_neg h1]
      by_cases h2 : k < lo
      · rw [if_pos (by omega), if_pos h2]
      · rw [if_neg (by omega), if_neg h2]
        have e2 : (k - lo).toNat = (k - (lo + 1)).toNat + 1 := by omega
        rw [e2, List.getElem?_cons_succ]
end Go.Proofs.YtcojnigkgbmbmaaGreatDoor
