/- PMap, Tells -/
import Derived.Test.YtcojnigkgbmbmaaGreatDoorR01
import Derived.Maps.OwnIn
import Derived.Lib.SlKeysI
import Derived.Maps.Views
namespace Go.Proofs.YtcojnigkgbmbmaaGreatDoor
open Go Go.RowKit Go.Maps
def heldR (v : Value) : Option (DataW Value × List MemPlace) := some (.held v, [])
def keyI (k : Int) : Lit := .int .i64 k
section
variable {α : Type} {g : α → Option Value}
end
end Go.Proofs.YtcojnigkgbmbmaaGreatDoor
namespace Go.Proofs.YtcojnigkgbmbmaaGreatDoor
open Go Go.RowKit Go.Maps
abbrev tellV (c : List UInt8) : Value := .agg #[.string (bs c)]
def addD (D : DataW Value) (n : Int) (c : List UInt8) : DataW Value := if Maps.has D (keyI n) then D else D.put (keyI n) (.held (tellV c))
def allD : DataW Value → List (List UInt8) → List Int → DataW Value
  | D, c :: cs, n :: ns => allD (addD D n c) cs ns
  | D, _, _ => D
/-- D tells the code of each number as f says. -/
def Tells (D : DataW Value) (f : Int → Option (List UInt8)) : Prop := IsMap D ∧ ∀ k, Maps.has D (keyI k) = (f k).isSome ∧ ∀ z, D.atKey (keyI k) z = ((f k).map fun c => DataW.held (tellV c)).getD z
theorem keyI_ne {a b : Int} (h : a ≠ b) : keyI a ≠ keyI b := fun e => h (by unfold keyI at e; injection e)
theorem tells_none : Tells (.map []) (fun _ => none) := ⟨isMap_empty, fun _ => ⟨rfl, fun _ => rfl⟩⟩
theorem tells_add {D : DataW Value} {f : Int → Option (List UInt8)} (h : Tells D f) (n : Int) (c : List UInt8) : Tells (addD D n c) (fun k => if k = n then some ((f n).getD c) else f k) := by
  unfold addD
  cases hf : f n with
  | some c' =>
    have h1 : Maps.has D (keyI n) = true := by rw [(h.2 n).1, hf]; rfl
    rw [if_pos h1]
    refine ⟨h.1, fun k => ?_⟩
    by_cases hk : k = n
    · subst hk
      have := h.2 k
      rw [hf] at this
      simpa using this
    · simpa [hk] using h.2 k
  | none =>
    have h1 : Maps.has D (keyI n) = false := by rw [(h.2 n).1, hf]; rfl
    rw [if_neg (by rw [h1]; simp)]
    refine ⟨h.1.put _ _, fun k => ?_⟩
    by_cases hk : k = n
    · subst hk
      refine ⟨?_, fun z => ?_⟩
      · rw [has_put_same h.1 (by simp [keyI, WideAt.IsKeyLit])]; simp
      · rw [atKey_put_same h.1 (by simp [keyI, WideAt.IsKeyLit])]; simp
    · have hne := keyI_ne hk
      refine ⟨?_, fun z => ?_⟩
      · rw [has_put_other hne, (h.2 k).1]; simp [hk]
      · rw [atKey_put_other hne, (h.2 k).2]; simp [hk]
/-- the code of a number: the first one. -/
def codeF : List (List UInt8) → List Int → Int → Option (List UInt8)
  | c :: cs, n :: ns, k => if k = n then some c else codeF cs ns k
  | _, _, _ => none
theorem tells_all : ∀ (cs : List (List UInt8)) (ns : List Int) (D : DataW Value) (f : Int → Option (List UInt8)), Tells D f → Tells (allD D cs ns) (fun k => (f k).or (codeF cs ns k))
  | [], ns, D, f, h => by
    have e : (fun k => (f k).or (codeF [] ns k)) = f := by funext k; cases f k <;> simp [codeF]
    rw [e]; exact h
  | c :: cs, [], D, f, h => by
    have e : (fun k => (f k).or (codeF (c :: cs) [] k)) = f := by funext k; cases f k <;> simp [codeF]
    rw [e]; exact h
  | c :: cs, n :: ns, D, f, h => by
    have ih := tells_all cs ns _ _ (tells_add h n c)
    have e : (fun k => (f k).or (codeF (c :: cs) (n :: ns) k)) = fun k => (if k = n then some ((f n).getD c) else f k).or (codeF cs ns k) := by
      funext k
      by_cases hk : k = n
      · subst hk; cases f k <;> simp [codeF]
      · simp [codeF, hk]
    rw [e]; exact ih
/-- the map of a tree of codes. -/
def mapT (cs : List (List UInt8)) (ns : List Int) : DataW Value := allD (.map []) cs ns
theorem tells_map (cs : List (List UInt8)) (ns : List Int) : Tells (mapT cs ns) (codeF cs ns) := by
  have h := tells_all cs ns _ _ tells_none
  have e : (fun k => Option.or none (codeF cs ns k)) = codeF cs ns := by funext k; simp
  rw [e] at h; exact h
theorem codeF_run : ∀ (cs : List (List UInt8)) (lo k : Int), codeF cs ((List.range cs.length).map fun i : Nat => lo + (i : Int)) k = if k < lo then none else cs[(k - lo).toNat]?
  | [], lo, k => by simp [codeF]
  | c :: cs, lo, k => by
    have ih := codeF_run cs (lo + 1) k
    have e : (List.range (c :: cs).length).map (fun i : Nat => lo + (i : Int)) = lo :: (List.range cs.length).map fun i : Nat => lo + 1 + (i : Int) := by
      rw [List.length_cons, List.range_succ_eq_map, List.map_cons, List.map_map]
      congr 1
      · simp
      · apply List.map_congr_left; intro i _; show lo + ((i + 1 : Nat) : Int) = _; omega
    rw [e, codeF, ih]
    by_cases h1 : k = lo
    · subst h1; simp
    · rw [if_neg h1]
      by_cases h2 : k < lo
      · rw [if_pos (by omega), if_pos h2]
      · rw [if_neg (by omega), if_neg h2]
        have e2 : (k - lo).toNat = (k - (lo + 1)).toNat + 1 := by omega
        rw [e2, List.getElem?_cons_succ]
end Go.Proofs.YtcojnigkgbmbmaaGreatDoor
