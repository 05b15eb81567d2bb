/- The two parsers answer alike. -/
import Derived.Test.YthcbidbhkikhmaaDoorAllp31
namespace Go.Proofs.YthcbidbhkikhmaaDoor
open Go Go.RowKit
def restC (c : UInt8) (s : List UInt8) (k : Nat) : List (List UInt8) := if k ≤ s.length then splitL c (s.drop k) else []
theorem restC_step {c : UInt8} {s : List UInt8} {k : Nat} (h : k ≤ s.length) : restC c s k = (s.drop k).take (cutAt c (s.drop k)) :: restC c s (k + cutAt c (s.drop k) + 1) := by
  have hle := cutAt_le c (s.drop k)
  rw [List.length_drop] at hle
  unfold restC
  rw [if_pos h]
  by_cases hc : cutAt c (s.drop k) < (s.drop k).length
  · rw [splitL_cons hc, List.drop_drop]
    rw [List.length_drop] at hc
    rw [if_pos (by omega)]
    congr 2
  · rw [splitL_last hc]
    rw [List.length_drop] at hc
    rw [if_neg (by omega), List.take_of_length_le (by rw [List.length_drop]; omega)]
def endP (line : List UInt8) (e : Except Nat StN) : Except (Nat × Nat) OpN :=
  match e with
  | .error b => .error (14, b)
  | .ok st => if st.t = [] then .ok st.o else .error (14, line.length)
theorem go_run (line : List UInt8) : ∀ (t : List UInt8) (k : Nat) (o : OpN), k ≤ line.length → endP line ((restC 32 line (k + 1)).foldl nextP (.ok ⟨true, t, k + 1, o⟩)) = goR line t k o
  | [], k, o, hk => by
    simp only [goR]
    by_cases h : k < line.length
    · rw [if_pos h, restC_step (by omega), List.foldl_cons]
      show endP line (List.foldl nextP (.error (k + 1 - 1)) _) = _
      rw [foldl_err]
      rfl
    · rw [if_neg h]
      unfold restC
      rw [if_neg (by omega)]
      rfl
  | c :: t, k, o, hk => by
    simp only [goR]
    by_cases h : k = line.length
    · rw [if_pos h]
      unfold restC
      rw [if_neg (by omega)]
      show (if (c :: t) = [] then Except.ok o else Except.error (14, line.length)) = Except.error (14, k)
      rw [if_neg (List.cons_ne_nil _ _), h]
    · rw [if_neg h, restC_step (by omega), List.foldl_cons]
      have hx : (line.take (endR line k)).drop (k + 1) = (line.drop (k + 1)).take (cutAt 32 (line.drop (k + 1))) := by
        rw [List.drop_take]
        unfold endR
        rw [show k + 1 + partR (line.drop (k + 1)) - (k + 1) = partR (line.drop (k + 1)) by omega]
        rfl
      have hle := cutAt_le 32 (line.drop (k + 1))
      rw [List.length_drop] at hle
      have hxl : ((line.drop (k + 1)).take (cutAt 32 (line.drop (k + 1)))).length = cutAt 32 (line.drop (k + 1)) := by rw [List.length_take, List.length_drop]; omega
      have he : endR line k = k + 1 + cutAt 32 (line.drop (k + 1)) := rfl
      rw [hx]
      show endP line (List.foldl nextP (stepP ⟨true, c :: t, k + 1, o⟩ _) _) = _
      unfold stepP
      rw [if_neg (show ¬ true = false by decide)]
      dsimp only
      cases hr : readR c ((line.drop (k + 1)).take (cutAt 32 (line.drop (k + 1)))) o with
      | none => dsimp only; rw [foldl_err]; rfl
      | some o' =>
        dsimp only
        rw [hxl, ← go_run line t (endR line k) o' (by rw [he]; omega), he]
        congr 4
theorem par_ref (line : List UInt8) : parP line = refP line := by
  unfold parP refP
  by_cases h0 : 3000 < line.length
  · rw [if_pos h0, if_pos h0]
  rw [if_neg h0, if_neg h0]
  have hs : splitL 32 line = restC 32 line 0 := by unfold restC; rw [if_pos (Nat.zero_le _), List.drop_zero]
  have hle := partR_le line
  show endP line (runP (splitL 32 line)) = _
  rw [hs, restC_step (Nat.zero_le _), List.drop_zero]
  unfold runP
  rw [List.foldl_cons]
  show endP line (List.foldl nextP (stepP ⟨false, [], 0, OpN.none⟩ (line.take (partR line))) (restC 32 line (0 + partR line + 1))) = _
  unfold stepP
  rw [if_pos rfl]
  cases partsR (line.take (partR line)) with
  | none => dsimp only; rw [foldl_err]; rfl
  | some p =>
    dsimp only
    rw [← go_run line (lettersR p) (partR line) ⟨line.take (partR line), 0, 0, []⟩ hle]
    have hl : (line.take (partR line)).length = partR line := by rw [List.length_take]; omega
    rw [hl, Nat.zero_add, Nat.zero_add]
theorem par_ref' : parP = refP := funext par_ref
theorem all_ref (text : List UInt8) : allP parP text = allP refP text := by rw [par_ref']
end Go.Proofs.YthcbidbhkikhmaaDoor
