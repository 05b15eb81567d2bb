/- how many bits a macroblock is at most. No condition. -/
import Derived.Test.YtcojnigkgbmbmaaGreatDoorKPackP
namespace Go.Proofs.YtcojnigkgbmbmaaGreatDoor
open Go Go.RowKit
theorem cputL_lenM : ∀ (L : List (Int × Int)) (first : Bool), (cputL L first).length ≤ 20 * L.length
  | [], _ => by simp [cputL]
  | p :: L, first => by
    have h1 := cput_le p first
    have h2 := cputL_lenM L false
    rw [cputL, List.length_append, List.length_cons]
    omega
theorem bput_lenM {x : BlkM} {intra : Bool} (h : bchkP x intra = 0) : (bputP x intra).length ≤ 1300 := by
  have hs : x.l.length ≤ 64 := by
    unfold bchkP at h
    split at h
    · cases h
    · split at h
      · cases h
      · have h2 : (0 : Int) ≤ frstP intra ∧ frstP intra ≤ 64 := by cases intra <;> decide
        have := spread_len x.l h2.1 h2.2 h
        omega
  have h3 := cputL_lenM x.l (!intra)
  unfold bputP
  rw [List.length_append, List.length_append]
  have h4 : (if intra = true then digL x.dc.toNat 8 else []).length ≤ 8 := by split <;> simp [digL_len]
  have h5 : endC.length = 2 := rfl
  omega
theorem bl_lenM (intra : Bool) : ∀ (bl : List BlkM), (∀ b ∈ bl, bchkP b intra = 0) → (bl.flatMap fun b => bputP b intra).length ≤ 1300 * bl.length
  | [], _ => by simp
  | b :: bl, h => by
    have h1 := bput_lenM (h b (by simp))
    have h2 := bl_lenM intra bl (fun c hc => h c (List.mem_cons_of_mem _ hc))
    rw [List.flatMap_cons, List.length_append, List.length_cons]
    omega
theorem codeAt_lenM {cs : List (List UInt8)} (hc : cs.all isCode = true) (lo k : Int) : ((codeAt cs lo k).getD []).length ≤ 24 := by
  unfold codeAt
  split
  · simp
  · rcases Nat.lt_or_ge (k - lo).toNat cs.length with h | h
    · rw [List.getElem?_eq_getElem h]; exact (code_le hc _ h).2
    · rw [List.getElem?_eq_none h]; simp
theorem mput_lenM {m : MacM} (x : LastM) (hm : MOk m) : (mputL m x).length ≤ 8000 := by
  have h1 : (kindP m.kd).length ≤ 24 := codeAt_lenM kind_code _ _
  have h2 : (mQ m).length ≤ 5 := by unfold mQ; split <;> simp [digL_len]
  have h3 : ∀ a b, (mV m a b).length ≤ 48 := fun a b => by
    unfold mV
    split
    · have k1 : (movP a m.x).length ≤ 24 := codeAt_lenM vec_code _ _
      have k2 : (movP b m.y).length ≤ 24 := codeAt_lenM vec_code _ _
      rw [List.length_append]; omega
    · simp
  have h4 : (mC m).length ≤ 24 := by
    unfold mC
    split
    · exact codeAt_lenM pat_code _ _
    · simp
  have h5 : (mB m).length ≤ 1300 * m.bl.length := bl_lenM _ _ hm.bl
  have h6 : cntP m.pa ≤ 6 := by unfold cntP; split <;> omega
  have h7 := hm.len
  have h8 := h3 (predP m.ad (m.ad - x.ad) x.had x.x x.y).1 (predP m.ad (m.ad - x.ad) x.had x.x x.y).2
  rw [mputL_parts]
  simp only [List.length_append]
  omega
end Go.Proofs.YtcojnigkgbmbmaaGreatDoor
