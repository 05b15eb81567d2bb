/- Scan, ScanP, Spread, Blk1 -/
import Derived.Test.YtcojnigkgbmbmaaGreatDoorK16
import Derived.Test.YtcojnigkgbmbmaaGreatDoorK02
import Derived.Scope
import Derived.Test.YtcojnigkgbmbmaaGreatDoorK15
namespace Go.Proofs.YtcojnigkgbmbmaaGreatDoor
open Go Go.RowKit
attribute [local go_sem] Oper.semAt_some
theorem wpIn_scope {F : Fence} {n : Nat} {P : Program} {c : Code} {Q : Exit → Act → World → Prop} {a : Act} {w : World} (hro : F.round = none) (h : c.wpIn F n P (Exit.noGoto Q) a w) : (Code.scope c).wpIn F n P Q a w := by
  intro b k cs hb0 hb hr
  have hbn : b.roundOf = none := hb0.trans hro
  obtain ⟨e, a₁, w₁, hq, harr⟩ := h b (.inScope c :: k) cs hb0 hb hr
  have f1 : (lone (b.atR a (.code (.scope c) :: k)) cs w).fenced P F := fenced_calm hb hr rfl
  have s1 : step P (lone (b.atR a (.code (.scope c) :: k)) cs w) = .next (lone (b.atR a (.code c :: .inScope c :: k)) cs w) := by rw [Frame.atR_of_none hbn, Frame.atR_of_none hbn]; exact step_scope
  cases e with
  | normal =>
    have s2 : step P (lone (b.atR a₁ (.inScope c :: k)) cs w₁) = .next (lone (b.atR a₁ k) cs w₁) := by rw [Frame.atR_of_none hbn, Frame.atR_of_none hbn]; exact step_inScope
    exact ⟨.normal, a₁, w₁, hq, .head f1 s1 (StepsIn.trans harr (.one (fenced_calm hb hr rfl) s2))⟩
  | exit id => exact ⟨.exit id, a₁, w₁, hq, ⟨fun k' hk => .head f1 s1 (harr.1 k' (by simp [exitTo, hk])), fun h => by rw [hbn] at h; cases h⟩⟩
  | goto l => exact hq.elim
  | ret => exact ⟨_, a₁, w₁, hq, .of_steps (.one f1 s1) harr⟩
  | panic ch => exact ⟨_, a₁, w₁, hq, .of_steps (.one f1 s1) harr⟩
  | outgrown => exact ⟨_, a₁, w₁, hq, .of_steps (.one f1 s1) harr⟩
def zzX (d i : Nat) : Int := if d % 2 = 1 then 7 - (i : Int) else i
def zzY (d i : Nat) : Int := (d : Int) - zzX d i
def zzSkip (d i : Nat) : Bool := decide (7 < zzY d i) || decide (zzY d i < 0)
def zzStop (d i : Nat) : Bool := (d % 2 == 0 && zzY d i == 0) || (d % 2 == 1 && zzX d i == 0)
/-- the places of a diagonal, g steps ahead of its end. -/
def zzIn (d : Nat) : Nat → List Int
  | 0 => []
  | g + 1 => if zzSkip d (7 - g) then zzIn d g else (8 * zzY d (7 - g) + zzX d (7 - g)) :: (if zzStop d (7 - g) then [] else zzIn d g)
/-- the places of g diagonals, the last ones. -/
def zzD : Nat → List Int
  | 0 => []
  | g + 1 => zzIn (14 - g) 8 ++ zzD g
def zzL : List Int := zzD 15
theorem zzL_len : zzL.length = 64 := by kernel_rfl
theorem zzL_range : ∀ k ∈ zzL, 0 ≤ k ∧ k ≤ 63 := by decide +kernel
def ixZ : Value → Int
  | .int _ n => n
  | _ => 0
theorem zzIn_step (d i : Nat) (h : i < 8) : zzIn d (8 - i) = if zzSkip d i then zzIn d (8 - (i + 1)) else (8 * zzY d i + zzX d i) :: (if zzStop d i then [] else zzIn d (8 - (i + 1))) := by
  obtain ⟨g, hg⟩ : ∃ g, 8 - i = g + 1 := ⟨7 - i, by omega⟩
  rw [hg, zzIn, show 7 - g = i by omega, show 8 - (i + 1) = g by omega]
theorem zzD_step (d : Nat) (h : d < 15) : zzD (15 - d) = zzIn d 8 ++ zzD (15 - (d + 1)) := by
  obtain ⟨g, hg⟩ : ∃ g, 15 - d = g + 1 := ⟨14 - d, by omega⟩
  rw [hg, zzD, show 14 - g = d by omega, show 15 - (d + 1) = g by omega]
theorem scan_order (w : World) : Calls Tryz.prog 175 #[] w fun e w' => e = .returned (.func (.func 188) #[] #[]) ∧ w = w' := by
  go_enter Tryz.func175, Tryz.ntmps175
  go_wp2
  go_ret
  exact ⟨rfl, rfl⟩
set_option maxRecDepth 100000 in
set_option maxHeartbeats 4000000 in
theorem order_seq (n : Nat) (hn : 1 ≤ n) (I : List Int → World → Prop) :
    SeqU Fence.wide n Tryz.prog 188 #[] (fun x : Int => #[.int .i64 x]) I I (fun xs => xs = zzL) (fun pre => pre <+: zzL) := by
  intro lp K Jx W hK hY h0 hk0
  refine callsIn_of_wp Tryz.func188 rfl trivial ?_ rfl
  simp only [Tryz.ntmps188, List.size_toArray, List.length_cons, List.length_nil, Nat.reduceAdd, Nat.reduceSub, Array.replicate_succ, Array.replicate_zero, List.push_toArray, List.append_toArray, List.nil_append, List.cons_append]
  have HY := Lib.hid hY; have H0 := Lib.hid h0; have HK0 := Lib.hid hk0
  clear hY hK h0 hk0
  gi_wp2_with fail
  refine wpIn_scope rfl ?_
  gi_wp2_with fail
  refine wpIn_label ?_
  gi_wp2_with fail
  gi_loopw [6] (fun v6 wr => ∃ (d : Nat) (pre : List Int), v6 = .int .i64 (d : Int) ∧ d ≤ 15 ∧ Hid (zzL = pre ++ zzD (15 - d)) ∧ Hid (I pre wr) ∧ Hid (K wr)) (fun v6 _ => 15 - (ixZ v6).toNat)
  case atStart => exact ⟨0, [], rfl, by omega, Lib.hid rfl, H0, HK0⟩
  case round =>
    obtain ⟨d, pre0, rfl, hd, HD, HI0, HK1⟩ := hrel
    by_cases hdl : d < 15
    · have hdli : (d : Int) < 15 := by omega
      have HF0 := Lib.hid (show zzL = pre0 ++ (zzIn d (8 - 0) ++ zzD (15 - (d + 1))) by rw [HD.out, zzD_step d hdl])
      clear HD
      obtain ⟨wo, hwo⟩ : ∃ wo : World, wo = wr := ⟨_, rfl⟩
      rw [← hwo] at HI0 HK1 ⊢
      clear hwo
      gi_wp2_with fail
      gi_loopw [9] (fun v9 wr => ∃ (i : Nat) (pre : List Int), v9 = .int .i64 (i : Int) ∧ i ≤ 8 ∧ Hid (zzL = pre ++ (zzIn d (8 - i) ++ zzD (15 - (d + 1)))) ∧ Hid (I pre wr) ∧ Hid (K wr)) (fun v9 _ => 8 - (ixZ v9).toNat)
      case atStart => exact ⟨0, pre0, rfl, by omega, HF0, HI0, HK1⟩
      case round =>
        obtain ⟨i, pre, rfl, hi, HF, HIr, HKr⟩ := hrel
        by_cases hlt : i < 8
        · have hlti : (i : Int) < 8 := by omega
          have hdn : (0 : Int) ≤ (d : Int) := by omega
          by_cases hodd : d % 2 = 1
          · have hpar : ((d : Int) % 2 == 1) = true := by rw [beq_iff_eq]; omega
            have hpar0 : ((d : Int) % 2 == 0) = false := by rw [beq_eq_false_iff_ne]; omega
            have hX : zzX d i = (7 - (i : Int)) := by unfold zzX; rw [if_pos (by omega)]
            have hS : zzStop d i = ((7 - (i : Int)) == 0) := by unfold zzStop zzY; rw [hX]; simp [show d % 2 = 1 by omega]
            have HX := Lib.hid hX
            clear hX
            by_cases h7 : 7 < ((d : Int) - (7 - (i : Int)))
            · have d7 : decide (7 < ((d : Int) - (7 - (i : Int)))) = true := decide_eq_true h7
              have HSK := Lib.hid (show zzSkip d i = true by unfold zzSkip zzY; rw [HX.out, d7]; rfl)
              clear h7 hS
              gi_wp2_with fail
              refine ⟨⟨i + 1, pre, by simp, by omega, Lib.hid (by have h := HF.out; rw [zzIn_step d i hlt, HSK.out] at h; exact h), HIr, HKr⟩, ?_⟩
              show 8 - ((i : Int) + 1).toNat < 8 - (i : Int).toNat
              omega
            · have d7 : decide (7 < ((d : Int) - (7 - (i : Int)))) = false := decide_eq_false h7
              by_cases h0 : ((d : Int) - (7 - (i : Int))) < 0
              · have d0 : decide (((d : Int) - (7 - (i : Int))) < 0) = true := decide_eq_true h0
                have HSK := Lib.hid (show zzSkip d i = true by unfold zzSkip zzY; rw [HX.out, d7, d0]; rfl)
                clear h7 h0 hS
                gi_wp2_with fail
                refine ⟨⟨i + 1, pre, by simp, by omega, Lib.hid (by have h := HF.out; rw [zzIn_step d i hlt, HSK.out] at h; exact h), HIr, HKr⟩, ?_⟩
                show 8 - ((i : Int) + 1).toNat < 8 - (i : Int).toNat
                omega
              · have d0 : decide (((d : Int) - (7 - (i : Int))) < 0) = false := decide_eq_false h0
                have HSK := Lib.hid (show zzSkip d i = false by unfold zzSkip zzY; rw [HX.out, d7, d0]; rfl)
                have hy0 : 0 ≤ ((d : Int) - (7 - (i : Int))) := by omega
                have hy7 : ((d : Int) - (7 - (i : Int))) ≤ 7 := by omega
                have hsp : pre ++ [8 * ((d : Int) - (7 - (i : Int))) + (7 - (i : Int))] <+: zzL := by
                  have h := HF.out
                  rw [zzIn_step d i hlt, HSK.out, HX.out, show zzY d i = ((d : Int) - (7 - (i : Int))) by unfold zzY; rw [HX.out]] at h
                  rw [h]
                  exact ⟨(if zzStop d i = true then [] else zzIn d (8 - (i + 1))) ++ zzD (15 - (d + 1)), by simp⟩
                obtain ⟨fn, tmps, assign, body, hyy, hR⟩ := HY.out pre (8 * ((d : Int) - (7 - (i : Int))) + (7 - (i : Int))) wr HIr.out HKr.out hsp
                have HR := Lib.hid hR; have HSP := Lib.hid hsp; have HS := Lib.hid hS
                clear hR hsp h7 h0 hS
                gi_wp2_with fail
                refine HR.out.mono ?_
                rintro e W3 (⟨rfl, hI3, hk3⟩ | ⟨rfl, hJx3⟩)
                · have HI3 := Lib.hid hI3; have HK3 := Lib.hid hk3
                  clear hI3 hk3 hyy
                  by_cases hst : ((7 - (i : Int)) == 0) = true
                  · have HST := Lib.hid (HS.out.trans hst)
                    gi_wp2_with fail
                    refine ⟨⟨d + 1, pre ++ [8 * ((d : Int) - (7 - (i : Int))) + (7 - (i : Int))], by simp, by omega, Lib.hid ?_, HI3, HK3⟩, ?_⟩
                    · have h := HF.out
                      rw [zzIn_step d i hlt, HSK.out, HX.out, HST.out, show zzY d i = ((d : Int) - (7 - (i : Int))) by unfold zzY; rw [HX.out]] at h
                      rw [h]; simp
                    · show 15 - ((d : Int) + 1).toNat < 15 - (d : Int).toNat
                      omega
                  · have hst : ((7 - (i : Int)) == 0) = false := by simpa using hst
                    have HST := Lib.hid (HS.out.trans hst)
                    gi_wp2_with fail
                    refine ⟨⟨i + 1, pre ++ [8 * ((d : Int) - (7 - (i : Int))) + (7 - (i : Int))], by simp, by omega, Lib.hid ?_, HI3, HK3⟩, ?_⟩
                    · have h := HF.out
                      rw [zzIn_step d i hlt, HSK.out, HX.out, HST.out, show zzY d i = ((d : Int) - (7 - (i : Int))) by unfold zzY; rw [HX.out]] at h
                      rw [h]; simp
                    · show 8 - ((i : Int) + 1).toNat < 8 - (i : Int).toNat
                      omega
                · gi_wp2_with fail
                  rw [Exit.noGoto_ret]
                  refine bodyPost_ret (results_none rfl _ _ _) rfl ?_
                  exact ⟨⟨_, rfl⟩, .inr ⟨_, HSP.out, hJx3⟩⟩
          · have hpar : ((d : Int) % 2 == 1) = false := by rw [beq_eq_false_iff_ne]; omega
            have hpar0 : ((d : Int) % 2 == 0) = true := by rw [beq_iff_eq]; omega
            have hX : zzX d i = (i : Int) := by unfold zzX; rw [if_neg (by omega)]
            have hS : zzStop d i = ((d : Int) - (i : Int) == 0) := by unfold zzStop zzY; rw [hX]; simp [show d % 2 = 0 by omega]
            have HX := Lib.hid hX
            clear hX
            by_cases h7 : 7 < ((d : Int) - (i : Int))
            · have d7 : decide (7 < ((d : Int) - (i : Int))) = true := decide_eq_true h7
              have HSK := Lib.hid (show zzSkip d i = true by unfold zzSkip zzY; rw [HX.out, d7]; rfl)
              clear h7 hS
              gi_wp2_with fail
              refine ⟨⟨i + 1, pre, by simp, by omega, Lib.hid (by have h := HF.out; rw [zzIn_step d i hlt, HSK.out] at h; exact h), HIr, HKr⟩, ?_⟩
              show 8 - ((i : Int) + 1).toNat < 8 - (i : Int).toNat
              omega
            · have d7 : decide (7 < ((d : Int) - (i : Int))) = false := decide_eq_false h7
              by_cases h0 : ((d : Int) - (i : Int)) < 0
              · have d0 : decide (((d : Int) - (i : Int)) < 0) = true := decide_eq_true h0
                have HSK := Lib.hid (show zzSkip d i = true by unfold zzSkip zzY; rw [HX.out, d7, d0]; rfl)
                clear h7 h0 hS
                gi_wp2_with fail
                refine ⟨⟨i + 1, pre, by simp, by omega, Lib.hid (by have h := HF.out; rw [zzIn_step d i hlt, HSK.out] at h; exact h), HIr, HKr⟩, ?_⟩
                show 8 - ((i : Int) + 1).toNat < 8 - (i : Int).toNat
                omega
              · have d0 : decide (((d : Int) - (i : Int)) < 0) = false := decide_eq_false h0
                have HSK := Lib.hid (show zzSkip d i = false by unfold zzSkip zzY; rw [HX.out, d7, d0]; rfl)
                have hy0 : 0 ≤ ((d : Int) - (i : Int)) := by omega
                have hy7 : ((d : Int) - (i : Int)) ≤ 7 := by omega
                have hsp : pre ++ [8 * ((d : Int) - (i : Int)) + (i : Int)] <+: zzL := by
                  have h := HF.out
                  rw [zzIn_step d i hlt, HSK.out, HX.out, show zzY d i = ((d : Int) - (i : Int)) by unfold zzY; rw [HX.out]] at h
                  rw [h]
                  exact ⟨(if zzStop d i = true then [] else zzIn d (8 - (i + 1))) ++ zzD (15 - (d + 1)), by simp⟩
                obtain ⟨fn, tmps, assign, body, hyy, hR⟩ := HY.out pre (8 * ((d : Int) - (i : Int)) + (i : Int)) wr HIr.out HKr.out hsp
                have HR := Lib.hid hR; have HSP := Lib.hid hsp; have HS := Lib.hid hS
                clear hR hsp h7 h0 hS
                gi_wp2_with fail
                refine HR.out.mono ?_
                rintro e W3 (⟨rfl, hI3, hk3⟩ | ⟨rfl, hJx3⟩)
                · have HI3 := Lib.hid hI3; have HK3 := Lib.hid hk3
                  clear hI3 hk3 hyy
                  by_cases hst : ((d : Int) - (i : Int) == 0) = true
                  · have HST := Lib.hid (HS.out.trans hst)
                    gi_wp2_with fail
                    refine ⟨⟨d + 1, pre ++ [8 * ((d : Int) - (i : Int)) + (i : Int)], by simp, by omega, Lib.hid ?_, HI3, HK3⟩, ?_⟩
                    · have h := HF.out
                      rw [zzIn_step d i hlt, HSK.out, HX.out, HST.out, show zzY d i = ((d : Int) - (i : Int)) by unfold zzY; rw [HX.out]] at h
                      rw [h]; simp
                    · show 15 - ((d : Int) + 1).toNat < 15 - (d : Int).toNat
                      omega
                  · have hst : ((d : Int) - (i : Int) == 0) = false := by simpa using hst
                    have HST := Lib.hid (HS.out.trans hst)
                    gi_wp2_with fail
                    refine ⟨⟨i + 1, pre ++ [8 * ((d : Int) - (i : Int)) + (i : Int)], by simp, by omega, Lib.hid ?_, HI3, HK3⟩, ?_⟩
                    · have h := HF.out
                      rw [zzIn_step d i hlt, HSK.out, HX.out, HST.out, show zzY d i = ((d : Int) - (i : Int)) by unfold zzY; rw [HX.out]] at h
                      rw [h]; simp
                    · show 8 - ((i : Int) + 1).toNat < 8 - (i : Int).toNat
                      omega
                · gi_wp2_with fail
                  rw [Exit.noGoto_ret]
                  refine bodyPost_ret (results_none rfl _ _ _) rfl ?_
                  exact ⟨⟨_, rfl⟩, .inr ⟨_, HSP.out, hJx3⟩⟩
        · have hie : i = 8 := by omega
          subst hie
          gi_wp2_with fail
          refine ⟨⟨d + 1, pre, by simp, by omega, Lib.hid (by have h := HF.out; rw [show zzIn d (8 - 8) = [] from rfl] at h; simpa using h), HIr, HKr⟩, ?_⟩
          show 15 - ((d : Int) + 1).toNat < 15 - (d : Int).toNat
          omega
    · have hde : d = 15 := by omega
      subst hde
      gi_wp2_with fail
      rw [Exit.noGoto_normal]
      refine bodyPost_end (results_none rfl _ _ _) rfl ?_
      have he : zzL = pre0 := by have h := HD.out; rw [show zzD (15 - 15) = [] from rfl] at h; simpa using h
      exact ⟨⟨_, rfl⟩, .inl (by first | exact ⟨_, he.symm, HI0.out, HK1.out⟩ | exact ⟨by rw [he]; exact HI0.out, HK1.out⟩)⟩
end Go.Proofs.YtcojnigkgbmbmaaGreatDoor
namespace Go.Proofs.YtcojnigkgbmbmaaGreatDoor
open Go Go.RowKit
attribute [local go_sem] Oper.semAt_some
def arrZ (pre : List Int) : List Value := pre.map intV ++ List.replicate (64 - pre.length) (intV 0)
theorem arrZ_len {pre : List Int} (h : pre.length ≤ 64) : (arrZ pre).length = 64 := by simp [arrZ]; omega
theorem arrZ_set {pre : List Int} (h : pre.length < 64) (x : Int) : (arrZ pre).set pre.length (intV x) = arrZ (pre ++ [x]) := by
  unfold arrZ
  obtain ⟨g, hg⟩ : ∃ g, 64 - pre.length = g + 1 := ⟨63 - pre.length, by omega⟩
  rw [hg, List.replicate_succ, List.set_append_right _ _ (by simp)]
  simp [show 64 - (pre.length + 1) = g by omega]
def csZ : Array Value := (zzL.map intV).toArray
theorem csZ_size : csZ.size = 64 := by simp [csZ, zzL_len]
theorem csZ_one : csZ.all (·.oneCell') = true := by
  rw [Array.all_eq_true]
  intro i hi
  simp [csZ, intV, Value.oneCell']
theorem csZ_get (k : Nat) (h : k < 64) : csZ[k]? = some (.int .i64 (zzL[k]'(by rw [zzL_len]; exact h))) := by
  simp [csZ, zzL_len, h, intV]
theorem scan_level (n : Int) (w : World) : Calls Tryz.prog 163 #[.int .i64 n] w fun e w' => e = .returned (.bool (decide (-127 ≤ n) && decide (n ≤ 127))) ∧ w = w' := by
  cases a : decide (-127 ≤ n) with
  | false =>
    simp only [Bool.false_and]
    go_enter Tryz.func163, Tryz.ntmps163
    go_wp2
    go_ret
    exact ⟨rfl, rfl⟩
  | true =>
    cases b : decide (n ≤ 127) with
    | false =>
      simp only [Bool.and_false]
      go_enter Tryz.func163, Tryz.ntmps163
      go_wp2
      go_ret
      exact ⟨rfl, rfl⟩
    | true =>
      simp only [Bool.and_self]
      go_enter Tryz.func163, Tryz.ntmps163
      go_wp2
      go_ret
      exact ⟨rfl, rfl⟩
set_option maxRecDepth 100000 in
set_option maxHeartbeats 4000000 in
theorem scan_places (w : World) : Calls Tryz.prog 162 #[] w fun e w' => e = .returned (.agg csZ) ∧ Below w.heap.size w w' := by
  obtain ⟨CS, hcs⟩ : ∃ CS, CS = csZ := ⟨_, rfl⟩
  rw [← hcs]
  have HCS := Lib.hid hcs
  clear hcs
  refine (callsIn_wide (n := 5)).1 ?_
  refine callsIn_of_wp_marks Tryz.func162 rfl trivial ?_ rfl
  simp only [Tryz.ntmps162, List.size_toArray, List.length_cons, List.length_nil, Nat.reduceAdd, Nat.reduceSub, Array.replicate_succ, Array.replicate_zero, List.push_toArray, List.append_toArray, List.nil_append, List.cons_append]
  refine wpIn_wide.2 ?_
  go_wp2_with (go_at_call 175; refine (scan_order _).mono ?_; rintro e w' ⟨rfl, rfl⟩)
  refine (wpIn_wide (n := 5)).1 ?_
  refine wp_uF (α := Int) (enc := fun x => #[.int .i64 x]) (I := ICons w (fun (pre : List Int) (_ : Unit) => pre.length ≤ 64) (fun pre _ => [(w.heap.size, 195, (arrZ pre).toArray), (w.heap.size + 1, 3, #[.int .i64 (pre.length : Int)])]) (fun _ _ => [])) (I2 := ICons w (fun (pre : List Int) (_ : Unit) => pre.length ≤ 64) (fun pre _ => [(w.heap.size, 195, (arrZ pre).toArray), (w.heap.size + 1, 3, #[.int .i64 (pre.length : Int)])]) (fun _ _ => [])) (S := fun xs => xs = zzL) (Sp := fun pre => pre <+: zzL)
    rfl (by decide) (gf := 188) (lb := #[]) rfl trivial (enters_of Tryz.func188 (by kernel_rfl) rfl)
    (order_seq 4 (by decide) _) (fun _ => rfl)
    (fun _ _ _ => False)
    (fun pre _ _ W => ICons w (fun (pre : List Int) (_ : Unit) => pre.length ≤ 64) (fun pre _ => [(w.heap.size, 195, (arrZ pre).toArray), (w.heap.size + 1, 3, #[.int .i64 (pre.length : Int)])]) (fun _ _ => []) pre W)
    (own_ic (by simp; omega) _ _ _) (own_ic (by simp; omega) _ _ _) (fun _ _ _ _ _ h _ _ => h) (fun x g => own_ic (by simp; omega) _ _ _) ?start ?round ?done ?stop
  case start =>
    refine ⟨⟨(), by simp, ?_, ?_, rowsAt_nil _⟩⟩
    · exact ((Below.refl _ _).alloc (Nat.le_refl _) _).alloc (by simp) _
    · refine CellsAt.cons ?_ (CellsAt.cons ?_ (cellsAt_nil _))
      · exact (Blk.new w 195 _).alloc _
      · (repeat (first | (refine blkAt (Blk.new _ _ _) ?_; simp [World.size_alloc]; done) | refine Blk.alloc ?_ _))
  case round =>
    apply Exists.intro
    refine And.intro ?_ ?_
    · rintro lp pre x W hI hsp
      clear hsp
      gi_wp2
      obtain ⟨g0, _⟩ : ∃ g0 : Nat, g0 = 0 := ⟨_, rfl⟩
      exact ⟨⟨g0, rfl, hI⟩, KeepsFrom.refl _ _⟩
    · rintro lp pre x g W ⟨⟨_, hu, hc⟩⟩ hsp
      have hl : pre.length < 64 := by have := hsp.length_le; rw [zzL_len] at this; simp at this; omega
      have hli : (pre.length : Int) < 64 := by omega
      have hl0 : ¬ ((pre.length : Int) < 0) := by omega
      have hw1 : IntKind.i64.wrap ((pre.length : Int) + 1) = (pre.length : Int) + 1 := by rw [IntKind.wrap_i64]; omega
      have b0 := hc.2.1.head
      have b1 := hc.2.1.tail.head
      dsimp only at b0 b1
      have x1 := b1.cell 0
      have f1 := b1.frozen 0
      obtain ⟨v0, x0⟩ : ∃ v0, W.cell? ⟨w.heap.size, pre.length, none⟩ = some v0 := by rw [b0.cell, List.getElem?_toArray]; exact ⟨_, List.getElem?_eq_getElem (by rw [arrZ_len hu]; exact hl)⟩
      have f0 := b0.frozen pre.length
      have HC := Lib.hid hc; have HL := Lib.hid hl; have HSET := Lib.hid (arrZ_set hl x)
      clear hc b0 b1 hsp hu
      gi_wp2_with fail
      refine ⟨kf_set (kf_set (KeepsFrom.refl _ _) _ _) _ _, trivial, ⟨⟨(), ?_, ?_⟩⟩⟩
      · have := HL.out; rw [List.length_append]; simp; omega
      · have h1 := cons_set HC.out (Nat.le_refl _) pre.length (.int .i64 x) (by simp) (by simp)
        have h2 := cons_set (cons_cswap h1) (Nat.le_succ _) 0 (.int .i64 ((pre.length : Int) + 1)) (by simp) (by simp)
        have h3 := cons_cswap h2
        rw [List.setIfInBounds_toArray, show (arrZ pre).set pre.length (Value.int .i64 x) = arrZ (pre ++ [x]) from HSET.out] at h3
        rw [List.length_append]
        exact h3
  case done =>
    rintro D xs W hD rfl ⟨⟨_, hu, hc⟩⟩ hK
    have hb : Blk W w.heap.size 195 CS := by
      rw [HCS.out]
      have h := hc.2.1.head
      dsimp only at h
      rw [show arrZ zzL = zzL.map intV by simp [arrZ, zzL_len]] at h
      exact h
    have hsz : CS.size = 64 := by rw [HCS.out]; exact csZ_size
    have hone : CS.all (·.oneCell') = true := by rw [HCS.out]; exact csZ_one
    have hinf : (Tryz.prog.info? 195).map (·.size) = some CS.size := by rw [hsz]; kernel_rfl
    have HB := Lib.hid hb; have HBe := Lib.hid hc.1; have HK := Lib.hid hK; have HI := Lib.hid hinf; have HO := Lib.hid hone
    clear hc hu hb hsz hone hinf hK
    gi_wp2_with fail
    go_wp2_with (first
      | (refine wpList_load_row rfl 195 _ rfl w.heap.size rfl 195 CS (0, 0) _ HB.out Tryz.underlying195 rfl HI.out ?_)
      | (refine wpList_store_rowTo rfl 195 _ _ rfl rfl w.heap.size CS rfl rfl 195 CS HB.out HI.out rfl HO.out ?_))
    rw [setRow_self _ _ CS 195 (0, 0) HB.out]
    have hb4 : Blk (W.putObj D (.deferred none)) w.heap.size 195 CS := (cells_put (L := [(w.heap.size, 195, CS)]) (o' := .deferred none) (CellsAt.cons HB.out (cellsAt_nil _)) HK.out rfl).head
    simp only [Act.put]
    exact retM HK.out (results_cell_row rfl _ _ w.heap.size 195 CS (0, 0) _ rfl hb4 Tryz.underlying195 rfl HI.out) ⟨rfl, below_put HBe.out (by simp at hD; omega)⟩
  case stop =>
    rintro D cd pre W hD hsp h hK
    exact h.elim
end Go.Proofs.YtcojnigkgbmbmaaGreatDoor
namespace Go.Proofs.YtcojnigkgbmbmaaGreatDoor
open Go Go.RowKit
attribute [local go_sem] Oper.semAt_some
def pairC (p : Int × Int) : List Value := [.int .i64 p.1, .int .i64 p.2]
theorem pairC_len (p : Int × Int) : (pairC p).length = 2 := rfl
theorem sl_pair {w : World} {A : Option Addr} {l : List (Int × Int)} (h : Sl w A (rowC pairC l)) (i : Nat) (hi : i < l.length) : ∃ ad, A = some ad ∧ ad.block < w.heap.size ∧ w.cell? (ad.add (i * 2)) = some (.int .i64 l[i].1) ∧ w.cell? ⟨(ad.add (i * 2)).block, (ad.add (i * 2)).off + 1, none⟩ = some (.int .i64 l[i].2) := by
  have h0 := rowC_get pairC_len l i hi 0 (by decide)
  have h1 := rowC_get pairC_len l i hi 1 (by decide)
  rw [Nat.add_zero] at h0
  obtain ⟨ad, rfl, hl, c0⟩ := h _ _ (h0.trans rfl)
  obtain ⟨ad', e, _, c1⟩ := h _ _ (h1.trans rfl)
  cases e
  rw [← addr_add_add] at c1
  exact ⟨ad, rfl, hl, c0, c1⟩
def zzAt (k : Nat) : Int := zzL.getD k 0
theorem zzAt_range (k : Nat) (h : k < 64) : 0 ≤ zzAt k ∧ zzAt k ≤ 63 := by
  have hm : zzAt k ∈ zzL := by unfold zzAt; rw [List.getD_eq_getElem?_getD, List.getElem?_eq_getElem (by rw [zzL_len]; exact h)]; exact List.getElem_mem _
  exact zzL_range _ hm
theorem csZ_at (k : Nat) (h : k < 64) : csZ[k]? = some (.int .i64 (zzAt k)) := by
  rw [csZ_get k h]; unfold zzAt; rw [List.getD_eq_getElem?_getD, List.getElem?_eq_getElem (by rw [zzL_len]; exact h)]; rfl
/-- the block that pairs are spread to. -/
def spreadB : List Int → List (Int × Int) → Int → List Int
  | B, [], _ => B
  | B, p :: l, a => spreadB (B.set (zzAt (a + p.1).toNat).toNat p.2) l (a + p.1 + 1)
def zeros64 : List Int := List.replicate 64 0
def spreadL (l : List (Int × Int)) (fr : Int) : List Int := spreadB zeros64 l fr
theorem spread_cons (p : Int × Int) (l : List (Int × Int)) (a : Int) : spreadP (p :: l) a = if p.2 == 0 || !(decide (-127 ≤ p.2) && decide (p.2 ≤ 127)) then 10 else if decide (p.1 < 0) || decide (63 - a < p.1) then 11 else spreadP l (a + p.1 + 1) := rfl
def SprPost (l : List (Int × Int)) (fr : Int) (w : World) (e : Ending) (w' : World) : Prop := ∃ v, e = .returned (.tuple #[v, .int .i64 (spreadP l fr)]) ∧ Below w.heap.size w w' ∧
  (spreadP l fr = 0 → ∃ b, v = .slice (some ⟨b, 0, none⟩) 64 64 ∧ Blk w' b 195 ((spreadL l fr).map intV).toArray) ∧ (spreadP l fr ≠ 0 → v = .slice none 0 0)
set_option maxRecDepth 100000 in
set_option maxHeartbeats 4000000 in
theorem scan_Spread (l : List (Int × Int)) (A : Option Addr) (n c : Nat) (fr : Int) (hfr : fr = 0 ∨ fr = 1) (w : World) (hS : Sl w A (rowC pairC l)) (hn : l.length = n) (hsz : n ≤ 1099511627776) :
    Calls Tryz.prog 138 #[.slice A n c, .int .i64 fr] w (SprPost l fr w) := by
  obtain ⟨E, hE⟩ : ∃ E, spreadP l fr = E := ⟨_, rfl⟩
  obtain ⟨BL, hBL⟩ : ∃ B, spreadL l fr = B := ⟨_, rfl⟩
  unfold SprPost
  rw [hE, hBL]
  have HE := Lib.hid hE; have HBL := Lib.hid hBL; have HS := Lib.hid hS; have HN := Lib.hid hn
  clear hE hBL hS hn
  obtain ⟨CS, hcs⟩ : ∃ CS, CS = csZ := ⟨_, rfl⟩
  have CP := Lib.hid (fun W => scan_places W)
  rw [← hcs] at CP
  have hsz2 : CS.size = 64 := by rw [hcs]; exact csZ_size
  have hinf : (Tryz.prog.info? 195).map (·.size) = some CS.size := by rw [hsz2]; kernel_rfl
  have HI := Lib.hid hinf
  have HO := Lib.hid (show CS.all (·.oneCell') = true by rw [hcs]; exact csZ_one)
  have HSZ := Lib.hid hsz2
  have HCS := Lib.hid hcs
  clear hsz2 hinf hcs
  have hz : Blk (w.alloc (.cells (zeros64.map intV).toArray 195)) w.heap.size 195 (zeros64.map intV).toArray := Blk.new _ _ _
  have HZ := Lib.hid hz
  clear hz
  rcases hfr with rfl | rfl
  all_goals
    go_enter Tryz.func138, Tryz.ntmps138
    go_wp2_with (first
      | (go_at_call 162; refine (CP.out _).mono ?_; rintro e w2 ⟨rfl, hb2⟩; have HB2 := Lib.hid hb2; have HZ2 := Lib.hid (HZ.out.below hb2 HZ.out.lt); clear hb2)
      | (refine wpList_store_rowTo rfl 195 _ _ rfl rfl w2.heap.size CS rfl rfl 195 (zeros64.map intV).toArray (heap_alloc_new w2 _) HI.out (by rw [HSZ.out]; rfl) HO.out ?_))
    have hW0 : ((w2.alloc (.cells #[.int .i64 0, .int .i64 0, .int .i64 0, .int .i64 0, .int .i64 0, .int .i64 0, .int .i64 0, .int .i64 0, .int .i64 0, .int .i64 0, .int .i64 0, .int .i64 0, .int .i64 0, .int .i64 0, .int .i64 0, .int .i64 0, .int .i64 0, .int .i64 0, .int .i64 0, .int .i64 0, .int .i64 0, .int .i64 0, .int .i64 0, .int .i64 0, .int .i64 0, .int .i64 0, .int .i64 0, .int .i64 0, .int .i64 0, .int .i64 0, .int .i64 0, .int .i64 0, .int .i64 0, .int .i64 0, .int .i64 0, .int .i64 0, .int .i64 0, .int .i64 0, .int .i64 0, .int .i64 0, .int .i64 0, .int .i64 0, .int .i64 0, .int .i64 0, .int .i64 0, .int .i64 0, .int .i64 0, .int .i64 0, .int .i64 0, .int .i64 0, .int .i64 0, .int .i64 0, .int .i64 0, .int .i64 0, .int .i64 0, .int .i64 0, .int .i64 0, .int .i64 0, .int .i64 0, .int .i64 0, .int .i64 0, .int .i64 0, .int .i64 0, .int .i64 0] 195)).setRow w2.heap.size CS).heap[w2.heap.size]? = some (.cells CS 195 (0, 0)) := setRow_heap _ w2.heap.size (zeros64.map intV).toArray CS 195 (0, 0) (heap_alloc_new w2 _)
    have hB0 : Below w2.heap.size w2 ((w2.alloc (.cells #[.int .i64 0, .int .i64 0, .int .i64 0, .int .i64 0, .int .i64 0, .int .i64 0, .int .i64 0, .int .i64 0, .int .i64 0, .int .i64 0, .int .i64 0, .int .i64 0, .int .i64 0, .int .i64 0, .int .i64 0, .int .i64 0, .int .i64 0, .int .i64 0, .int .i64 0, .int .i64 0, .int .i64 0, .int .i64 0, .int .i64 0, .int .i64 0, .int .i64 0, .int .i64 0, .int .i64 0, .int .i64 0, .int .i64 0, .int .i64 0, .int .i64 0, .int .i64 0, .int .i64 0, .int .i64 0, .int .i64 0, .int .i64 0, .int .i64 0, .int .i64 0, .int .i64 0, .int .i64 0, .int .i64 0, .int .i64 0, .int .i64 0, .int .i64 0, .int .i64 0, .int .i64 0, .int .i64 0, .int .i64 0, .int .i64 0, .int .i64 0, .int .i64 0, .int .i64 0, .int .i64 0, .int .i64 0, .int .i64 0, .int .i64 0, .int .i64 0, .int .i64 0, .int .i64 0, .int .i64 0, .int .i64 0, .int .i64 0, .int .i64 0, .int .i64 0] 195)).setRow w2.heap.size CS) := below_setRow' ((Below.refl _ _).alloc (Nat.le_refl _) _) (Nat.le_refl _) CS
    have hZ0 := HZ2.out.below hB0 HZ2.out.lt
    have hT0 : Below w.heap.size w ((w2.alloc (.cells #[.int .i64 0, .int .i64 0, .int .i64 0, .int .i64 0, .int .i64 0, .int .i64 0, .int .i64 0, .int .i64 0, .int .i64 0, .int .i64 0, .int .i64 0, .int .i64 0, .int .i64 0, .int .i64 0, .int .i64 0, .int .i64 0, .int .i64 0, .int .i64 0, .int .i64 0, .int .i64 0, .int .i64 0, .int .i64 0, .int .i64 0, .int .i64 0, .int .i64 0, .int .i64 0, .int .i64 0, .int .i64 0, .int .i64 0, .int .i64 0, .int .i64 0, .int .i64 0, .int .i64 0, .int .i64 0, .int .i64 0, .int .i64 0, .int .i64 0, .int .i64 0, .int .i64 0, .int .i64 0, .int .i64 0, .int .i64 0, .int .i64 0, .int .i64 0, .int .i64 0, .int .i64 0, .int .i64 0, .int .i64 0, .int .i64 0, .int .i64 0, .int .i64 0, .int .i64 0, .int .i64 0, .int .i64 0, .int .i64 0, .int .i64 0, .int .i64 0, .int .i64 0, .int .i64 0, .int .i64 0, .int .i64 0, .int .i64 0, .int .i64 0, .int .i64 0] 195)).setRow w2.heap.size CS) := ((((Below.refl _ w).alloc (Nat.le_refl _) (.cells (zeros64.map intV).toArray 195)).trans (HB2.out.mono (by simp)))).trans (hB0.mono (by have := HB2.out.size; simp at this; omega))
    generalize ((w2.alloc (.cells #[.int .i64 0, .int .i64 0, .int .i64 0, .int .i64 0, .int .i64 0, .int .i64 0, .int .i64 0, .int .i64 0, .int .i64 0, .int .i64 0, .int .i64 0, .int .i64 0, .int .i64 0, .int .i64 0, .int .i64 0, .int .i64 0, .int .i64 0, .int .i64 0, .int .i64 0, .int .i64 0, .int .i64 0, .int .i64 0, .int .i64 0, .int .i64 0, .int .i64 0, .int .i64 0, .int .i64 0, .int .i64 0, .int .i64 0, .int .i64 0, .int .i64 0, .int .i64 0, .int .i64 0, .int .i64 0, .int .i64 0, .int .i64 0, .int .i64 0, .int .i64 0, .int .i64 0, .int .i64 0, .int .i64 0, .int .i64 0, .int .i64 0, .int .i64 0, .int .i64 0, .int .i64 0, .int .i64 0, .int .i64 0, .int .i64 0, .int .i64 0, .int .i64 0, .int .i64 0, .int .i64 0, .int .i64 0, .int .i64 0, .int .i64 0, .int .i64 0, .int .i64 0, .int .i64 0, .int .i64 0, .int .i64 0, .int .i64 0, .int .i64 0, .int .i64 0] 195)).setRow w2.heap.size CS) = W0 at hW0 hB0 hZ0 hT0 ⊢
    have hlt2 : w.heap.size < w2.heap.size := HZ2.out.lt
    have HC0 : Hid (Cons w [(w.heap.size, 195, (zeros64.map intV).toArray), (w2.heap.size, 195, CS)] [] W0) := Lib.hid ⟨hT0, CellsAt.cons hZ0 (CellsAt.cons hW0 (cellsAt_nil _)), rowsAt_nil _⟩
    have HLT2 := Lib.hid hlt2
    clear hW0 hB0 hZ0 hT0 HZ2 HB2 CP HZ hlt2
    generalize w2.heap.size = b8 at HC0 HLT2 ⊢
    go_loopg [7, 21] n (fun g v7 v21 => fun wr => ∃ (j a : Nat) (B : List Int), j + g = n ∧ v7 = .int .i64 (a : Int) ∧ v21 = .int .i64 (j : Int) ∧ a ≤ 64 ∧ B.length = 64 ∧ Hid (spreadP (l.drop j) (a : Int) = E) ∧ Hid (spreadB B (l.drop j) (a : Int) = BL) ∧ Hid (Cons w [(w.heap.size, 195, (B.map intV).toArray), (b8, 195, CS)] [] wr))
    case atStart => exact ⟨0, _, zeros64, by omega, rfl, rfl, by decide, by decide, HE, HBL, HC0⟩
    case round =>
      obtain ⟨j, a, B, hj, rfl, rfl, ha, hBl, HP, HQ, HC⟩ := hrel
      cases gk with
      | zero =>
        have hjn : j = n := by omega
        have hlt : ¬ ((j : Int) < (n : Int)) := by omega
        have hp := HP.out
        have hq := HQ.out
        rw [List.drop_eq_nil_of_le (by rw [HN.out]; omega)] at hp hq
        have HP2 := Lib.hid (show (0 : Int) = E from hp)
        have HQ2 := Lib.hid (show B = BL from hq)
        clear hp hq
        go_wp2_with fail
        go_ret2
        refine ⟨_, by rw [← HP2.out]; rfl, HC.out.1, fun _ => ⟨w.heap.size, rfl, by rw [← HQ2.out]; exact HC.out.2.1.head⟩, fun h => absurd HP2.out.symm h⟩
      | succ g =>
        have hlt : ((j : Int) < (n : Int)) := by omega
        have hjl : j < l.length := by rw [HN.out]; omega
        obtain ⟨ad, rfl, hab, c0, c1⟩ := sl_pair (HS.out.below HC.out.1) j hjl
        have hp := HP.out
        have hq := HQ.out
        rw [List.drop_eq_getElem_cons hjl] at hp hq
        obtain ⟨⟨p1, p2⟩, hpe⟩ : ∃ p, l[j] = p := ⟨_, rfl⟩
        rw [hpe] at c0 c1 hp hq
        rw [spread_cons] at hp
        dsimp only at c0 c1 hp
        have hq : spreadB (B.set (zzAt ((a : Int) + p1).toNat).toNat p2) (l.drop (j + 1)) ((a : Int) + p1 + 1) = BL := hq
        have HPP := Lib.hid hp; have HQQ := Lib.hid hq; have HBl := Lib.hid hBl
        have hw1 : IntKind.i64.wrap ((j : Int) + 1) = (j : Int) + 1 := by rw [IntKind.wrap_i64]; omega
        clear hp hq hpe hjl hBl
        cases hz : (p2 == 0) with
        | true =>
          have HEE := Lib.hid (show (10 : Int) = E by have h := HPP.out; rw [hz] at h; exact h)
          go_wp2_with (go_at_call 163; refine (scan_level _ _).mono ?_; rintro e w' ⟨rfl, rfl⟩)
          go_ret2
          exact ⟨_, by rw [← HEE.out]; rfl, HC.out.1.alloc HC.out.1.size _, fun h => absurd (HEE.out.trans h) (by decide), fun _ => rfl⟩
        | false =>
          cases hl : (decide (-127 ≤ p2) && decide (p2 ≤ 127)) with
          | false =>
            have HEE := Lib.hid (show (10 : Int) = E by have h := HPP.out; rw [hz, hl] at h; exact h)
            go_wp2_with (go_at_call 163; refine (scan_level _ _).mono ?_; rintro e w' ⟨rfl, rfl⟩)
            go_ret2
            exact ⟨_, by rw [← HEE.out]; rfl, HC.out.1.alloc HC.out.1.size _, fun h => absurd (HEE.out.trans h) (by decide), fun _ => rfl⟩
          | true =>
            by_cases hr0 : p1 < 0
            · have d0 : decide (p1 < 0) = true := decide_eq_true hr0
              have HEE := Lib.hid (show (11 : Int) = E by have h := HPP.out; rw [hz, hl, d0] at h; exact h)
              clear hr0
              go_wp2_with (go_at_call 163; refine (scan_level _ _).mono ?_; rintro e w' ⟨rfl, rfl⟩)
              go_ret2
              exact ⟨_, by rw [← HEE.out]; rfl, HC.out.1.alloc HC.out.1.size _, fun h => absurd (HEE.out.trans h) (by decide), fun _ => rfl⟩
            · have d0 : decide (p1 < 0) = false := decide_eq_false hr0
              by_cases hr1 : 63 - (a : Int) < p1
              · have d1 : decide (63 - (a : Int) < p1) = true := decide_eq_true hr1
                have HEE := Lib.hid (show (11 : Int) = E by have h := HPP.out; rw [hz, hl, d0, d1] at h; exact h)
                clear hr0 hr1
                go_wp2_with (go_at_call 163; refine (scan_level _ _).mono ?_; rintro e w' ⟨rfl, rfl⟩)
                go_ret2
                exact ⟨_, by rw [← HEE.out]; rfl, HC.out.1.alloc HC.out.1.size _, fun h => absurd (HEE.out.trans h) (by decide), fun _ => rfl⟩
              · have d1 : decide (63 - (a : Int) < p1) = false := decide_eq_false hr1
                have HEE := Lib.hid (show spreadP (l.drop (j + 1)) ((a : Int) + p1 + 1) = E by have h := HPP.out; rw [hz, hl, d0, d1] at h; exact h)
                obtain ⟨r, rfl⟩ := Int.eq_ofNat_of_zero_le (by omega : 0 ≤ p1)
                obtain ⟨q, hqd⟩ : ∃ q, q = a + r := ⟨_, rfl⟩
                have hq63 : q ≤ 63 := by omega
                obtain ⟨z, hze⟩ : ∃ z : Nat, zzAt q = (z : Int) := ⟨(zzAt q).toNat, by have := zzAt_range q (by omega); omega⟩
                have hz63 : z ≤ 63 := by have := zzAt_range q (by omega); omega
                have hqi : (a : Int) + (r : Int) = (q : Int) := by omega
                have HQ3 := Lib.hid (show spreadB (B.set z p2) (l.drop (j + 1)) ((q : Int) + 1) = BL by have h := HQQ.out; rw [hqi, Int.toNat_natCast, hze, Int.toNat_natCast] at h; exact h)
                rw [hqi] at HEE
                have HCA := Lib.hid (cons_alloc HC.out (.cells #[.int .i64 (r : Int), .int .i64 p2] 109))
                have x8 : (wr.alloc (.cells #[.int .i64 (r : Int), .int .i64 p2] 109)).cell? ⟨b8, q, none⟩ = some (.int .i64 (z : Int)) := by
                  have h := HCA.out.2.1.tail.head
                  dsimp only at h
                  rw [h.cell, HCS.out, csZ_at q (by omega), hze]
                have xp := (Blk.new wr 109 #[.int .i64 (r : Int), .int .i64 p2]).cell 1
                have fz := HCA.out.2.1.head.frozen z
                obtain ⟨vz, xz⟩ : ∃ vz, (wr.alloc (.cells #[.int .i64 (r : Int), .int .i64 p2] 109)).cell? ⟨w.heap.size, z, none⟩ = some vz := by
                  have h := HCA.out.2.1.head
                  dsimp only at h
                  rw [h.cell, List.getElem?_toArray]
                  exact ⟨_, List.getElem?_eq_getElem (by rw [List.length_map, HBl.out]; omega)⟩
                have hqn : ¬ ((q : Int) < 0) := by omega
                have hq64 : (q : Int) < 64 := by omega
                have hzn : ¬ ((z : Int) < 0) := by omega
                have hz64 : (z : Int) < 64 := by omega
                have hw2 : IntKind.i64.wrap ((q : Int) + 1) = (q : Int) + 1 := by rw [IntKind.wrap_i64]; omega
                have hw3 : IntKind.i64.wrap ((a : Int) + (r : Int)) = (q : Int) := by rw [hqi, IntKind.wrap_i64]; omega
                have hne : b8 ≠ w.heap.size := by have := HLT2.out; omega
                have HQD := Lib.hid hqd
                clear hr0 hr1 hze hqd HPP HQQ
                go_wp2_with (go_at_call 163; refine (scan_level _ _).mono ?_; rintro e w' ⟨rfl, rfl⟩)
                refine wp_region_treeN (fun w' => w'.cell? ⟨b8, q, none⟩ = some (.int .i64 (z : Int)) ∧ w'.cell? ⟨wr.heap.size, 1, none⟩ = some (.int .i64 p2)) 5 (.take 0 (.take 1 (.take 2 (.take 3 (.take 4 .done))))) (by kernel_rfl) (by kernel_rfl) (by simp only [Pln.out, Array.getD_eq_getD_getElem?, List.getElem?_toArray, List.getElem?_cons_zero, List.getElem?_cons_succ, Option.getD_some]; rfl) (by simp only [List.map_cons, List.map_nil]; rfl) (⟨x8, xp⟩) (fun PE hPE => ?_)
                refine tree_take (v := ?_) rfl (by rfl) ?_ ?_
                rotate_left
                · intro _ hSw; (try dsimp only at hSw); obtain ⟨s0, s1⟩ := hSw; go_simp; (try with_reducible rfl)
                simp only [List.setIfInBounds_toArray, List.set_cons_zero, List.set_cons_succ]
                refine tree_take (v := ?_) rfl (by rfl) ?_ ?_
                rotate_left
                · intro _ hSw; (try dsimp only at hSw); obtain ⟨s0, s1⟩ := hSw; go_simp; (try with_reducible rfl)
                simp only [List.setIfInBounds_toArray, List.set_cons_zero, List.set_cons_succ]
                refine tree_take (v := ?_) rfl (by rfl) ?_ ?_
                rotate_left
                · intro _ hSw; (try dsimp only at hSw); obtain ⟨s0, s1⟩ := hSw; go_simp; (try with_reducible rfl)
                simp only [List.setIfInBounds_toArray, List.set_cons_zero, List.set_cons_succ]
                refine tree_take (v := ?_) rfl (by rfl) ?_ ?_
                rotate_left
                · intro _ hSw; (try dsimp only at hSw); obtain ⟨s0, s1⟩ := hSw; go_simp; (try with_reducible rfl)
                simp only [List.setIfInBounds_toArray, List.set_cons_zero, List.set_cons_succ]
                refine tree_take (v := ?_) rfl (by rfl) ?_ ?_
                rotate_left
                · intro _ hSw; (try dsimp only at hSw); obtain ⟨s0, s1⟩ := hSw; go_simp; (try with_reducible rfl)
                simp only [List.setIfInBounds_toArray, List.set_cons_zero, List.set_cons_succ]
                refine hPE _ _ ?_
                clear hPE PE
                simp only [List.drop_succ_cons, List.drop_zero, List.drop_nil]
                go_wp2_with fail
                refine ⟨rfl, ?_⟩
                go_wp2_with fail
                go_roundg g
                case measure => omega
                case rel =>
                  refine ⟨j + 1, q + 1, B.set z p2, by omega, by simp, by simp, by omega, by rw [List.length_set]; exact HBl.out, HEE, HQ3, Lib.hid ?_⟩
                  have h := cons_drew (cons_set HCA.out (Nat.le_refl _) z (.int .i64 p2) (by simpa using hne) (by simp))
                  rw [List.setIfInBounds_toArray, show ((B.map intV).set z (Value.int .i64 p2)) = (B.set z p2).map intV by rw [List.map_set]; rfl] at h
                  exact h
end Go.Proofs.YtcojnigkgbmbmaaGreatDoor
namespace Go.Proofs.YtcojnigkgbmbmaaGreatDoor
open Go Go.RowKit
attribute [local go_sem] Oper.semAt_some
def kndV (dc : Int) (A : Option Addr) (n c : Nat) (intra : Bool) : Value := .agg #[.int .i64 dc, .slice A n c, .bool intra]
def dcP (dc : Int) (n : Nat) (intra : Bool) : Int :=
  if intra && (decide (dc < 1) || decide (255 < dc) || dc == 128) then 10 else if !intra && (dc != 0 || n == 0) then 2 else 0
theorem bchk_dc (x : BlkM) (intra : Bool) : bchkP x intra = if dcP x.dc x.l.length intra == 0 then spreadP x.l (frstP intra) else dcP x.dc x.l.length intra := by
  have hl : (x.l == []) = (x.l.length == 0) := by cases x.l <;> rfl
  unfold bchkP dcP
  rw [hl]
  split
  · rfl
  · split
    · rfl
    · rfl
theorem block_first (dc : Int) (A : Option Addr) (n c : Nat) (intra : Bool) (w : World) : Calls Tryz.prog 139 #[kndV dc A n c intra] w fun e w' => e = .returned (.int .i64 (frstP intra)) ∧ Below w.heap.size w w' := by
  unfold kndV
  cases intra with
  | false =>
    go_enter Tryz.func139, Tryz.ntmps139
    go_wp2
    go_ret
    exact ⟨rfl, (Below.refl _ _).alloc (Nat.le_refl _) _⟩
  | true =>
    go_enter Tryz.func139, Tryz.ntmps139
    go_wp2
    go_ret
    exact ⟨rfl, (Below.refl _ _).alloc (Nat.le_refl _) _⟩
theorem block_dc (dc : Int) (A : Option Addr) (n c : Nat) (intra : Bool) (w : World) : Calls Tryz.prog 106 #[kndV dc A n c intra] w fun e w' => e = .returned (.int .i64 (dcP dc n intra)) ∧ Below w.heap.size w w' := by
  unfold kndV dcP
  cases intra with
  | true =>
    rw [Bool.true_and, Bool.not_true, Bool.false_and]
    cases d1 : decide (dc < 1) with
    | true =>
      rw [Bool.true_or, Bool.true_or, if_pos rfl]
      go_enter Tryz.func106, Tryz.ntmps106
      go_wp2
      go_ret
      exact ⟨rfl, (Below.refl _ _).alloc (Nat.le_refl _) _⟩
    | false =>
      cases d2 : decide (255 < dc) with
      | true =>
        rw [Bool.false_or, Bool.true_or, if_pos rfl]
        go_enter Tryz.func106, Tryz.ntmps106
        go_wp2
        go_ret
        exact ⟨rfl, (Below.refl _ _).alloc (Nat.le_refl _) _⟩
      | false =>
        cases d3 : (dc == 128) with
        | true =>
          rw [Bool.false_or, Bool.false_or, if_pos rfl]
          go_enter Tryz.func106, Tryz.ntmps106
          go_wp2
          go_ret
          exact ⟨rfl, (Below.refl _ _).alloc (Nat.le_refl _) _⟩
        | false =>
          rw [Bool.false_or, Bool.false_or, if_neg (by decide), if_neg (by decide)]
          go_enter Tryz.func106, Tryz.ntmps106
          go_wp2
          go_ret
          exact ⟨rfl, (Below.refl _ _).alloc (Nat.le_refl _) _⟩
  | false =>
    rw [Bool.false_and, Bool.not_false, Bool.true_and, if_neg (by decide)]
    cases d1 : (dc != 0) with
    | true =>
      rw [Bool.true_or, if_pos rfl]
      go_enter Tryz.func106, Tryz.ntmps106
      go_wp2
      go_ret
      exact ⟨rfl, (Below.refl _ _).alloc (Nat.le_refl _) _⟩
    | false =>
      rw [Bool.false_or]
      rcases Nat.eq_zero_or_pos n with rfl | hn
      · rw [if_pos (show ((0 : Nat) == 0) = true from rfl)]
        go_enter Tryz.func106, Tryz.ntmps106
        go_wp2
        go_ret
        exact ⟨rfl, (Below.refl _ _).alloc (Nat.le_refl _) _⟩
      · have d2 : (n == 0) = false := by simp; omega
        have d3 : ((n : Int) == 0) = false := by simp; omega
        rw [d2, if_neg (by decide)]
        go_enter Tryz.func106, Tryz.ntmps106
        go_wp2
        go_ret
        exact ⟨rfl, (Below.refl _ _).alloc (Nat.le_refl _) _⟩
set_option maxRecDepth 100000 in
theorem block_pairs (dc : Int) (l : List (Int × Int)) (A : Option Addr) (n c : Nat) (intra : Bool) (w : World) (hS : Sl w A (rowC pairC l)) (hn : l.length = n) (hsz : n ≤ 1099511627776) : Calls Tryz.prog 107 #[kndV dc A n c intra] w fun e w' => e = .returned (.int .i64 (spreadP l (frstP intra))) ∧ Below w.heap.size w w' := by
  have hfr : frstP intra = 0 ∨ frstP intra = 1 := by cases intra; exact .inl rfl; exact .inr rfl
  have C1 := Lib.hid (fun W => block_first dc A n c intra W)
  have C2 := Lib.hid (fun W hW => scan_Spread l A n c (frstP intra) hfr W hW hn hsz)
  have HS := Lib.hid hS
  unfold kndV at C1 ⊢
  generalize frstP intra = fr at *
  obtain ⟨sp, hsp⟩ : ∃ sp, spreadP l fr = sp := ⟨_, rfl⟩
  rw [hsp]
  clear hS hfr hn hsz
  go_enter Tryz.func107, Tryz.ntmps107
  go_wp2_with fail
  have hb0 : Blk (w.alloc (.cells #[.int .i64 dc, .slice A n c, .bool intra] 135)).drew w.heap.size 135 #[.int .i64 dc, .slice A n c, .bool intra] := (Blk.new w _ _).drew1
  have hB0 : Below w.heap.size w (w.alloc (.cells #[.int .i64 dc, .slice A n c, .bool intra] 135)).drew := ((Below.refl w.heap.size w).alloc (Nat.le_refl _) _).drew
  have y0 := hb0.cell 0; have y1 := hb0.cell 1; have y2 := hb0.cell 2
  have HL := Lib.hid hb0; have HB := Lib.hid hB0
  have HS0 := Lib.hid (HS.out.below hB0)
  clear hb0 hB0
  refine wp_region_treeN (fun w' => w'.cell? ⟨w.heap.size, 0, none⟩ = some (.int .i64 dc) ∧ w'.cell? ⟨w.heap.size, 1, none⟩ = some (.slice A n c) ∧ w'.cell? ⟨w.heap.size, 2, none⟩ = some (.bool intra)) 10 (.take 0 (.take 1 (.take 2 (.take 3 (.step 4 (.step 5 (.take 6 (.take 7 (.take 8 (.step 9 .done)))))))))) (by kernel_rfl) (by kernel_rfl) (by simp only [Pln.out, Array.getD_eq_getD_getElem?, List.getElem?_toArray, List.getElem?_cons_zero, List.getElem?_cons_succ, Option.getD_some]; rfl) (by simp only [List.map_cons, List.map_nil]; rfl) (⟨y0, y1, y2⟩) (fun PE hPE => ?_)
  refine tree_take (v := ?_) rfl (by rfl) ?_ ?_
  rotate_left
  · intro _ hSw; (try dsimp only at hSw); obtain ⟨s0, s1, s2⟩ := hSw; go_simp; (try with_reducible rfl)
  simp only [List.setIfInBounds_toArray, List.set_cons_zero, List.set_cons_succ]
  refine tree_take (v := ?_) rfl (by rfl) ?_ ?_
  rotate_left
  · intro _ hSw; (try dsimp only at hSw); obtain ⟨s0, s1, s2⟩ := hSw; go_simp; (try with_reducible rfl)
  simp only [List.setIfInBounds_toArray, List.set_cons_zero, List.set_cons_succ]
  refine tree_take (v := ?_) rfl (by rfl) ?_ ?_
  rotate_left
  · intro _ hSw; (try dsimp only at hSw); obtain ⟨s0, s1, s2⟩ := hSw; go_simp; (try with_reducible rfl)
  simp only [List.setIfInBounds_toArray, List.set_cons_zero, List.set_cons_succ]
  refine tree_take (v := ?_) rfl (by rfl) ?_ ?_
  rotate_left
  · intro _ hSw; (try dsimp only at hSw); obtain ⟨s0, s1, s2⟩ := hSw; go_simp; (try with_reducible rfl)
  simp only [List.setIfInBounds_toArray, List.set_cons_zero, List.set_cons_succ]
  refine tree_call (f := 139) rfl (by rfl) (by first | (go_simp; done) | (go_simp; rfl)) (C1.out _) ?_
  rintro e w2 ⟨rfl, hb2⟩
  have hL2 := HL.out.below hb2 HL.out.lt
  have HBb := Lib.hid (HB.out.trans (hb2.mono HB.out.size))
  refine ⟨_, rfl, _, fun _ h => h, ⟨hL2.cell 0, hL2.cell 1, hL2.cell 2⟩, ?_⟩
  simp only [List.setIfInBounds_toArray, List.set_cons_zero, List.set_cons_succ]
  refine tree_call (f := 138) rfl (by rfl) (by first | (go_simp; done) | (go_simp; rfl)) (C2.out _ (HS0.out.below hb2)) ?_
  rintro e w3 ⟨v, rfl, hb3, _, _⟩
  rw [hsp]
  have hL3 := hL2.below hb3 hL2.lt
  have HBc := Lib.hid (HBb.out.trans (hb3.mono HBb.out.size))
  refine ⟨_, rfl, _, fun _ h => h, ⟨hL3.cell 0, hL3.cell 1, hL3.cell 2⟩, ?_⟩
  simp only [List.setIfInBounds_toArray, List.set_cons_zero, List.set_cons_succ]
  refine tree_take (v := ?_) rfl (by rfl) ?_ ?_
  rotate_left
  · intro _ hSw; (try dsimp only at hSw); go_simp; (try with_reducible rfl)
  simp only [List.setIfInBounds_toArray, List.set_cons_zero, List.set_cons_succ]
  refine tree_take (v := ?_) rfl (by rfl) ?_ ?_
  rotate_left
  · intro _ hSw; (try dsimp only at hSw); go_simp; (try with_reducible rfl)
  simp only [List.setIfInBounds_toArray, List.set_cons_zero, List.set_cons_succ]
  refine tree_take (v := ?_) rfl (by rfl) ?_ ?_
  rotate_left
  · intro _ hSw; (try dsimp only at hSw); go_simp; (try with_reducible rfl)
  simp only [List.setIfInBounds_toArray, List.set_cons_zero, List.set_cons_succ]
  refine tree_value (v := ?_) (w' := ?_) rfl (by rfl) ?_ ?_ ?_
  rotate_left 2
  · go_simp; (try (constructor <;> with_reducible rfl))
  · exact ⟨hL3.cell 0, hL3.cell 1, hL3.cell 2⟩
  simp only [List.setIfInBounds_toArray, List.set_cons_zero, List.set_cons_succ]
  refine hPE _ _ ?_
  clear hPE PE
  simp only [List.drop_succ_cons, List.drop_zero, List.drop_nil]
  clear hb2 hb3 hL2 hL3 y0 y1 y2
  go_wp2_with fail
  refine ⟨rfl, ?_⟩
  go_wp2_with fail
  go_ret
  exact ⟨rfl, HBc.out⟩
set_option maxRecDepth 100000 in
theorem block_Check (x : BlkM) (A : Option Addr) (n c : Nat) (intra : Bool) (w : World) (hS : Sl w A (rowC pairC x.l)) (hn : x.l.length = n) (hsz : n ≤ 1099511627776) : Calls Tryz.prog 63 #[.agg #[.int .i64 x.dc, .slice A n c], .bool intra] w fun e w' => e = .returned (.int .i64 (bchkP x intra)) ∧ Below w.heap.size w w' := by
  have C1 := Lib.hid (fun W => block_dc x.dc A n c intra W)
  have C2 := Lib.hid (fun W hW => block_pairs x.dc x.l A n c intra W hW hn hsz)
  have HS := Lib.hid hS
  rw [bchk_dc, hn]
  clear hS hn hsz
  obtain ⟨dc, l⟩ := x
  dsimp only at *
  generalize dcP dc n intra = dp at *
  generalize spreadP l (frstP intra) = sp at *
  unfold kndV at C1 C2
  have i0 : ∀ W : World, (Instr.index 136 (.agg #[.func (.func 106) #[.agg #[.int .i64 dc, .slice A n c, .bool intra]] #[], .func (.func 107) #[.agg #[.int .i64 dc, .slice A n c, .bool intra]] #[]]) (.int .i64 0)).run Tryz.prog W = .ok (.func (.func 106) #[.agg #[.int .i64 dc, .slice A n c, .bool intra]] #[]) W := fun _ => by kernel_rfl
  have i1 : ∀ W : World, (Instr.index 136 (.agg #[.func (.func 106) #[.agg #[.int .i64 dc, .slice A n c, .bool intra]] #[], .func (.func 107) #[.agg #[.int .i64 dc, .slice A n c, .bool intra]] #[]]) (.int .i64 1)).run Tryz.prog W = .ok (.func (.func 107) #[.agg #[.int .i64 dc, .slice A n c, .bool intra]] #[]) W := fun _ => by kernel_rfl
  go_enter Tryz.func63, Tryz.ntmps63
  go_wp2_with fail
  go_loopg [17] 2 (fun g i => fun wr => ∃ j : Nat, j + g = 2 ∧ i = .int .i64 (j : Int) ∧ Hid ((1 ≤ j → dp = 0) ∧ (2 ≤ j → sp = 0) ∧ Below w.heap.size w wr))
  case atStart => exact ⟨0, by omega, rfl, Lib.hid ⟨by omega, by omega, ((Below.refl _ _).alloc (Nat.le_refl _) _).alloc (by simp) _⟩⟩
  case round =>
    obtain ⟨j, hj, rfl, HJ⟩ := hrel
    have hj4 : j = 0 ∨ j = 1 ∨ j = 2 := by omega
    rcases hj4 with rfl | rfl | rfl
    · cases hd : (dp == 0) with
      | true =>
        have HD := Lib.hid (show dp = 0 by simpa using hd)
        have hd2 : (dp != 0) = false := by rw [bne, hd]; rfl
        go_wp2_with (go_at_call 106; refine (C1.out _).mono ?_; rintro e w2 ⟨rfl, hb2⟩; have HB2 := Lib.hid hb2; clear hb2)
        go_roundg 1
        case measure => omega
        case rel => exact ⟨1, by omega, rfl, Lib.hid ⟨fun _ => HD.out, by omega, HJ.out.2.2.trans (HB2.out.mono HJ.out.2.2.size)⟩⟩
      | false =>
        have hd2 : (dp != 0) = true := by rw [bne, hd]; rfl
        go_wp2_with (go_at_call 106; refine (C1.out _).mono ?_; rintro e w2 ⟨rfl, hb2⟩; have HB2 := Lib.hid hb2; clear hb2)
        go_ret
        exact ⟨rfl, HJ.out.2.2.trans (HB2.out.mono HJ.out.2.2.size)⟩
    · have hdp := HJ.out.1 (by omega)
      subst hdp
      have HS2 := Lib.hid (HS.out.below HJ.out.2.2)
      cases hd : (sp == 0) with
      | true =>
        have HD := Lib.hid (show sp = 0 by simpa using hd)
        have hd2 : (sp != 0) = false := by rw [bne, hd]; rfl
        go_wp2_with (go_at_call 107; refine (C2.out _ HS2.out).mono ?_; rintro e w2 ⟨rfl, hb2⟩; have HB2 := Lib.hid hb2; clear hb2)
        go_roundg 0
        case measure => omega
        case rel => exact ⟨2, by omega, rfl, Lib.hid ⟨fun _ => trivial, fun _ => HD.out, HJ.out.2.2.trans (HB2.out.mono HJ.out.2.2.size)⟩⟩
      | false =>
        have hd2 : (sp != 0) = true := by rw [bne, hd]; rfl
        go_wp2_with (go_at_call 107; refine (C2.out _ HS2.out).mono ?_; rintro e w2 ⟨rfl, hb2⟩; have HB2 := Lib.hid hb2; clear hb2)
        go_ret
        exact ⟨rfl, HJ.out.2.2.trans (HB2.out.mono HJ.out.2.2.size)⟩
    · have hdp := HJ.out.1 (by omega)
      have hsp := HJ.out.2.1 (by omega)
      subst hdp hsp
      go_wp2_with fail
      go_ret
      exact ⟨rfl, HJ.out.2.2⟩
end Go.Proofs.YtcojnigkgbmbmaaGreatDoor
