/- Ref19gS, Ref19g -/
import Derived.Test.YtcojnigkgbmbmaaGreatDoorR30
import Derived.Deep.DeepCutAuto
namespace Go.Proofs.YtcojnigkgbmbmaaGreatDoor
open Go Go.RowKit
attribute [local go_sem] Oper.semAt_some
set_option maxRecDepth 100000 in
set_option maxHeartbeats 16000000 in
theorem g19_mid (A : Option Addr) (n c : Nat) (l : List UInt8) (i ad la lx ly kd p1 qv er qq qp : Int) (lh : Bool) (R : MacM × Int × Int) (w w3 wc : World) (HA : Hid (Sl w A (l.map byteV))) (HN : Hid (l.length = n)) (HSZ : Hid (n ≤ 2 ^ 47)) (HG1 : Hid (0 ≤ i ∧ 1 ≤ ad ∧ ad ≤ 33)) (HG4 : Hid (i ≤ 8 * (n : Int))) (HAH : Hid (aheadB ⟨la, lh, lx, ly⟩ ad = true)) (HG3 : Hid (w.heap.size + 2 ≤ w3.heap.size)) (HR : Hid ((if (er != 0) = true then (m0, 0, er) else rV l ad kd qq (predP ad (ad - la) lh lx ly).1 (predP ad (ad - la) lh lx ly).2 qp i) = R)) (hp1 : 0 ≤ p1) (hp15 : p1 ≤ 8 * (n : Int) + 5) (HQE : Hid (er = 0 → p1 = qp ∧ qv = qq ∧ p1 ≤ 8 * (n : Int))) (HC5 : Hid (Cons w [(w3.heap.size + 1, 29, #[.int .i64 ad, .int .i64 kd, .int .i64 qv, .int .i64 0, .int .i64 0, .int .i64 0, .slice none 0 0]), (w.heap.size + 1, 29, MgC m0 (.slice none 0 0)), (w.heap.size, 24, #[.int .i64 la, .bool lh, .int .i64 lx, .int .i64 ly]), (w3.heap.size, 59, #[.bool (pI kd), .bool (pQ kd), .bool (pV kd), .bool (pF kd), .bool (pC kd)])] [] wc)) (u12 u24 u25 u26 u27 u28 u29 u30 u31 u32 u33 u34 u35 u36 u37 u38 u39 u40 u41 u42 u43 u44 u45 u46 u47 u48 u49 u50 u51 u52 u53 u54 u55 u56 u57 u58 u59 u60 u61 u62 u63 u64 u65 u66 u67 u68 u69 u70 u71 u72 u73 u74 u75 u76 u77 u78 u79 u80 u81 u82 u83 u84 u85 u86 u87 u88 u89 u90 u91 u92 u93 u94 u95 u96 u97 u98 u99 u100 u101 u102 u103 u104 u105 u106 u107 u108 u109 u110 u111 u112 u113 u114 u115 u116 u117 u118 u119 u120 u121 u122 u123 u124 u125 u126 u127 u128 u129 u130 u131 u132 u133 u134 u135 u136 u137 u138 u139 u140 u141 u142 u143 u144 u145 u146 u147 u148 u149 u150 u151 u152 u153 u154 u155 u156 u157 u158 u159 u160 u161 u162 u163 u164 u165 u166 u167 u168 u169 u170 u171 u172 u173 u174 u175 u176 u177 u178 u179 u180 u181 u182 u183 u184 u185 u186 u187 u188 u189 u190 : Value) (code : Code) (hc : (((Tryz.f12.body).bind (sufx 18)).getD .skip) = code) :
    Code.wp Tryz.prog code (bodyPost Tryz.prog Tryz.f12 (MGPost w R)) ⟨#[.slice A n c, .int .i64 p1, .int .i64 ad, .agg #[.int .i64 la, .bool lh, .int .i64 lx, .int .i64 ly], undef, undef, undef, .pointer (some ⟨w.heap.size, 0, none⟩), .pointer (some ⟨w.heap.size + 1, 0, none⟩), .int .i64 0, .int .i64 0, .int .i64 kd, u12, .int .i64 er, .pointer (some ⟨w3.heap.size, 0, none⟩), .int .i64 0, .pointer (some ⟨w3.heap.size + 1, 0, none⟩), .int .i64 i, undef, undef, undef, undef, undef, undef, u24, u25, u26, u27, u28, u29, u30, u31, u32, u33, u34, u35, u36, u37, u38, u39, u40, u41, u42, u43, u44, u45, u46, u47, u48, u49, u50, u51, u52, u53, u54, u55, u56, u57, u58, u59, u60, u61, u62, u63, u64, u65, u66, u67, u68, u69, u70, u71, u72, u73, u74, u75, u76, u77, u78, u79, u80, u81, u82, u83, u84, u85, u86, u87, u88, u89, u90, u91, u92, u93, u94, u95, u96, u97, u98, u99, u100, u101, u102, u103, u104, u105, u106, u107, u108, u109, u110, u111, u112, u113, u114, u115, u116, u117, u118, u119, u120, u121, u122, u123, u124, u125, u126, u127, u128, u129, u130, u131, u132, u133, u134, u135, u136, u137, u138, u139, u140, u141, u142, u143, u144, u145, u146, u147, u148, u149, u150, u151, u152, u153, u154, u155, u156, u157, u158, u159, u160, u161, u162, u163, u164, u165, u166, u167, u168, u169, u170, u171, u172, u173, u174, u175, u176, u177, u178, u179, u180, u181, u182, u183, u184, u185, u186, u187, u188, u189, u190], []⟩ wc := by
  subst hc
  have hpp : partB (predP ad (ad - la) lh lx ly).1 = true ∧ partB (predP ad (ad - la) lh lx ly).2 = true := by
    have h := HAH.out
    unfold aheadB at h
    simp only [Bool.and_eq_true, decide_eq_true_eq] at h
    unfold predP
    split
    · exact ⟨rfl, rfl⟩
    · exact ⟨h.1.1.2, h.1.2⟩
  have hws : IntKind.i64.wrap (ad - la) = ad - la := by
    have h := HAH.out
    have hg := HG1.out
    unfold aheadB at h
    simp only [Bool.and_eq_true, decide_eq_true_eq] at h
    rw [IntKind.wrap_i64]; omega
  have CPR := Lib.hid (fun W => ref06_Predict ad (ad - la) lh lx ly W)
  obtain ⟨⟨x1, y1⟩, hpr⟩ : ∃ q, predP ad (ad - la) lh lx ly = q := ⟨_, rfl⟩
  rw [hpr] at HR CPR hpp
  dsimp only at HR CPR hpp
  have HPP := Lib.hid hpp
  obtain ⟨⟨⟨va, vb⟩, vp, ve⟩, hv⟩ : ∃ q, mv l kd qp x1 y1 = q := ⟨_, rfl⟩
  have HV := Lib.hid hv
  obtain ⟨E2, hE2⟩ : ∃ E, (if er = 0 then ve else er) = E := ⟨_, rfl⟩
  have HE2 := Lib.hid hE2
  have HP1B := Lib.hid (show 0 ≤ p1 ∧ p1 ≤ 8 * (n : Int) + 5 from ⟨hp1, hp15⟩)
  clear hpr hpp hv hE2 hp1 hp15
  have q2 := HC5.out.2.1.tail.tail.tail.head.cell 2
  (try dsimp only at q2)
  dsimp only
  conv => arg 2; whnf
  go_upto_region 18 with fail
  go_cut [91] (fun s91 wx => wc = wx ∧ s91 = .bool (pV kd && er == 0))
  case first =>
    obtain ⟨bV, hbv⟩ : ∃ b, pV kd = b := ⟨_, rfl⟩
    rw [hbv] at q2
    have HB0 := Lib.hid hbv
    clear hbv
    cases bV with
    | false =>
      go_wp2_with fail
      go_meet
      case rel => exact ⟨rfl, by rw [HB0.out]; rfl⟩
    | true =>
      go_wp2_with fail
      go_meet
      case rel => exact ⟨rfl, by rw [HB0.out]; rfl⟩
  obtain ⟨rfl, rfl⟩ := hcut
  clear q2
  obtain ⟨bv, hbv⟩ : ∃ b, (pV kd && er == 0) = b := ⟨_, rfl⟩
  rw [hbv]
  have HBV := Lib.hid hbv
  clear hbv
  go_upto_if 91 with fail
  go_cut [1, 13] (fun s1 s13 wx => ∃ p vx vy : Int, s1 = .int .i64 p ∧ s13 = .int .i64 E2 ∧ 0 ≤ p ∧ p ≤ 8 * (n : Int) + 5 ∧ Hid (E2 = 0 → er = 0 ∧ p = vp ∧ vx = va ∧ vy = vb ∧ p ≤ 8 * (n : Int)) ∧ Hid (Cons w [(w3.heap.size + 1, 29, #[.int .i64 ad, .int .i64 kd, .int .i64 qv, .int .i64 vx, .int .i64 vy, .int .i64 0, .slice none 0 0]), (w.heap.size + 1, 29, MgC m0 (.slice none 0 0)), (w.heap.size, 24, #[.int .i64 la, .bool lh, .int .i64 lx, .int .i64 ly]), (w3.heap.size, 59, #[.bool (pI kd), .bool (pQ kd), .bool (pV kd), .bool (pF kd), .bool (pC kd)])] [] wx))
  case first =>
    have hb := HBV.out
    have hE := HE2.out
    have hp15 := HP1B.out
    cases bv with
    | false =>
      have hrel : (E2 = er) ∧ (E2 = 0 → er = 0 ∧ p1 = vp ∧ (0 : Int) = va ∧ (0 : Int) = vb ∧ p1 ≤ 8 * (n : Int)) := by
        by_cases h0 : er = 0
        · have hpv : pV kd = false := by simpa [h0] using hb
          rw [if_pos h0] at hE
          obtain ⟨h1, h2, h3⟩ := HQE.out h0
          have hv := HV.out
          unfold mv at hv
          rw [hpv, if_neg Bool.false_ne_true] at hv
          injection hv with i1 i2
          injection i1 with i3 i4
          injection i2 with i5 i6
          exact ⟨by omega, fun _ => ⟨h0, by omega, i3, i4, h3⟩⟩
        · rw [if_neg h0] at hE
          exact ⟨hE.symm, fun h => absurd (hE.trans h) h0⟩
      have HREL := Lib.hid hrel
      clear hrel hb hE
      go_wp2_with fail
      go_meet
      case rel => exact ⟨p1, 0, 0, rfl, by rw [HREL.out.1], hp15.1, hp15.2, Lib.hid HREL.out.2, HC5⟩
    | true =>
      have hbb : pV kd = true ∧ er = 0 := by simpa using hb
      obtain ⟨hpv, h0⟩ := hbb
      rw [if_pos h0] at hE
      obtain ⟨g1, g2, g3⟩ := HQE.out h0
      have hv := HV.out
      unfold mv at hv
      rw [hpv, if_pos rfl] at hv
      dsimp only at hv
      subst h0
      rw [← g1] at hv
      have hpp := HPP.out
      have hp0 := hp15.1
      have PC1 := Lib.hid (fun W hW => ref19_part A n c l p1 x1 W hW HN.out HSZ.out (by have := HSZ.out; omega) hpp.1)
      have hbd := @prt_bnd l p1 x1 hp0 (by have := HN.out; omega)
      have hpe := @prt_err l p1 x1
      have hpo := @prt_ok l p1 x1
      obtain ⟨⟨X1, nb1, e1⟩, hq1⟩ : ∃ q, prtP l p1 x1 = q := ⟨_, rfl⟩
      rw [hq1] at PC1 hbd hpe hpo
      dsimp only at PC1 hbd hpe hpo
      rw [HN.out] at hbd
      have hw1 : IntKind.i64.wrap (p1 + nb1) = p1 + nb1 := by have := HSZ.out; rw [IntKind.wrap_i64]; omega
      have l0 := HC5.out.2.1.tail.tail.head.cell 0; have l1 := HC5.out.2.1.tail.tail.head.cell 1; have l2 := HC5.out.2.1.tail.tail.head.cell 2; have l3 := HC5.out.2.1.tail.tail.head.cell 3
      (try dsimp only at l0 l1 l2 l3)
      by_cases he1 : e1 = 0
      · subst he1
        have hv1 := hpo rfl
        rw [hv1] at hv
        dsimp only at hv
        rw [if_neg (by decide)] at hv
        obtain ⟨p2, hp2⟩ : ∃ p2, p1 + nb1 = p2 := ⟨_, rfl⟩
        have hw1b : IntKind.i64.wrap (p1 + nb1) = p2 := hw1.trans hp2
        clear hw1
        rw [hp2] at hv hbd
        have PC2 := Lib.hid (fun W hW => ref19_part A n c l p2 y1 W hW HN.out HSZ.out (by have := HSZ.out; omega) hpp.2)
        have hbd2 := @prt_bnd l p2 y1 (by omega) (by have := HN.out; omega)
        have hpe2 := @prt_err l p2 y1
        have hpo2 := @prt_ok l p2 y1
        obtain ⟨⟨Y1, nb2, e2⟩, hq2⟩ : ∃ q, prtP l p2 y1 = q := ⟨_, rfl⟩
        rw [hq2] at PC2 hbd2 hpe2 hpo2
        dsimp only at PC2 hbd2 hpe2 hpo2
        rw [HN.out] at hbd2
        have hw2 : IntKind.i64.wrap (p2 + nb2) = p2 + nb2 := by have := HSZ.out; rw [IntKind.wrap_i64]; omega
        have hfin : E2 = e2 ∧ (E2 = 0 → (0 : Int) = 0 ∧ p2 + nb2 = vp ∧ X1 = va ∧ Y1 = vb ∧ p2 + nb2 ≤ 8 * (n : Int)) := by
          by_cases he2 : e2 = 0
          · subst he2
            rw [hpo2 rfl] at hv
            dsimp only at hv
            rw [if_neg (by decide)] at hv
            injection hv with i1 i2
            injection i1 with i3 i4
            injection i2 with i5 i6
            exact ⟨by omega, fun _ => ⟨rfl, i5, i3, i4, hbd2.2⟩⟩
          · have h3 := hpe2 he2
            rw [if_pos (by rw [h3]; simpa using he2)] at hv
            injection hv with i1 i2
            injection i2 with i5 i6
            rw [h3] at i6
            exact ⟨by omega, fun h => absurd (by omega) he2⟩
        have HF := Lib.hid hfin
        have HB2 := Lib.hid hbd2; have HBP := Lib.hid hp2; have HBD := Lib.hid hbd
        clear hfin hv hv1 hpe hpo hpe2 hpo2 hbd2 hbd hq1 hq2 hE hb hpv g1 g2 g3 hpp hp15 hp0
        clear hp2
        go_wp2_with (first | (go_at_call 40; refine (CPR.out _).mono ?_; rintro e w' ⟨rfl, rfl⟩; clear CPR) | (go_at_call 41; refine (PC1.out _ (HA.out.below HC5.out.1)).mono ?_; rintro e w6 ⟨rfl, hb6⟩; clear PC1 l0 l1 l2 l3; have hc6 := cons_below HC5.out hb6; have k3 := hc6.2.1.head.cell 3; have kf3 := hc6.2.1.head.frozen 3; (try dsimp only at k3 kf3); have hc7 := cons_set hc6 (by have := HG3.out; omega) 3 (.int .i64 X1) (by simp; have := HG3.out; omega) (by simp); have HC7 := Lib.hid hc7; clear hb6 hc6 hc7) | (go_at_call 41; refine (PC2.out _ (HA.out.below HC7.out.1)).mono ?_; rintro e w8 ⟨rfl, hb8⟩; clear PC2; have hc8 := cons_below HC7.out hb8; have k4 := hc8.2.1.head.cell 4; have kf4 := hc8.2.1.head.frozen 4; (try dsimp only at k4 kf4); have HC8 := Lib.hid (cons_set hc8 (by have := HG3.out; omega) 4 (.int .i64 Y1) (by simp; have := HG3.out; omega) (by simp)); clear hb8 hc8 k3 kf3))
        go_meet
        case rel => exact ⟨p2 + nb2, X1, Y1, rfl, by rw [HF.out.1], by have := HB2.out; have := HBD.out; have := HBP.out; have := HP1B.out; omega, by have := HB2.out; omega, Lib.hid HF.out.2, Lib.hid HC8.out⟩
      · have h3 := hpe he1
        rw [if_pos (by rw [h3]; simpa using he1)] at hv
        injection hv with i1 i2
        injection i2 with i5 i6
        rw [h3] at i6
        have HF := Lib.hid (show E2 = e1 by omega)
        have HNE := Lib.hid he1
        have HBD := Lib.hid hbd
        have d5 : (e1 == 0) = false := by simpa using he1
        clear hpe hpo hbd hq1 hE hb hpv g1 g2 g3 hpp hp15 hp0 he1 h3 i1 i5 i6
        go_wp2_with (first | (go_at_call 40; refine (CPR.out _).mono ?_; rintro e w' ⟨rfl, rfl⟩; clear CPR) | (go_at_call 41; refine (PC1.out _ (HA.out.below HC5.out.1)).mono ?_; rintro e w6 ⟨rfl, hb6⟩; clear PC1 l0 l1 l2 l3; have hc6 := cons_below HC5.out hb6; have k3 := hc6.2.1.head.cell 3; have kf3 := hc6.2.1.head.frozen 3; (try dsimp only at k3 kf3); have hc7 := cons_set hc6 (by have := HG3.out; omega) 3 (.int .i64 X1) (by simp; have := HG3.out; omega) (by simp); have HC7 := Lib.hid hc7; clear hb6 hc6 hc7))
        go_meet
        case rel => exact ⟨p1 + nb1, X1, 0, rfl, by rw [HF.out], by have := HBD.out; have := HP1B.out; omega, by have := HBD.out; omega, Lib.hid (fun h => absurd (by have := HF.out; omega) HNE.out), Lib.hid HC7.out⟩
  obtain ⟨p3, vx, vy, rfl, rfl, hp3, hp35, HVE, HC6⟩ := hcut
  obtain ⟨pa0, hpa0⟩ : ∃ q : Int, (if pI kd then 63 else 0) = q := ⟨_, rfl⟩
  have HPA0 := Lib.hid hpa0
  have HP3B := Lib.hid (show 0 ≤ p3 ∧ p3 ≤ 8 * (n : Int) + 5 from ⟨hp3, hp35⟩)
  have q0 := HC6.out.2.1.tail.tail.tail.head.cell 0
  have mc5 := HC6.out.2.1.head.cell 5
  have mf5 := HC6.out.2.1.head.frozen 5
  (try dsimp only at q0 mc5 mf5)
  clear hpa0 hp3 hp35 HC5 HBV hws CPR
  go_upto_if 134 with fail
  go_cut [1] (fun s1 wx => s1 = .int .i64 p3 ∧ Hid (Cons w [(w3.heap.size + 1, 29, #[.int .i64 ad, .int .i64 kd, .int .i64 qv, .int .i64 vx, .int .i64 vy, .int .i64 pa0, .slice none 0 0]), (w.heap.size + 1, 29, MgC m0 (.slice none 0 0)), (w.heap.size, 24, #[.int .i64 la, .bool lh, .int .i64 lx, .int .i64 ly]), (w3.heap.size, 59, #[.bool (pI kd), .bool (pQ kd), .bool (pV kd), .bool (pF kd), .bool (pC kd)])] [] wx))
  case first =>
    have hpa := HPA0.out
    obtain ⟨bI, hbi⟩ : ∃ b, pI kd = b := ⟨_, rfl⟩
    rw [hbi] at q0 hpa ⊢
    clear hbi
    cases bI with
    | false =>
      rw [if_neg Bool.false_ne_true] at hpa
      subst hpa
      go_wp2_with fail
      go_meet
      case rel => exact ⟨rfl, HC6⟩
    | true =>
      rw [if_pos rfl] at hpa
      subst hpa
      go_wp2_with fail
      go_meet
      case rel => exact ⟨rfl, Lib.hid (cons_set HC6.out (by have := HG3.out; omega) 5 (.int .i64 63) (by simp; have := HG3.out; omega) (by simp))⟩
  obtain ⟨rfl, HC7⟩ := hcut
  clear q0 mc5 mf5 HC6
  obtain ⟨⟨cp, cq, ce⟩, hc⟩ : ∃ q, mc l kd vp = q := ⟨_, rfl⟩
  have HMC := Lib.hid hc
  obtain ⟨E3, hE3⟩ : ∃ E, (if E2 = 0 then ce else E2) = E := ⟨_, rfl⟩
  have HE3 := Lib.hid hE3
  clear hc hE3
  have q4 := HC7.out.2.1.tail.tail.tail.head.cell 4
  (try dsimp only at q4)
  go_upto_region 27 with fail
  go_cut [141] (fun s wx => wc = wx ∧ s = .bool (pC kd && E2 == 0))
  case first =>
    obtain ⟨bC, hbc⟩ : ∃ b, pC kd = b := ⟨_, rfl⟩
    rw [hbc] at q4
    have HB0 := Lib.hid hbc
    clear hbc
    cases bC with
    | false =>
      go_wp2_with fail
      go_meet
      case rel => exact ⟨rfl, by rw [HB0.out]; rfl⟩
    | true =>
      go_wp2_with fail
      go_meet
      case rel => exact ⟨rfl, by rw [HB0.out]; rfl⟩
  obtain ⟨rfl, rfl⟩ := hcut
  clear q4
  obtain ⟨bc, hbc⟩ : ∃ b, (pC kd && E2 == 0) = b := ⟨_, rfl⟩
  rw [hbc]
  have HBC := Lib.hid hbc
  clear hbc
  go_upto_if 141 with fail
  go_cut [1, 13] (fun s1 s13 wx => ∃ p pa : Int, s1 = .int .i64 p ∧ s13 = .int .i64 E3 ∧ 0 ≤ p ∧ p ≤ 8 * (n : Int) + 5 ∧ Hid (E3 = 0 → E2 = 0 ∧ p = cq ∧ pa = cp ∧ p ≤ 8 * (n : Int)) ∧ Hid (Cons w [(w3.heap.size + 1, 29, #[.int .i64 ad, .int .i64 kd, .int .i64 qv, .int .i64 vx, .int .i64 vy, .int .i64 pa, .slice none 0 0]), (w.heap.size + 1, 29, MgC m0 (.slice none 0 0)), (w.heap.size, 24, #[.int .i64 la, .bool lh, .int .i64 lx, .int .i64 ly]), (w3.heap.size, 59, #[.bool (pI kd), .bool (pQ kd), .bool (pV kd), .bool (pF kd), .bool (pC kd)])] [] wx))
  case first =>
    have hb := HBC.out
    have hE := HE3.out
    have hp35 := HP3B.out
    cases bc with
    | false =>
      have hrel : (E3 = E2) ∧ (E3 = 0 → E2 = 0 ∧ p3 = cq ∧ pa0 = cp ∧ p3 ≤ 8 * (n : Int)) := by
        by_cases h0 : E2 = 0
        · have hpc : pC kd = false := by simpa [h0] using hb
          rw [if_pos h0] at hE
          obtain ⟨_, h1, _, _, h3⟩ := HVE.out h0
          have hv := HMC.out
          unfold mc at hv
          rw [hpc, if_neg Bool.false_ne_true, HPA0.out] at hv
          injection hv with i1 i2
          injection i2 with i5 i6
          exact ⟨by omega, fun _ => ⟨h0, by omega, i1, h3⟩⟩
        · rw [if_neg h0] at hE
          exact ⟨hE.symm, fun h => absurd (hE.trans h) h0⟩
      have HREL := Lib.hid hrel
      clear hrel hb hE
      go_wp2_with fail
      go_meet
      case rel => exact ⟨p3, pa0, rfl, by rw [HREL.out.1], hp35.1, hp35.2, Lib.hid HREL.out.2, HC7⟩
    | true =>
      have hbb : pC kd = true ∧ E2 = 0 := by simpa using hb
      obtain ⟨hpc, h0⟩ := hbb
      rw [if_pos h0] at hE
      obtain ⟨_, g1, _, _, g3⟩ := HVE.out h0
      have hv := HMC.out
      unfold mc at hv
      rw [hpc, if_pos rfl, ← g1] at hv
      dsimp only at hv
      have CT := Lib.hid (fun W hW => ref07_Get A n c l p3 W hW HN.out HSZ.out (by have := HSZ.out; omega))
      have hte := @tree_end patC patN l p3 hp35.1 (by have := HN.out; omega)
      have hpg := @pat_got l p3
      have he0 := @tree_err0 patC patN l p3
      obtain ⟨⟨r1, r2, r3⟩, hr⟩ : ∃ r, treeR patC patN l p3 = r := ⟨_, rfl⟩
      rw [hr] at CT hv hte hpg he0
      dsimp only at CT hv hte hpg he0
      rw [HN.out] at hte
      have hfin : E3 = r3 ∧ 0 ≤ r2 ∧ p3 + r2 ≤ 8 * (n : Int) ∧ (E3 = 0 → (0 : Int) = 0 ∧ p3 + r2 = cq ∧ r1 = cp ∧ p3 + r2 ≤ 8 * (n : Int)) := by
        by_cases he : r3 = 0
        · subst he
          rw [if_neg (by decide)] at hv
          injection hv with i1 i2
          injection i2 with i5 i6
          have h1 := hte rfl
          have h2 := (hpg rfl).1
          exact ⟨by omega, by omega, h1, fun _ => ⟨rfl, i5, i1, h1⟩⟩
        · rw [if_pos (by simpa using he)] at hv
          injection hv with i1 i2
          injection i2 with i5 i6
          obtain ⟨_, h2⟩ := he0 he
          exact ⟨by omega, by omega, by omega, fun h => absurd (by omega) he⟩
      have HF := Lib.hid hfin
      have hwc : IntKind.i64.wrap (p3 + r2) = p3 + r2 := by have := hfin; have := HSZ.out; rw [IntKind.wrap_i64]; omega
      subst h0
      clear hfin hv hte hpg he0 hr hE hb hpc g1 g3
      go_wp2_with (go_at_call 42; refine (CT.out _ (HA.out.below HC7.out.1)).mono ?_; rintro e w6 ⟨rfl, hb6⟩; have hc8 := cons_below HC7.out hb6; have k5 := hc8.2.1.head.cell 5; have kf5 := hc8.2.1.head.frozen 5; (try dsimp only at k5 kf5); have HC8 := Lib.hid (cons_set hc8 (by have := HG3.out; omega) 5 (.int .i64 r1) (by simp; have := HG3.out; omega) (by simp)); clear hb6 hc8)
      go_meet
      case rel => exact ⟨p3 + r2, r1, rfl, by rw [HF.out.1], by have := HF.out; have := HP3B.out; omega, by have := HF.out; omega, Lib.hid HF.out.2.2.2, Lib.hid HC8.out⟩
  obtain ⟨p4, pa, rfl, rfl, hp4, hp45, HPE, HC8⟩ := hcut
  have hR2 : (E3 ≠ 0 → R = (m0, 0, E3)) ∧ (E3 = 0 → (if (bgets l (pI kd) (cntP pa) p4).2.2 != 0 then (m0, 0, (bgets l (pI kd) (cntP pa) p4).2.2) else ((⟨ad, kd, qv, vx, vy, pa, (bgets l (pI kd) (cntP pa) p4).1⟩ : MacM), (bgets l (pI kd) (cntP pa) p4).2.1 - i, (0 : Int))) = R ∧ 0 ≤ p4 ∧ p4 ≤ 8 * (n : Int)) := by
    have hr := HR.out
    unfold rV rC at hr
    rw [HV.out] at hr
    dsimp only at hr
    rw [HMC.out] at hr
    dsimp only at hr
    have e2 := HE2.out; have e3 := HE3.out
    by_cases h1 : er = 0
    · rw [if_pos h1] at e2
      rw [if_neg (by rw [h1]; decide)] at hr
      by_cases h2 : E2 = 0
      · rw [if_pos h2] at e3
        rw [if_neg (by rw [e2, h2]; decide)] at hr
        obtain ⟨_, _, hx, hy, _⟩ := HVE.out h2
        obtain ⟨_, hq, _⟩ := HQE.out h1
        by_cases h3 : E3 = 0
        · rw [if_neg (by rw [e3, h3]; decide)] at hr
          obtain ⟨_, g1, g2, g3⟩ := HPE.out h3
          refine ⟨fun h => absurd h3 h, fun _ => ⟨?_, hp4, g3⟩⟩
          rw [g1, g2, hx, hy, hq]
          exact hr
        · rw [if_pos (by rw [e3]; simpa using h3)] at hr
          exact ⟨fun _ => by rw [← hr, e3], fun h => absurd h h3⟩
      · rw [if_neg h2] at e3
        rw [if_pos (by rw [e2]; simpa using h2)] at hr
        exact ⟨fun _ => by rw [← hr, e2, e3], fun h => absurd (e3.trans h) h2⟩
    · rw [if_neg h1] at e2
      rw [if_pos (by simpa using h1)] at hr
      have h2 : E2 ≠ 0 := by omega
      rw [if_neg h2] at e3
      exact ⟨fun _ => by rw [← hr]; congr 2; omega, fun h => absurd (e3.trans h) h2⟩
  obtain ⟨bI, hbI⟩ : ∃ b, pI kd = b := ⟨_, rfl⟩
  rw [hbI] at hR2 HC8
  clear HE2 HE3 HV HMC HVE HQE HPE HC7 HR HBC HPA0 HP3B HP1B
  go_step
  exact g19_rest A n c l i ad la lx ly kd qv vx vy pa p4 E3 lh bI (pQ kd) (pV kd) (pF kd) (pC kd) R w w3 wc HA HN HSZ HG1 HG4 HG3 hR2 hp4 hp45 HC8 _ _ _ _ _ _ _ _ _ _ _ _ _ _ _ _ _ _ _ _ _ _ _ _ _ _ _ _ _ _ _ _ _ _ _ _ _ _ _ _ _ _ _ _ _ _ _ _ _ _ _ _ _ _ _ _ _ _ _ _ _ _ _ _ _ _ _ _ _ _ _ _ _ _ _ _ _ _ _ _ _ _ _ _ _ _ _ _ _ _ _ _ _ _ _ _ _ _ _ _ _ _ _ _ _ _ _ _ _ _ _ _ _ _ _ _ _ _ _ _ _ _ _ _ _ _ _ _ _ _ _ _ _ _ _ _ _ _ _ _ _ _ _ _ _ _ _ _ _ _ _ _ _ _ _ _ _ _ _ _ _ _ _ _ _ _ _ _ _ _ _ (by kernel_rfl)
end Go.Proofs.YtcojnigkgbmbmaaGreatDoor
namespace Go.Proofs.YtcojnigkgbmbmaaGreatDoor
open Go Go.RowKit
attribute [local go_sem] Oper.semAt_some
set_option maxRecDepth 100000 in
set_option maxHeartbeats 16000000 in
theorem ref19_GetM (A : Option Addr) (n c : Nat) (l : List UInt8) (i ad : Int) (x : LastM) (w : World) (hA : Sl w A (l.map byteV)) (hn : l.length = n) (hsz : n ≤ 2 ^ 47) (hi : -9223372036854775808 ≤ i ∧ i ≤ 9223372036854775807) (hgd : 0 ≤ i ∧ 1 ≤ ad ∧ ad ≤ 33 ∧ aheadB x ad = true ∧ i ≤ 8 * (n : Int) ∧ (treeR kindC kindN l i).2.2 = 0) :
    Calls Tryz.prog 12 #[.slice A n c, .int .i64 i, .int .i64 ad, lastV x] w (MGPost w (mgetP l i ad x)) := by
  have CA := Lib.hid (fun W => ref19_Ahead x ad W)
  obtain ⟨R, hR⟩ : ∃ R, mgetP l i ad x = R := ⟨_, rfl⟩
  rw [hR]
  rw [mget_ref] at hR
  obtain ⟨gd1, gd2, gd3, gd4, gd5, gd6⟩ := hgd
  have HA := Lib.hid hA; have HN := Lib.hid hn; have HSZ := Lib.hid hsz; have HI := Lib.hid hi
  obtain ⟨ah, hah⟩ : ∃ b, aheadB x ad = b := ⟨_, rfl⟩
  rw [hah] at hR CA
  have HAH := Lib.hid hah
  unfold lastV
  obtain ⟨la, lh, lx, ly⟩ := x
  dsimp only at CA hR ⊢
  have hc0 : Cons w [(w.heap.size + 1, 29, MgC m0 (.slice none 0 0)), (w.heap.size, 24, #[.int .i64 la, .bool lh, .int .i64 lx, .int .i64 ly])] [] ((w.alloc (.cells #[.int .i64 la, .bool lh, .int .i64 lx, .int .i64 ly] 24)).alloc (.cells (MgC m0 (.slice none 0 0)) 29)) :=
    ⟨((Below.refl _ w).alloc (Nat.le_refl _) _).alloc (by simp) _, CellsAt.cons (blkAt (Blk.new _ _ _) (by simp)) (CellsAt.cons ((Blk.new w _ _).alloc _) (cellsAt_nil _)), rowsAt_nil _⟩
  have HC0 := Lib.hid hc0
  clear hA hn hsz hi hah hc0
  by_cases g1 : i < 0
  · exact absurd g1 (by omega)
  have d1 : decide (i < 0) = false := decide_eq_false g1
  by_cases g2 : ad < 1
  · exact absurd g2 (by omega)
  have d2 : decide (ad < 1) = false := decide_eq_false g2
  by_cases g3 : 33 < ad
  · exact absurd g3 (by omega)
  have d3 : decide (33 < ad) = false := decide_eq_false g3
  rw [if_neg (by omega)] at hR
  have HG1 := Lib.hid (show 0 ≤ i ∧ 1 ≤ ad ∧ ad ≤ 33 by omega)
  clear g1 g2 g3
  cases ah with
  | false =>
    rw [HAH.out] at gd4; cases gd4
  | true =>
  simp only [Bool.not_true, Bool.false_eq_true, if_false] at hR
  have CK := Lib.hid (fun W => ref01_Count A n c W HSZ.out)
  by_cases g4 : 8 * (n : Int) < i
  · exact absurd g4 (by omega)
  have d4 : decide (8 * (n : Int) < i) = false := decide_eq_false g4
  have HG4 := Lib.hid (show i ≤ 8 * (n : Int) by omega)
  clear g4
  have CG := Lib.hid (fun W hW => ref05_Get A n c l i W hW HN.out HSZ.out HI.out)
  have HKG := Lib.hid (@kind_got l i)
  have HKE := Lib.hid (@tree_end kindC kindN l i (by have := HG1.out; omega) (by have := HG4.out; have := HN.out; omega))
  obtain ⟨⟨kd, kb, ke⟩, hk⟩ : ∃ k, treeR kindC kindN l i = k := ⟨_, rfl⟩
  rw [hk] at hR CG HKG HKE gd6
  dsimp only at hR CG HKG HKE gd6
  clear hk
  cases hke : (ke != 0) with
  | true =>
    rw [gd6] at hke; cases hke
  | false =>
  rw [if_neg (by rw [hke]; decide)] at hR
  have hk0 : ke = 0 := by simpa using hke
  subst hk0
  have hkk := HKG.out rfl
  have hkend := HKE.out rfl
  rw [HN.out] at hkend
  have HKK := Lib.hid hkk; have HKN := Lib.hid hkend
  have CO := Lib.hid (fun W => ref05_Of kd W)
  unfold OfPost prtL at CO
  rw [hkk.1, if_pos rfl] at CO
  have HR := Lib.hid hR
  have hwk : IntKind.i64.wrap (i + kb) = i + kb := by have := HG1.out; have := HSZ.out; have := hkk.2.2; rw [IntKind.wrap_i64]; omega
  clear hR hke hkk hkend HKG HKE gd1 gd2 gd3 gd5
  go_enter Tryz.func12, Tryz.ntmps12
  go_wp2_with fail
  refine (CA.out _).mono ?_
  rintro e w1 ⟨rfl, hb1⟩
  have HC1 := Lib.hid (cons_below HC0.out hb1)
  clear hb1 HC0 CA
  go_wp2_with (go_at_call 36; refine (CK.out _).mono ?_; rintro e w' ⟨rfl, rfl⟩)
  refine (CG.out _ (HA.out.below HC1.out.1)).mono ?_
  rintro e w2 ⟨rfl, hb2⟩
  have HC2 := Lib.hid (cons_below HC1.out hb2)
  clear hb2 HC1 CG CK
  go_wp2_with fail
  refine (CO.out _).mono ?_
  rintro e w3 ⟨rfl, hb3⟩
  have hc3 := cons_alloc (cons_alloc (cons_below HC2.out hb3) (.cells #[.bool (pI kd), .bool (pQ kd), .bool (pV kd), .bool (pF kd), .bool (pC kd)] 59)) (.cells #[.int .i64 ad, .int .i64 kd, .int .i64 0, .int .i64 0, .int .i64 0, .int .i64 0, .slice none 0 0] 29)
  have hp3 := (Blk.new w3 59 #[.bool (pI kd), .bool (pQ kd), .bool (pV kd), .bool (pF kd), .bool (pC kd)]).alloc (.cells #[.int .i64 ad, .int .i64 kd, .int .i64 0, .int .i64 0, .int .i64 0, .int .i64 0, .slice none 0 0] 29)
  have hm3 := Blk.new (w3.alloc (.cells #[.bool (pI kd), .bool (pQ kd), .bool (pV kd), .bool (pF kd), .bool (pC kd)] 59)) 29 #[.int .i64 ad, .int .i64 kd, .int .i64 0, .int .i64 0, .int .i64 0, .int .i64 0, .slice none 0 0]
  have hsg : (w3.alloc (.cells #[.bool (pI kd), .bool (pQ kd), .bool (pV kd), .bool (pF kd), .bool (pC kd)] 59)).heap.size = w3.heap.size + 1 := by rw [World.size_alloc]
  rw [hsg] at hm3
  have hc4 : Cons w [(w3.heap.size + 1, 29, #[.int .i64 ad, .int .i64 kd, .int .i64 0, .int .i64 0, .int .i64 0, .int .i64 0, .slice none 0 0]), (w.heap.size + 1, 29, MgC m0 (.slice none 0 0)), (w.heap.size, 24, #[.int .i64 la, .bool lh, .int .i64 lx, .int .i64 ly]), (w3.heap.size, 59, #[.bool (pI kd), .bool (pQ kd), .bool (pV kd), .bool (pF kd), .bool (pC kd)])] [] _ := ⟨hc3.1, CellsAt.cons hm3 (CellsAt.cons hc3.2.1.head (CellsAt.cons hc3.2.1.tail.head (CellsAt.cons hp3 (cellsAt_nil _)))), rowsAt_nil _⟩
  have hg3 : w.heap.size + 2 ≤ w3.heap.size := by have := HC2.out.2.1.head.lt; have := hb3.size; dsimp only at *; omega
  have HG3 := Lib.hid hg3
  have HC4 := Lib.hid hc4
  clear hc3 hp3 hm3 hsg hc4 hg3 hb3 CO HC2
  go_upto_if 69 with fail
  obtain ⟨p0, hp0⟩ : ∃ p, i + kb = p := ⟨_, rfl⟩
  have hp1 : 0 ≤ p0 ∧ p0 ≤ 8 * (n : Int) := by have := HG1.out; have := HKK.out.2.2; have := HKN.out; omega
  rw [hp0] at hwk HR ⊢
  have HP1 := Lib.hid hp1
  obtain ⟨⟨qq, qp, er⟩, hq⟩ : ∃ q, mq l kd p0 = q := ⟨_, rfl⟩
  rw [hq] at HR
  dsimp only at HR
  have HQ := Lib.hid hq
  have hg8 : 1 ≤ w3.heap.size + 1 - w.heap.size := by have := HG3.out; omega
  generalize (w3.alloc (.cells #[.bool (pI kd), .bool (pQ kd), .bool (pV kd), .bool (pF kd), .bool (pC kd)] 59)).alloc (.cells #[.int .i64 ad, .int .i64 kd, .int .i64 0, .int .i64 0, .int .i64 0, .int .i64 0, .slice none 0 0] 29) = w4 at HC4 ⊢
  have q1 := HC4.out.2.1.tail.tail.tail.head.cell 1
  have mc2 := HC4.out.2.1.head.cell 2
  have mf2 := HC4.out.2.1.head.frozen 2
  (try dsimp only at q1 mc2 mf2)
  clear hp0 hp1 hq hwk HKN hg8
  go_cut [1, 13] (fun s1 s13 wx => ∃ p qv : Int, s1 = .int .i64 p ∧ s13 = .int .i64 er ∧ 0 ≤ p ∧ p ≤ 8 * (n : Int) + 5 ∧ Hid (er = 0 → p = qp ∧ qv = qq ∧ p ≤ 8 * (n : Int)) ∧ Hid (Cons w [(w3.heap.size + 1, 29, #[.int .i64 ad, .int .i64 kd, .int .i64 qv, .int .i64 0, .int .i64 0, .int .i64 0, .slice none 0 0]), (w.heap.size + 1, 29, MgC m0 (.slice none 0 0)), (w.heap.size, 24, #[.int .i64 la, .bool lh, .int .i64 lx, .int .i64 ly]), (w3.heap.size, 59, #[.bool (pI kd), .bool (pQ kd), .bool (pV kd), .bool (pF kd), .bool (pC kd)])] [] wx))
  case first =>
    have hq := HQ.out
    unfold mq at hq
    rw [HN.out] at hq
    obtain ⟨bQ, hbq⟩ : ∃ b, pQ kd = b := ⟨_, rfl⟩
    rw [hbq] at q1 hq ⊢
    clear hbq
    have hp := HP1.out
    cases bQ with
    | false =>
      rw [if_neg Bool.false_ne_true] at hq
      injection hq with i1 hq
      injection hq with i2 i3
      subst i1 i2 i3
      go_wp2_with fail
      go_meet
      case rel => exact ⟨p0, 0, rfl, rfl, by omega, by omega, Lib.hid (fun _ => ⟨rfl, rfl, by omega⟩), HC4⟩
    | true =>
      rw [if_pos rfl] at hq
      have hw5 : IntKind.i64.wrap (p0 + 5) = p0 + 5 := by have := HSZ.out; rw [IntKind.wrap_i64]; omega
      by_cases hm : 8 * (n : Int) < p0 + 5
      · rw [if_pos hm] at hq
        injection hq with i1 hq
        injection hq with i2 i3
        subst i1 i2 i3
        have CR := Lib.hid (fun W => ref01_Read_more A n c p0 5 W (by omega) (by decide) (by decide) hm (by have := HSZ.out; omega) HSZ.out)
        have HPP := Lib.hid hp
        clear hm hp
        go_wp2_with (go_at_call 39; refine (CR.out _).mono ?_; rintro e w' ⟨rfl, rfl⟩)
        go_meet
        case rel =>
          have h5 := cons_set HC4.out (by have := HG3.out; omega) 2 (.int .i64 0) (by simp; have := HG3.out; omega) (by simp)
          exact ⟨p0 + 5, 0, rfl, rfl, by have := HPP.out; omega, by have := HPP.out; omega, Lib.hid (fun h => by cases h), Lib.hid h5⟩
      · rw [if_neg hm] at hq
        have CR := Lib.hid (fun W hW => ref01_Read A n c l p0 5 W hW HN.out (by omega) (by decide) (by decide) (by omega) HSZ.out)
        rw [show (5 : Int).toNat = 5 from rfl] at CR
        have hx := numN_lt l p0.toNat 5
        generalize numN l p0.toNat 5 = x at hq hx CR
        have HPP := Lib.hid hp; have HM5 := Lib.hid hm
        have HAW := Lib.hid (HA.out.below HC4.out.1)
        clear hm hp hx
        by_cases hx0 : x = 0
        · subst hx0
          rw [if_pos (by rfl)] at hq
          injection hq with i1 hq
          injection hq with i2 i3
          subst i1 i2 i3
          go_wp2_with (go_at_call 39; refine (CR.out _ HAW.out).mono ?_; rintro e w' ⟨rfl, rfl⟩)
          go_meet
          case rel =>
            have h5 := cons_set HC4.out (by have := HG3.out; omega) 2 (.int .i64 0) (by simp; have := HG3.out; omega) (by simp)
            exact ⟨p0 + 5, 0, rfl, rfl, by have := HPP.out; omega, by have := HPP.out; omega, Lib.hid (fun h => by cases h), Lib.hid h5⟩
        · rw [if_neg (by simpa using hx0)] at hq
          injection hq with i1 hq
          injection hq with i2 i3
          subst i1 i2 i3
          have e0 : ((x : Int) == 0) = false := by rw [beq_eq_false_iff_ne]; omega
          clear hx0
          go_wp2_with (go_at_call 39; refine (CR.out _ HAW.out).mono ?_; rintro e w' ⟨rfl, rfl⟩)
          go_meet
          case rel =>
            have h5 := cons_set HC4.out (by have := HG3.out; omega) 2 (.int .i64 (x : Int)) (by simp; have := HG3.out; omega) (by simp)
            exact ⟨p0 + 5, (x : Int), rfl, rfl, by have := HPP.out; omega, by have := HPP.out; omega, Lib.hid (fun _ => ⟨rfl, rfl, by have := HM5.out; omega⟩), Lib.hid h5⟩
  obtain ⟨p1, qv, rfl, rfl, hp1, hp15, HQE, HC5⟩ := hcut
  clear q1 mc2 mf2 HC4 HQ
  go_step
  exact g19_mid A n c l i ad la lx ly kd p1 qv er qq qp lh R w w3 wc HA HN HSZ HG1 HG4 HAH HG3 HR hp1 hp15 HQE HC5 _ _ _ _ _ _ _ _ _ _ _ _ _ _ _ _ _ _ _ _ _ _ _ _ _ _ _ _ _ _ _ _ _ _ _ _ _ _ _ _ _ _ _ _ _ _ _ _ _ _ _ _ _ _ _ _ _ _ _ _ _ _ _ _ _ _ _ _ _ _ _ _ _ _ _ _ _ _ _ _ _ _ _ _ _ _ _ _ _ _ _ _ _ _ _ _ _ _ _ _ _ _ _ _ _ _ _ _ _ _ _ _ _ _ _ _ _ _ _ _ _ _ _ _ _ _ _ _ _ _ _ _ _ _ _ _ _ _ _ _ _ _ _ _ _ _ _ _ _ _ _ _ _ _ _ _ _ _ _ _ _ _ _ _ _ _ _ _ _ (by kernel_rfl)
theorem ref19_Get (A : Option Addr) (n c : Nat) (l : List UInt8) (i ad : Int) (x : LastM) (w : World) (hA : Sl w A (l.map byteV)) (hn : l.length = n) (hsz : n ≤ 2 ^ 47) (hi : -9223372036854775808 ≤ i ∧ i ≤ 9223372036854775807) :
    Calls Tryz.prog 12 #[.slice A n c, .int .i64 i, .int .i64 ad, lastV x] w (MGPost w (mgetP l i ad x)) := by
  by_cases h : 0 ≤ i ∧ 1 ≤ ad ∧ ad ≤ 33 ∧ aheadB x ad = true ∧ i ≤ 8 * (n : Int) ∧ (treeR kindC kindN l i).2.2 = 0
  · exact ref19_GetM A n c l i ad x w hA hn hsz hi h
  · exact ref19_GetE A n c l i ad x w hA hn hsz hi h
end Go.Proofs.YtcojnigkgbmbmaaGreatDoor
