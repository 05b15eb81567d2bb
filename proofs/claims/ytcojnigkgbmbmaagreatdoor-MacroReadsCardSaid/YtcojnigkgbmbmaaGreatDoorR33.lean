/- MPut -/
import Derived.Test.YtcojnigkgbmbmaaGreatDoorR20
import Derived.Test.YtcojnigkgbmbmaaGreatDoorR23
import Derived.Test.YtcojnigkgbmbmaaGreatDoorR21
namespace Go.Proofs.YtcojnigkgbmbmaaGreatDoor
open Go Go.RowKit
attribute [local go_sem] Oper.semAt_some
theorem join_nil (ts : List (List UInt8)) : Lib.join ts [] = ts.flatten := by
  cases ts with
  | nil => rfl
  | cons t ts =>
    rw [Lib.join_cons]
    unfold Lib.joinTail
    simp
set_option maxRecDepth 100000 in
theorem macro_joined (bk o c : Nat) (ts : List (List UInt8)) (w : World) (hcells : ∀ (j : Nat) t, ts[j]? = some t → w.cell? ⟨bk, o + j, none⟩ = some (.string (bs t))) (hbk : bk < w.heap.size) (hN : ts.length ≤ 1000) (hcap : ts.length ≤ c) (hlen : ts.flatten.length ≤ 1000000) :
    Calls Tryz.prog 49 #[.slice (some ⟨bk, o, none⟩) ts.length c] w fun e w' => e = .returned (.string (bs ts.flatten)) ∧ Below w.heap.size w w' := by
  have e1 : ((ts.map bs).map (·.data.toList)) = ts := by rw [List.map_map]; exact (List.map_congr_left (fun t _ => bs_toList t)).trans (List.map_id _)
  have C := Tryz.strings_Join bk o c (ts.map bs) ⟨#[]⟩ w (fun j t h => by
    rw [List.getElem?_map] at h
    obtain ⟨t', h1, rfl⟩ := Option.map_eq_some_iff.1 h
    exact hcells j t' h1) hbk (by rw [List.length_map]; omega) (by rw [List.length_map]; exact hcap) (by rw [e1]; show (Lib.join ts []).length ≤ _; rw [join_nil]; omega)
  rw [e1, List.length_map] at C
  have C := Lib.hid (show Calls Tryz.prog 91 #[.slice (some ⟨bk, o, none⟩) ts.length c, .string ⟨#[]⟩] w fun e w' => e = .returned (.string (bs ts.flatten)) ∧ Below w.heap.size w w' by
    have h : Lib.join ts (ByteArray.mk #[]).data.toList = ts.flatten := join_nil ts
    rw [h] at C
    exact C)
  generalize ts.length = n at *
  generalize ts.flatten = t at *
  clear hcells hbk hN hcap hlen e1
  go_enter Tryz.func49, Tryz.ntmps49
  go_wp2_with (go_at_call 91; refine C.out.mono ?_; rintro e w2 ⟨rfl, hb2⟩; have HB2 := Lib.hid hb2; clear hb2)
  go_ret
  exact ⟨rfl, HB2.out⟩
theorem dig_take5 (d j : Nat) (h : j < 5) : (digL d 5).take (j + 1) = (digL d 5).take j ++ [if d / 2 ^ (4 - j) % 2 = 0 then 48 else 49] := by
  rw [List.take_add_one]
  congr 1
  have hh : (digL d 5)[j]? = some (if d / 2 ^ (4 - j) % 2 = 0 then 48 else 49) := by
    unfold digL
    rw [List.getElem?_map, List.getElem?_range h]
    rfl
  rw [hh]
  rfl
theorem kindP_len (k : Int) : (kindP k).length ≤ 24 := by
  unfold kindP
  cases h : codeAt kindC 1 k with
  | none => simp
  | some c =>
    unfold codeAt at h
    split at h
    · cases h
    · have hm := List.mem_of_getElem? h
      have ha : kindC.all (fun c => decide (c.length ≤ 24)) = true := by kernel_rfl
      simpa using List.all_eq_true.1 ha c hm
theorem vecP_len (k : Int) : (vecP k).length ≤ 24 := by
  unfold vecP
  cases h : codeAt vecC (-16) k with
  | none => simp
  | some c =>
    unfold codeAt at h
    split at h
    · cases h
    · have hm := List.mem_of_getElem? h
      have ha : vecC.all (fun c => decide (c.length ≤ 24)) = true := by kernel_rfl
      simpa using List.all_eq_true.1 ha c hm
theorem movP_len (a b : Int) : (movP a b).length ≤ 24 := vecP_len _
theorem patP_len (k : Int) : (patP k).length ≤ 24 := by
  unfold patP
  cases h : codeAt patC 1 k with
  | none => simp
  | some c =>
    unfold codeAt at h
    split at h
    · cases h
    · have hm := List.mem_of_getElem? h
      have ha : patC.all (fun c => decide (c.length ≤ 24)) = true := by kernel_rfl
      simpa using List.all_eq_true.1 ha c hm
theorem cputL_len : ∀ (l : List (Int × Int)) (f : Bool), (cputL l f).length ≤ 21 * l.length
  | [], _ => by simp [cputL]
  | p :: l, f => by
    have h1 := cputP_len p f
    have h2 := cputL_len l false
    show (cputP p f ++ cputL l false).length ≤ _
    rw [List.length_append, List.length_cons]
    omega
theorem bput_len {x : BlkM} {intra : Bool} (h : bchkP x intra = 0) : (bputP x intra).length ≤ 1400 := by
  obtain ⟨h1, _⟩ := bchk_ok h
  have hfr : 0 ≤ frstP intra ∧ frstP intra ≤ 1 := by cases intra <;> decide
  obtain ⟨h2, _⟩ := spread_ok x.l (frstP intra) hfr.1 (by omega) h1
  have h3 := cputL_len x.l (!intra)
  have h4 : endC.length = 2 := rfl
  unfold bputP
  rw [List.length_append, List.length_append, h4]
  split
  · simp [digL]; omega
  · simp; omega
theorem flat_len {S2 : List UInt8} {xs : List BkE} {bI : Bool} (h1 : S2.length ≤ 101) (h2 : ∀ p ∈ xs, (bputP p.1 bI).length ≤ 1400) (h3 : xs.length ≤ 64) : ([S2] ++ xs.map fun p => bputP p.1 bI).flatten.length ≤ 1000000 := by
  have h : ∀ ys : List BkE, (∀ p ∈ ys, (bputP p.1 bI).length ≤ 1400) → (ys.map fun p => bputP p.1 bI).flatten.length ≤ 1400 * ys.length := by
    intro ys
    induction ys with
    | nil => intro _; simp
    | cons y ys ih =>
      intro hy
      have a := hy y (by simp)
      have b := ih (fun p hp => hy p (by simp [hp]))
      rw [List.map_cons, List.flatten_cons, List.length_append, List.length_cons]
      omega
  have h4 := h xs h2
  rw [List.flatten_append, List.length_append]
  simp only [List.flatten_cons, List.flatten_nil, List.append_nil]
  omega
theorem own_strs {w : World} {base n : Nat} {v : Value} {ts : List (List UInt8)} (h : w.ownsRow base 9 1 v n (ts.map strV)) (hn : n = ts.length) (h0 : 0 < ts.length) : ∃ g c, v = .slice (some ⟨g, 0, none⟩) ts.length c ∧ ts.length ≤ c ∧ (∀ (j : Nat) t, ts[j]? = some t → w.cell? ⟨g, 0 + j, none⟩ = some (.string (bs t))) ∧ g < w.heap.size := by
  subst hn
  rcases h.2 with ⟨rfl, h1⟩ | ⟨g, cap, cur, rfl, hbg, hh, h1, h2, h3, h4⟩
  · omega
  · refine ⟨g, cap, rfl, h1, fun j t hj => ?_, ?_⟩
    · have hl : j < ts.length := by
        rcases Nat.lt_or_ge j ts.length with h' | h'
        · exact h'
        · rw [List.getElem?_eq_none h'] at hj; cases hj
      rw [Nat.zero_add, h.cellAt j (by omega), List.getElem?_map, hj]
      rfl
    · rcases Nat.lt_or_ge g w.heap.size with h' | h'
      · exact h'
      · rw [Array.getElem?_eq_none h'] at hh; cases hh
set_option maxRecDepth 100000 in
set_option maxHeartbeats 8000000 in
theorem macro_Put (m : MacM) (x : LastM) (xs : List BkE) (A : Option Addr) (c : Nat) (w : World) (hm : m.bl = xs.map (·.1)) (hA : BksAt w A xs) (hT : Tz w) (hs : Ts w) : Calls Tryz.prog 17 #[macV m A xs.length c, lastV x] w fun e w' => e = .returned (.tuple #[.string (bs (mputP m x).1), .int .i64 (mputP m x).2]) ∧ Below w.heap.size w w' := by
  have HA := Lib.hid hA; have HT := Lib.hid hT; have Hs := Lib.hid hs
  have hB1 : Below w.heap.size w (w.alloc (.cells #[.int .i64 m.ad, .int .i64 m.kd, .int .i64 m.qu, .int .i64 m.x, .int .i64 m.y, .int .i64 m.pa, .slice A xs.length c] 29)) := (Below.refl _ _).alloc (Nat.le_refl _) _
  have hB0 := hB1.alloc hB1.size (.cells #[.int .i64 x.ad, .bool x.had, .int .i64 x.x, .int .i64 x.y] 24)
  have hM0 := (Blk.new w 29 #[.int .i64 m.ad, .int .i64 m.kd, .int .i64 m.qu, .int .i64 m.x, .int .i64 m.y, .int .i64 m.pa, .slice A xs.length c]).alloc (.cells #[.int .i64 x.ad, .bool x.had, .int .i64 x.x, .int .i64 x.y] 24)
  have hL0 : Blk _ (w.heap.size + 1) 24 _ := blkAt (Blk.new (w.alloc (.cells #[.int .i64 m.ad, .int .i64 m.kd, .int .i64 m.qu, .int .i64 m.x, .int .i64 m.y, .int .i64 m.pa, .slice A xs.length c] 29)) 24 #[.int .i64 x.ad, .bool x.had, .int .i64 x.x, .int .i64 x.y]) (by simp)
  have CK := Lib.hid (fun W hW => macro_Check m xs A c W hm hW)
  have CA := Lib.hid (fun W => macro_ahead x m.ad W)
  have HMM := Lib.hid hm
  have hmp : mputP m x = if okM m && aheadB x m.ad then (mputL m x, 0) else ([], 2) := rfl
  have HB0 := Lib.hid hB0; have HM0 := Lib.hid hM0; have HL0 := Lib.hid hL0
  have HA0 := Lib.hid (hA.below hB0 (Nat.le_refl _))
  obtain ⟨OK, hok⟩ : ∃ b, okM m = b := ⟨_, rfl⟩
  obtain ⟨AH, hah⟩ : ∃ b, aheadB x m.ad = b := ⟨_, rfl⟩
  rw [hok, hah] at hmp
  rw [hok] at CK
  rw [hah] at CA
  have HOK := Lib.hid hok; have HAH := Lib.hid hah
  clear hA hT hs hB0 hB1 hM0 hL0 hm hok hah
  obtain ⟨n, hn⟩ : ∃ n, xs.length = n := ⟨_, rfl⟩
  rw [hn] at HM0 HB0 HL0 CK HA0 ⊢
  have HN := Lib.hid hn
  clear hn
  cases OK with
  | false =>
    rw [Bool.false_and, if_neg (by decide)] at hmp
    rw [hmp]
    clear hmp
    rw [if_neg (by decide)] at CK
    obtain ⟨ad, kd, qu, mx, my, pa, bl⟩ := m
    obtain ⟨la, lh, lx, ly⟩ := x
    unfold macV lastV at *
    dsimp only at *
    have m0 := HM0.out.cell 0; have m1 := HM0.out.cell 1; have m2 := HM0.out.cell 2; have m3 := HM0.out.cell 3; have m4 := HM0.out.cell 4; have m5 := HM0.out.cell 5; have m6 := HM0.out.cell 6
    go_enter Tryz.func17, Tryz.ntmps17
    go_wp2_with (go_at_call 19; refine (CK.out _ HA0.out).mono ?_; rintro e w2 ⟨rfl, hb2⟩; have HB2 := Lib.hid hb2; clear hb2)
    go_ret2
    exact ⟨rfl, HB0.out.trans (HB2.out.mono HB0.out.size)⟩
  | true =>
    rw [if_pos rfl] at CK
    cases AH with
    | false =>
      rw [Bool.and_false, if_neg (by decide)] at hmp
      rw [hmp]
      clear hmp
      obtain ⟨ad, kd, qu, mx, my, pa, bl⟩ := m
      obtain ⟨la, lh, lx, ly⟩ := x
      unfold macV lastV at *
      dsimp only at *
      have m0 := HM0.out.cell 0; have m1 := HM0.out.cell 1; have m2 := HM0.out.cell 2; have m3 := HM0.out.cell 3; have m4 := HM0.out.cell 4; have m5 := HM0.out.cell 5; have m6 := HM0.out.cell 6
      have l0 := HL0.out.cell 0; have l1 := HL0.out.cell 1; have l2 := HL0.out.cell 2; have l3 := HL0.out.cell 3
      go_enter Tryz.func17, Tryz.ntmps17
      go_wp2_with (first | (go_at_call 19; refine (CK.out _ HA0.out).mono ?_; rintro e w2 ⟨rfl, hb2⟩; have HM2 := Lib.hid (HM0.out.below hb2 HM0.out.lt); have HL2 := Lib.hid (HL0.out.below hb2 HL0.out.lt); have HB2 := Lib.hid hb2; clear hb2 m0 m1 m2 m3 m4 m5 m6 l0 l1 l2 l3; have m0 := HM2.out.cell 0; have l0 := HL2.out.cell 0; have l1 := HL2.out.cell 1; have l2 := HL2.out.cell 2; have l3 := HL2.out.cell 3) | (go_at_call 32; refine (CA.out _).mono ?_; rintro e w3 ⟨rfl, hb3⟩; have HB3 := Lib.hid hb3; clear hb3))
      go_ret2
      exact ⟨rfl, (HB0.out.trans (HB2.out.mono HB0.out.size)).trans (HB3.out.mono (Nat.le_trans HB0.out.size HB2.out.size))⟩
    | true =>
      rw [Bool.and_true, if_pos rfl] at hmp
      rw [hmp]
      clear hmp
      have hok := HOK.out
      have hah := HAH.out
      obtain ⟨ad, kd, qu, mx, my, pa, bl⟩ := m
      obtain ⟨la, lh, lx, ly⟩ := x
      -- what is known of them
      unfold okM at hok
      unfold aheadB at hah
      simp only [Bool.and_eq_true, decide_eq_true_eq] at hok hah
      obtain ⟨⟨⟨⟨⟨⟨⟨⟨⟨hk, had1⟩, had2⟩, hpx⟩, hpy⟩, hv⟩, hq⟩, hpat⟩, hlen⟩, hall⟩ := hok
      obtain ⟨⟨⟨⟨hla, hlt⟩, hlx⟩, hly⟩, hlh⟩ := hah
      have HIN := Lib.hid hk
      have CO := Lib.hid (fun W => kind_Of kd W)
      have CKP := Lib.hid (fun W => kind_Put kd W hk)
      unfold ofV ofE at CO
      rw [hk, if_pos rfl, if_pos rfl] at CO
      unfold partC at CO
      unfold macV lastV at *
      dsimp only at *
      have HV := Lib.hid hv; have HQ := Lib.hid hq; have HPAT := Lib.hid hpat; have HALL := Lib.hid hall; have HPX := Lib.hid hpx; have HPY := Lib.hid hpy; have HLX := Lib.hid hlx; have HLY := Lib.hid hly
      have CPR := Lib.hid (fun W => macro_predictor ⟨la, lh, lx, ly⟩ ad W hla hlt (by omega))
      dsimp only at CPR
      unfold lastV at CPR
      obtain ⟨OUT, hout⟩ : ∃ OUT, mputL ⟨ad, kd, qu, mx, my, pa, bl⟩ ⟨la, lh, lx, ly⟩ = OUT := ⟨_, rfl⟩
      rw [hout]
      unfold mputL at hout
      dsimp only at hout
      have HOUT := Lib.hid hout
      clear hk hv hq hpat hlen hall hpx hpy hlx hly hlh hla hlt hout
      have m0 := HM0.out.cell 0; have m1 := HM0.out.cell 1; have m2 := HM0.out.cell 2; have m3 := HM0.out.cell 3; have m4 := HM0.out.cell 4; have m5 := HM0.out.cell 5; have m6 := HM0.out.cell 6
      have l0 := HL0.out.cell 0; have l1 := HL0.out.cell 1; have l2 := HL0.out.cell 2; have l3 := HL0.out.cell 3
      go_enter Tryz.func17, Tryz.ntmps17
      go_upto_region 3 with (first | (go_at_call 19; refine (CK.out _ HA0.out).mono ?_; rintro e w2 ⟨rfl, hb2⟩; have HM2 := Lib.hid (HM0.out.below hb2 HM0.out.lt); have HL2 := Lib.hid (HL0.out.below hb2 HL0.out.lt); have HB2 := Lib.hid (HB0.out.trans (hb2.mono HB0.out.size)); clear hb2 m0 m1 m2 m3 m4 m5 m6 l0 l1 l2 l3; have m0 := HM2.out.cell 0; have l0 := HL2.out.cell 0; have l1 := HL2.out.cell 1; have l2 := HL2.out.cell 2; have l3 := HL2.out.cell 3) | (go_at_call 32; refine (CA.out _).mono ?_; rintro e w3 ⟨rfl, hb3⟩; have HM3 := Lib.hid (HM2.out.below hb3 HM2.out.lt); have HL3 := Lib.hid (HL2.out.below hb3 HL2.out.lt); have HB3 := Lib.hid (HB2.out.trans (hb3.mono HB2.out.size)); clear hb3 m0 l0 l1 l2 l3; have m1 := HM3.out.cell 1))
      clear HM0 HL0 HB0 HA0 HM2 HL2 HB2 CK CA
      go_upto_region 5 with (first | (go_at_call 47; refine (CO.out _).mono ?_; rintro e w4 ⟨rfl, hb4⟩; have HM4 := Lib.hid ((HM3.out.below hb4 HM3.out.lt).alloc (.cells #[.bool (pI kd), .bool (pQ kd), .bool (pV kd), .bool (pF kd), .bool (pC kd)] 59)); have HL4 := Lib.hid ((HL3.out.below hb4 HL3.out.lt).alloc (.cells #[.bool (pI kd), .bool (pQ kd), .bool (pV kd), .bool (pF kd), .bool (pC kd)] 59)); have HB4 := Lib.hid ((HB3.out.trans (hb4.mono HB3.out.size)).alloc (Nat.le_trans HB3.out.size hb4.size) (.cells #[.bool (pI kd), .bool (pQ kd), .bool (pV kd), .bool (pF kd), .bool (pC kd)] 59)); clear hb4 m1; have m1 := HM4.out.cell 1) | (go_at_call 48; refine (CKP.out _).mono ?_; rintro e w5 ⟨rfl, hb5⟩; have HB5 := Lib.hid hb5; clear hb5))
      obtain ⟨g, hg⟩ : ∃ g, w4.heap.size = g := ⟨_, rfl⟩
      have hc5 : Cons w [(w.heap.size, 29, #[.int .i64 ad, .int .i64 kd, .int .i64 qu, .int .i64 mx, .int .i64 my, .int .i64 pa, .slice A n c]), (w.heap.size + 1, 24, #[.int .i64 la, .bool lh, .int .i64 lx, .int .i64 ly]), (g, 59, #[.bool (pI kd), .bool (pQ kd), .bool (pV kd), .bool (pF kd), .bool (pC kd)])] [] w5 :=
        cons_below ⟨HB4.out, CellsAt.cons HM4.out (CellsAt.cons HL4.out (CellsAt.cons (blkAt (Blk.new _ _ _) hg) (cellsAt_nil _))), rowsAt_nil _⟩ HB5.out
      simp only [hg]
      have HC5 := Lib.hid hc5
      clear hc5 hg HM4 HL4 HB4 HB5 HM3 HL3 HB3 m1 CO CKP
      have m2 := HC5.out.2.1.head.cell 2
      have q1 := HC5.out.2.1.tail.tail.head.cell 1
      dsimp only at m2 q1
      go_upto_if 43 with fail
      obtain ⟨QS, hqs⟩ : ∃ QS, (if pQ kd then digL qu.toNat 5 else []) = QS := ⟨_, rfl⟩
      rw [hqs] at HOUT
      have HQS := Lib.hid hqs
      clear hqs
      go_cut [8] (fun s wx => w5 = wx ∧ s = .string (bs (kindP kd ++ QS)))
      case first =>
        have hqq := HQ.out
        have hqs2 := HQS.out
        obtain ⟨bQ, hbq⟩ : ∃ b, pQ kd = b := ⟨_, rfl⟩
        rw [hbq] at q1 hqq hqs2 ⊢
        have hkl := kindP_len kd
        obtain ⟨KP, hkp⟩ : ∃ KP, kindP kd = KP := ⟨_, rfl⟩
        rw [hkp] at hkl ⊢
        have HKP := Lib.hid hkp
        clear hbq hkp
        cases bQ with
        | false =>
          rw [if_neg (by decide)] at hqs2
          have HQ2 := Lib.hid hqs2
          clear hqq hqs2
          go_wp2_with fail
          go_meet
          case rel => exact ⟨rfl, by rw [← HQ2.out, HKP.out, List.append_nil]⟩
        | true =>
          rw [if_pos rfl] at hqs2
          simp only [if_true, Bool.and_eq_true, decide_eq_true_eq] at hqq
          obtain ⟨q, rfl⟩ : ∃ q : Nat, qu = (q : Int) := ⟨qu.toNat, by omega⟩
          rw [Int.toNat_natCast] at hqs2
          have HQ2 := Lib.hid hqs2
          obtain ⟨hq1, hq2⟩ := hqq
          clear hqs2
          go_wp2_with fail
          go_loopg [8, 10] 5 (fun gg v8 v => fun wr => ∃ j : Nat, j + gg = 5 ∧ v8 = .string (bs (KP ++ (digL q 5).take j)) ∧ v = .int .i64 (4 - (j : Int)) ∧ w5 = wr)
          case atStart => exact ⟨0, by omega, by simp, rfl, rfl⟩
          case round =>
            obtain ⟨j, hj, rfl, rfl, rfl⟩ := hrel
            cases gk with
            | zero =>
              obtain rfl : j = 5 := by omega
              have hlt : ¬ (0 ≤ 4 - ((5 : Nat) : Int)) := by omega
              go_wp2_with fail
              go_meet
              case rel => exact ⟨rfl, by rw [← HQ2.out, HKP.out, List.take_of_length_le (by simp [digL])]⟩
            | succ gg =>
              have hlt : (0 ≤ 4 - (j : Int)) := by omega
              have hw1 : IntKind.i64.wrap (4 - (j : Int) - 1) = 4 - ((j : Int) + 1) := by rw [IntKind.wrap_i64]; omega
              have hcv0 : ∀ W : World, (convert 21 9 (.int .i32 48)).run Tryz.prog W = .ok (.string (bs [48])) W := fun W => by kernel_rfl
              have hcv1 : ∀ W : World, (convert 21 9 (.int .i32 49)).run Tryz.prog W = .ok (.string (bs [49])) W := fun W => by kernel_rfl
              have hl1 : (KP ++ (digL q 5).take j).length ≤ 30 := by rw [List.length_append, List.length_take]; omega
              have HTK := Lib.hid (dig_take5 q j (by omega))
              have hb : q / 2 ^ (4 - j) % 2 = 0 ∨ q / 2 ^ (4 - j) % 2 = 1 := by omega
              rcases hb with hb | hb
              · have h2 : (((q / 2 ^ (4 - j) % 2 : Nat)) : Int) = 0 := by rw [hb]; rfl
                have hbz : (q : Int) / 2 ^ (4 - j) % 2 = 0 := by push_cast at h2; exact h2
                clear h2
                have HB := Lib.hid hb
                clear hb
                obtain ⟨KS, hks⟩ : ∃ KS, KP ++ (digL q 5).take j = KS := ⟨_, rfl⟩
                rw [hks] at hl1 ⊢
                have HKS := Lib.hid hks
                clear hks
                go_wp2_with fail
                go_roundg gg
                case measure => omega
                case rel => exact ⟨j + 1, by omega, by rw [HTK.out, HB.out, ← List.append_assoc, HKS.out]; rfl, by congr 1, rfl⟩
              · have h2 : (((q / 2 ^ (4 - j) % 2 : Nat)) : Int) = 1 := by rw [hb]; rfl
                have hbz : (q : Int) / 2 ^ (4 - j) % 2 = 1 := by push_cast at h2; exact h2
                clear h2
                have HB := Lib.hid hb
                clear hb
                obtain ⟨KS, hks⟩ : ∃ KS, KP ++ (digL q 5).take j = KS := ⟨_, rfl⟩
                rw [hks] at hl1 ⊢
                have HKS := Lib.hid hks
                clear hks
                go_wp2_with fail
                go_roundg gg
                case measure => omega
                case rel => exact ⟨j + 1, by omega, by rw [HTK.out, HB.out, ← List.append_assoc, HKS.out]; rfl, by congr 1, rfl⟩
      obtain ⟨rfl, rfl⟩ := hcut
      clear m2 q1
      have hsl : (kindP kd ++ QS).length ≤ 29 := by
        have h1 := kindP_len kd
        have h2 : QS.length ≤ 5 := by rw [← HQS.out]; split <;> simp [digL]
        rw [List.length_append]; omega
      have q2 := HC5.out.2.1.tail.tail.head.cell 2
      dsimp only at q2
      go_upto_if 59 with fail
      obtain ⟨⟨p1, p2⟩, hpr⟩ : ∃ p, predP ad (ad - la) lh lx ly = p := ⟨_, rfl⟩
      have hpp : partB p1 = true ∧ partB p2 = true := by
        unfold predP at hpr
        split at hpr
        · rw [← (Prod.mk.inj hpr).1, ← (Prod.mk.inj hpr).2]; exact ⟨rfl, rfl⟩
        · rw [← (Prod.mk.inj hpr).1, ← (Prod.mk.inj hpr).2]; exact ⟨HLX.out, HLY.out⟩
      rw [hpr] at HOUT CPR
      dsimp only at HOUT CPR
      have MV1 := Lib.hid (fun W => macro_moved p1 mx W hpp.1 HPX.out)
      have MV2 := Lib.hid (fun W => macro_moved p2 my W hpp.2 HPY.out)
      obtain ⟨VS, hvs⟩ : ∃ VS, (if pV kd then movP p1 mx ++ movP p2 my else []) = VS := ⟨_, rfl⟩
      rw [hvs] at HOUT
      have HVS := Lib.hid hvs
      obtain ⟨S0, hs0⟩ : ∃ S0, kindP kd ++ QS = S0 := ⟨_, rfl⟩
      rw [hs0] at hsl HOUT ⊢
      clear hvs hpr hpp hs0
      go_cut [8] (fun s wx => s = .string (bs (S0 ++ VS)) ∧ Hid (Cons w [(w.heap.size, 29, #[.int .i64 ad, .int .i64 kd, .int .i64 qu, .int .i64 mx, .int .i64 my, .int .i64 pa, .slice A n c]), (w.heap.size + 1, 24, #[.int .i64 la, .bool lh, .int .i64 lx, .int .i64 ly]), (g, 59, #[.bool (pI kd), .bool (pQ kd), .bool (pV kd), .bool (pF kd), .bool (pC kd)])] [] wx))
      case first =>
        have hvs2 := HVS.out
        obtain ⟨bV, hbv⟩ : ∃ b, pV kd = b := ⟨_, rfl⟩
        rw [hbv] at q2 hvs2 ⊢
        have HBV := Lib.hid hbv
        clear hbv
        cases bV with
        | false =>
          rw [if_neg (by decide)] at hvs2
          have HV2 := Lib.hid hvs2
          clear hvs2
          go_wp2_with fail
          go_meet
          case rel => exact ⟨by rw [← HV2.out, List.append_nil], HC5⟩
        | true =>
          rw [if_pos rfl] at hvs2
          have HV2 := Lib.hid hvs2
          clear hvs2
          have m0 := HC5.out.2.1.head.cell 0
          have l0 := HC5.out.2.1.tail.head.cell 0; have l1 := HC5.out.2.1.tail.head.cell 1; have l2 := HC5.out.2.1.tail.head.cell 2; have l3 := HC5.out.2.1.tail.head.cell 3
          dsimp only at m0 l0 l1 l2 l3
          go_upto_region 12 with (go_at_call 33; refine (CPR.out _).mono ?_; rintro e w6 ⟨rfl, hb6⟩; have HC6 := Lib.hid (cons_below HC5.out hb6); clear hb6)
          clear m0 l0 l1 l2 l3
          have hd6 := cons_drew HC6.out
          have HD6 := Lib.hid hd6
          have z3 := hd6.2.1.head.cell 3
          have z4 := hd6.2.1.head.cell 4
          clear hd6
          refine wp_region_treeN (fun w' => w' = w6.drew) 9 (.take 0 (.take 1 (.take 2 (.take 3 (.take 5 (.take 6 (.take 7 (.step 4 (.step 8 .done))))))))) (by kernel_rfl) (by kernel_rfl) (by simp only [Pln.out, Array.getD_eq_getD_getElem?, List.getElem?_toArray, List.getElem?_cons_zero, List.getElem?_cons_succ, Option.getD_some]; rfl) (by simp only [List.map_cons, List.map_nil]; rfl) (rfl) (fun PE hPE => ?_)
          iterate 7
            refine tree_take (v := ?_) rfl (by rfl) ?_ ?_
            rotate_left
            · intro _ hSw; (try dsimp only at hSw); subst hSw; go_simp; (try with_reducible rfl)
            simp only [List.setIfInBounds_toArray, List.set_cons_zero, List.set_cons_succ]
          refine tree_call (f := 50) rfl (by rfl) (by first | (go_simp; done) | (go_simp; rfl)) (MV1.out _) ?_
          rintro e w7 ⟨rfl, rfl⟩
          refine ⟨_, rfl, _, fun _ h => h, rfl, ?_⟩
          simp only [List.setIfInBounds_toArray, List.set_cons_zero, List.set_cons_succ]
          refine tree_call (f := 50) rfl (by rfl) (by first | (go_simp; done) | (go_simp; rfl)) (MV2.out _) ?_
          rintro e w7 ⟨rfl, rfl⟩
          refine ⟨_, rfl, _, fun _ h => h, rfl, ?_⟩
          simp only [List.setIfInBounds_toArray, List.set_cons_zero, List.set_cons_succ]
          refine hPE _ _ ?_
          clear hPE PE
          simp only [List.drop_succ_cons, List.drop_zero, List.drop_nil]
          have hm1 := movP_len p1 mx
          have hm2 := movP_len p2 my
          have hfl : S0 ++ (movP p1 mx ++ movP p2 my) = S0 ++ VS := by rw [← HV2.out]
          have HFL := Lib.hid hfl
          clear hfl
          generalize movP p1 mx = M1 at *
          generalize movP p2 my = M2 at *
          have CJ := macro_joined (World.drew w6).heap.size 0 3 [S0, M1, M2] ((World.drew w6).alloc (.cells #[.string (bs S0), .string (bs M1), .string (bs M2)] 9)) (fun j t h => by
            have hb := Blk.new (World.drew w6) 9 #[.string (bs S0), .string (bs M1), .string (bs M2)]
            rw [Nat.zero_add, hb.cell j]
            match j, h with
            | 0, h => cases h; rfl
            | 1, h => cases h; rfl
            | 2, h => cases h; rfl
            | (j + 3), h => cases h) (by simp) (by simp) (by simp) (by simp; omega)
          have CJ := Lib.hid CJ
          have HC7 := Lib.hid (cons_alloc (cons_drew HC6.out) (.cells #[.string (bs S0), .string (bs M1), .string (bs M2)] 9))
          go_wp2_with (go_at_call 49; refine CJ.out.mono ?_; rintro e w8 ⟨rfl, hb8⟩; have HB8 := Lib.hid hb8; clear hb8)
          refine ⟨rfl, ?_⟩
          go_wp2_with fail
          go_meet
          case rel => exact ⟨by rw [← HFL.out], Lib.hid (cons_below HC7.out HB8.out)⟩
      obtain ⟨rfl, HC6⟩ := hcut
      clear q2 HC5
      have hsl : (S0 ++ VS).length ≤ 77 := by
        have h2 : VS.length ≤ 48 := by
          rw [← HVS.out]
          have := movP_len p1 mx; have := movP_len p2 my
          split
          · rw [List.length_append]; omega
          · simp
        rw [List.length_append]; omega
      have q4 := HC6.out.2.1.tail.tail.head.cell 4
      have m5 := HC6.out.2.1.head.cell 5
      dsimp only at q4 m5
      go_upto_if 79 with fail
      obtain ⟨PS, hps⟩ : ∃ PS, (if pC kd then patP pa else []) = PS := ⟨_, rfl⟩
      rw [hps] at HOUT
      have HPS := Lib.hid hps
      obtain ⟨S1, hs1⟩ : ∃ S1, S0 ++ VS = S1 := ⟨_, rfl⟩
      rw [hs1] at hsl HOUT ⊢
      clear hps hs1
      go_cut [8] (fun s wx => s = .string (bs (S1 ++ PS)) ∧ Hid (Cons w [(w.heap.size, 29, #[.int .i64 ad, .int .i64 kd, .int .i64 qu, .int .i64 mx, .int .i64 my, .int .i64 pa, .slice A n c]), (w.heap.size + 1, 24, #[.int .i64 la, .bool lh, .int .i64 lx, .int .i64 ly]), (g, 59, #[.bool (pI kd), .bool (pQ kd), .bool (pV kd), .bool (pF kd), .bool (pC kd)])] [] wx))
      case first =>
        have hps2 := HPS.out
        have hpa := HPAT.out
        obtain ⟨bC, hbc⟩ : ∃ b, pC kd = b := ⟨_, rfl⟩
        rw [hbc] at q4 hps2 hpa ⊢
        have HBC := Lib.hid hbc
        clear hbc
        cases bC with
        | false =>
          rw [if_neg (by decide)] at hps2
          have HP2 := Lib.hid hps2
          clear hps2 hpa
          go_wp2_with fail
          go_meet
          case rel => exact ⟨by rw [← HP2.out, List.append_nil], HC6⟩
        | true =>
          rw [if_pos rfl] at hps2
          have hp63 : 1 ≤ pa ∧ pa ≤ 63 := by
            split at hpa
            · rw [beq_iff_eq] at hpa; omega
            · simpa using hpa
          have HP2 := Lib.hid hps2
          have CP := Lib.hid (fun W hW => pattern_Put pa W hW hp63.1 hp63.2)
          have hpl := patP_len pa
          generalize patP pa = PP at *
          have HTS := Lib.hid (Hs.out.below HC6.out.1)
          clear hps2 hpa hp63
          go_wp2_with (go_at_call 51; refine (CP.out _ HTS.out).mono ?_; rintro e w6 ⟨rfl, hb6⟩; have HC7 := Lib.hid (cons_below HC6.out hb6); clear hb6)
          go_meet
          case rel => exact ⟨by rw [← HP2.out], HC7⟩
      obtain ⟨rfl, HC7⟩ := hcut
      clear q4 m5 HC6
      have hsl : (S1 ++ PS).length ≤ 101 := by
        have h2 : PS.length ≤ 24 := by
          rw [← HPS.out]
          split
          · exact patP_len pa
          · simp
        rw [List.length_append]; omega
      obtain ⟨S2, hs2⟩ : ∃ S2, S1 ++ PS = S2 := ⟨_, rfl⟩
      rw [hs2] at hsl HOUT ⊢
      clear hs2
      have m6 := HC7.out.2.1.head.cell 6
      dsimp only at m6
      go_wp2_with fail
      have hx64 := HA.out.len
      rw [HN.out] at hx64
      have HBL : Hid (∀ p ∈ xs, bchkP p.1 (pI kd) = 0) := Lib.hid (fun p hp => by
        have h := HALL.out
        have h2 := HMM.out
        rw [h2, List.all_map, List.all_eq_true] at h
        simpa using h p hp)
      have HOUT : Hid (S2 ++ xs.flatMap (fun p => bputP p.1 (pI kd)) = OUT) := Lib.hid (by
        have h := HOUT.out
        have h2 := HMM.out
        rw [h2, List.flatMap_map] at h
        exact h)
      have HPL : Hid (∀ p ∈ xs, (bputP p.1 (pI kd)).length ≤ 1400) := Lib.hid (fun p hp => bput_len (HBL.out p hp))
      clear m6
      generalize pI kd = bI at *
      go_loopg [15, 92] n (fun gg v15 v92 => fun wr => ∃ (j : Nat) (v : Value), j + gg = n ∧ v15 = v ∧ v92 = .int .i64 (j : Int) ∧ Hid (Cons w [(w.heap.size, 29, #[.int .i64 ad, .int .i64 kd, .int .i64 qu, .int .i64 mx, .int .i64 my, .int .i64 pa, .slice A n c]), (w.heap.size + 1, 24, #[.int .i64 la, .bool lh, .int .i64 lx, .int .i64 ly]), (g, 59, #[.bool bI, .bool (pQ kd), .bool (pV kd), .bool (pF kd), .bool (pC kd)])] [⟨w.heap.size, 9, 1, v, j, ((xs.take j).map fun p => strV (bputP p.1 bI))⟩] wr))
      case atStart => exact ⟨0, .slice none 0 0, by omega, rfl, rfl, Lib.hid (by rw [List.take_zero, List.map_nil]; exact cons_nilrow HC7.out _ _ _)⟩
      case round =>
        obtain ⟨j, v, hj, rfl, rfl, HC⟩ := hrel
        cases gk with
        | zero =>
          have hjn : j = n := by omega
          subst hjn
          have hlt : ¬ ((j : Int) < (j : Int)) := by omega
          have hrow := HC.out.2.2.head
          dsimp only at hrow
          rw [List.take_of_length_le (by rw [HN.out]; omega)] at hrow
          obtain ⟨A5, c5, e5, hs5⟩ := own_sl hrow
          subst e5
          have hown := World.ownsRow_lit (base := w.heap.size) (e := 9) (size := 1) wr #[.string (bs S2)] 1 HC.out.1.size (by decide) rfl
          have hsl5 := hs5.below ((Below.refl _ _).alloc (Nat.le_refl _) (.cells #[.string (bs S2)] 9))
          have HOW := Lib.hid hown; have HSL5 := Lib.hid hsl5
          have HB5 := Lib.hid (HC.out.1.alloc HC.out.1.size (.cells #[.string (bs S2)] 9))
          have HFL : Hid (([S2] ++ xs.map fun p => bputP p.1 bI).flatten = OUT) := Lib.hid (by rw [← HOUT.out]; simp [List.flatMap])
          have HLF : Hid (([S2] ++ xs.map fun p => bputP p.1 bI).flatten.length ≤ 1000000) := Lib.hid (flat_len hsl HPL.out (by rw [HN.out]; omega))
          have HLX : Hid ((xs.map fun p => bputP p.1 bI).length = j) := Lib.hid (by rw [List.length_map, HN.out])
          have hmm : (xs.map fun p => strV (bputP p.1 bI)) = (xs.map fun p => bputP p.1 bI).map strV := by rw [List.map_map]; rfl
          rw [hmm] at HSL5
          have HXX := Lib.hid hx64
          clear hrow hs5 hown hsl5 hmm hx64
          generalize (xs.map fun p => bputP p.1 bI) = TS at *
          go_wp2_with (first | (at_builtin; refine wpList_app etStr rfl rfl (m := j) (news := TS.map strV) rfl HOW.out rfl (by rw [List.length_map, HLX.out, Nat.mul_one]) HSL5.out (by intro u hu; obtain ⟨b, _, rfl⟩ := List.mem_map.1 hu; rfl) (by have := HXX.out; omega) (Nat.le_trans HC.out.1.size (by simp)) ?_; intro v1 W1 ho1 hg1 _; obtain ⟨g1, c1, e1, hcap1, hcells1, hlt1⟩ := own_strs (ts := [S2] ++ TS) ho1 (by have := HLX.out; simp; omega) (by simp); subst e1; have HB1 := Lib.hid (HB5.out.grown hg1 HB5.out.size (fun k hk => (HOW.out.lt k hk).1)); have CJ := Lib.hid (macro_joined g1 0 c1 ([S2] ++ TS) W1 hcells1 hlt1 (by have := HLX.out; have := HXX.out; simp; omega) hcap1 HLF.out); clear ho1 hg1 hcap1 hcells1 hlt1) | (go_at_call 49; refine CJ.out.mono ?_; rintro e w8 ⟨rfl, hb8⟩; have HB8 := Lib.hid hb8; clear hb8))
          go_ret2
          refine ⟨?_, HB1.out.trans (HB8.out.mono HB1.out.size)⟩
          rw [← HFL.out]
          rfl
        | succ gg =>
          have hlt : ((j : Int) < (n : Int)) := by omega
          have hjl : j < xs.length := by rw [HN.out]; omega
          obtain ⟨A5, c5, e5, _⟩ := own_sl HC.out.2.2.head
          dsimp only at e5
          subst e5
          obtain ⟨ad5, rfl, _, c0, c1⟩ := sl_bk (HA.out.row.below HC.out.1) j hjl
          have hbl := (HA.out.bl _ (List.getElem_mem hjl)).below (HC.out.1.alloc HC.out.1.size (.cells #[.int .i64 xs[j].1.dc, .slice xs[j].2.1 xs[j].1.l.length xs[j].2.2] 81))
          have hTZ := HT.out.below (HC.out.1.alloc HC.out.1.size (.cells #[.int .i64 xs[j].1.dc, .slice xs[j].2.1 xs[j].1.l.length xs[j].2.2] 81))
          have hTS := Hs.out.below (HC.out.1.alloc HC.out.1.size (.cells #[.int .i64 xs[j].1.dc, .slice xs[j].2.1 xs[j].1.l.length xs[j].2.2] 81))
          have CB := Lib.hid (block_Put xs[j].1 xs[j].2.1 xs[j].1.l.length xs[j].2.2 bI _ hbl rfl (HBL.out _ (List.getElem_mem hjl)) hTZ hTS)
          have HCa := Lib.hid (cons_alloc HC.out (.cells #[.int .i64 xs[j].1.dc, .slice xs[j].2.1 xs[j].1.l.length xs[j].2.2] 81))
          have q0 := HCa.out.2.1.tail.tail.head.cell 0
          dsimp only at q0
          have HTK := Lib.hid (List.take_add_one (l := xs) (i := j))
          have HGJ := Lib.hid (List.getElem?_eq_getElem hjl)
          obtain ⟨⟨⟨dcj, lj⟩, Aj, cj⟩, hpe⟩ : ∃ p, xs[j] = p := ⟨_, rfl⟩
          rw [hpe] at c0 c1 CB HCa q0 HGJ
          dsimp only at c0 c1 CB HCa q0
          obtain ⟨BPJ, hbpj⟩ : ∃ B, bputP ⟨dcj, lj⟩ bI = B := ⟨_, rfl⟩
          rw [hbpj] at CB
          have HBPJ := Lib.hid hbpj
          clear hbpj
          have hw1 : IntKind.i64.wrap ((j : Int) + 1) = (j : Int) + 1 := by rw [IntKind.wrap_i64]; omega
          have HJ := Lib.hid hj
          obtain ⟨nj, hnj⟩ : ∃ nj, lj.length = nj := ⟨_, rfl⟩
          rw [hnj] at c1 CB HCa q0
          clear hnj
          clear hpe hbl hTZ hTS hj hjl
          go_wp2_with (first | (go_at_call 52; refine CB.out.mono ?_; rintro e w6 ⟨rfl, hb6⟩; have HC6 := Lib.hid (cons_below HCa.out hb6); clear hb6 q0) | (at_builtin; refine wpList_appC etStr rfl rfl 1 [strV BPJ] rfl HC6.out rfl rfl (strV1 _) (by have := HJ.out; omega) ⟨Nat.le_refl _, HC6.out.1.size⟩ (by simp) (by simp) ?_; intro v1 W1 hc1; have HC1 := Lib.hid hc1; clear hc1))
          go_roundg gg
          case measure => omega
          case rel =>
            refine ⟨j + 1, v1, by have := HJ.out; omega, rfl, rfl, Lib.hid ?_⟩
            rw [HTK.out, HGJ.out, List.map_append]
            show Cons _ _ [⟨_, _, _, _, _, _ ++ [strV (bputP ⟨dcj, lj⟩ bI)]⟩] _
            rw [HBPJ.out]
            exact HC1.out
end Go.Proofs.YtcojnigkgbmbmaaGreatDoor
