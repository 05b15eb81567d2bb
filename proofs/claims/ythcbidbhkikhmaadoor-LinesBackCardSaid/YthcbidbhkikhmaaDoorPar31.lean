/- The reference's Parse. -/
import Derived.Test.YthcbidbhkikhmaaDoorLin31
import Derived.Handy
namespace Go.Proofs.YthcbidbhkikhmaaDoor
open Go Go.RowKit
structure OpN where
  w : List UInt8
  id : Nat
  n : Nat
  b : List UInt8
def OpN.none : OpN := ⟨[], 0, 0, []⟩
def readR (c : UInt8) (s : List UInt8) (o : OpN) : Option OpN :=
  if c = 105 then (if (numR s).2 = true then some { o with id := (numR s).1 } else Option.none)
  else if c = 110 then (if (numR s).2 = true then some { o with n := (numR s).1 } else Option.none)
  else if (bytesR s).2 = true then some { o with b := (bytesR s).1 } else Option.none
def endR (line : List UInt8) (at' : Nat) : Nat := at' + 1 + partR (line.drop (at' + 1))
def goR (line : List UInt8) : List UInt8 → Nat → OpN → Except (Nat × Nat) OpN
  | [], at', o => if at' < line.length then .error (14, at') else .ok o
  | c :: t, at', o => if at' = line.length then .error (14, at') else
    match readR c ((line.take (endR line at')).drop (at' + 1)) o with
    | Option.none => .error (14, at' + 1)
    | some o' => goR line t (endR line at') o'
def refP (line : List UInt8) : Except (Nat × Nat) OpN :=
  if 3000 < line.length then .error (4, 3000) else
  match partsR (line.take (partR line)) with
  | Option.none => .error (14, 0)
  | some p => goR line (lettersR p) (partR line) ⟨line.take (partR line), 0, 0, []⟩
def opOf : Except (Nat × Nat) OpN → OpN
  | .ok o => o
  | .error _ => OpN.none
def errOf : Except (Nat × Nat) OpN → Nat × Nat
  | .ok _ => (0, 0)
  | .error e => e
def ParsePost (r : Except (Nat × Nat) OpN) (w : World) (e : Ending) (w' : World) : Prop :=
  ∃ v, e = .returned (.tuple #[.agg #[.string (bs (opOf r).w), .int .i64 ((opOf r).id : Nat), .int .i64 ((opOf r).n : Nat), v], .agg #[.int .i64 ((errOf r).1 : Nat), .int .i64 ((errOf r).2 : Nat)]]) ∧
    w'.ownsRow w.heap.size 5 1 v (opOf r).b.length ((opOf r).b.map byteV) ∧ Below w.heap.size w w'
theorem ParsePost.err {w w' : World} (a b : Nat) (hb : Below w.heap.size w w') : ParsePost (.error (a, b)) w (.returned (.tuple #[.agg #[.string ⟨#[]⟩, .int .i64 0, .int .i64 0, .slice none 0 0], .agg #[.int .i64 (a : Int), .int .i64 (b : Int)]])) w' :=
  ⟨_, rfl, World.ownsRow_nil _ _ _ _, hb⟩
theorem own_mono {w : World} {base base' e size n : Nat} {v : Value} {xs : List Value} (h : w.ownsRow base' e size v n xs) (hle : base ≤ base') : w.ownsRow base e size v n xs := by
  refine ⟨h.1, ?_⟩
  rcases h.2 with h2 | ⟨g, cap, cur, rfl, hbg, h3⟩
  · exact .inl h2
  · exact .inr ⟨g, cap, cur, rfl, Nat.le_trans hle hbg, h3⟩
/-- the world of the reference's Parse: the two results' cells, the operation's, its bytes -/
def PW (w : World) (o : OpN) (W : World) : Prop := ∃ v, Blk W (w.heap.size + 2) 24 #[.string (bs o.w), .int .i64 (o.id : Int), .int .i64 (o.n : Int), v] ∧ W.ownsRow w.heap.size 5 1 v o.b.length (o.b.map byteV) ∧
  Blk W w.heap.size 24 #[.string ⟨#[]⟩, .int .i64 0, .int .i64 0, .slice none 0 0] ∧ Blk W (w.heap.size + 1) 34 #[.int .i64 0, .int .i64 0] ∧ Below w.heap.size w W
theorem PW.start (w : World) (s : List UInt8) : PW w ⟨s, 0, 0, []⟩ (((w.alloc (.cells #[.string ⟨#[]⟩, .int .i64 0, .int .i64 0, .slice none 0 0] 24)).alloc (.cells #[.int .i64 0, .int .i64 0] 34)).alloc (.cells #[.string (bs s), .int .i64 0, .int .i64 0, .slice none 0 0] 24)) := by
  have h2 := Blk.new ((w.alloc (.cells #[.string ⟨#[]⟩, .int .i64 0, .int .i64 0, .slice none 0 0] 24)).alloc (.cells #[.int .i64 0, .int .i64 0] 34)) 24 #[.string (bs s), .int .i64 0, .int .i64 0, .slice none 0 0]
  have h1 := Blk.new (w.alloc (.cells #[.string ⟨#[]⟩, .int .i64 0, .int .i64 0, .slice none 0 0] 24)) 34 #[.int .i64 0, .int .i64 0]
  have h0 := Blk.new w 24 #[.string ⟨#[]⟩, .int .i64 0, .int .i64 0, .slice none 0 0]
  rw [World.size_alloc, World.size_alloc] at h2
  rw [World.size_alloc] at h1
  exact ⟨_, h2, World.ownsRow_nil _ _ _ _, (h0.alloc _).alloc _, h1.alloc _, ((((Below.refl _ _).alloc (Nat.le_refl _) _).alloc (by simp) _).alloc (by simp; omega) _)⟩
set_option maxRecDepth 100000 in
set_option maxHeartbeats 8000000 in
theorem ref31_parse (line : List UInt8) (w : World) (hsz : line.length ≤ 10000) : Calls Tryd.prog 17 #[.string (bs line)] w (ParsePost (refP line) w) := by
  obtain ⟨r, hr⟩ : ∃ r, refP line = r := ⟨_, rfl⟩
  rw [hr]
  unfold refP at hr
  have HB0 := Lib.hid (Below.refl w.heap.size w)
  by_cases h0 : 3000 < line.length
  · rw [if_pos h0] at hr
    subst hr
    have h0i : 3000 < (line.length : Int) := by omega
    go_enter Tryd.func17, Tryd.ntmps17
    go_wp2_with fail
    go_returns
    exact ParsePost.err _ _ (((Below.refl _ _).alloc (Nat.le_refl _) _).alloc (by simp) _)
  rw [if_neg h0] at hr
  have h0i : ¬ 3000 < (line.length : Int) := by omega
  have Cpart := Lib.hid (fun W => ref31_part line 0 W hsz (Nat.zero_le _))
  obtain ⟨at', hat⟩ : ∃ at', at' = partR line := ⟨_, rfl⟩
  have hle := partR_le line
  rw [← hat] at hr hle
  have hz : (0 : Nat) + partR (line.drop 0) = at' := by rw [hat]; simp
  rw [hz] at Cpart
  have hli : (at' : Int) ≤ (line.length : Int) := by omega
  clear hat hz h0
  have hh := has_parts (line.take at')
  have Chas := Lib.hid (fun W => ref31_has (line.take at') W)
  cases hp : partsR (line.take at') with
  | none =>
    rw [hp] at hr hh
    have hh2 : hasR (line.take at') = ([], false) := hh
    have hr2 : Except.error (14, 0) = r := hr
    subst hr2
    rw [hh2] at Chas
    clear hh hh2 hr hp
    go_enter Tryd.func17, Tryd.ntmps17
    go_wp2_with (go_at_call 38; refine (Cpart.out _).mono ?_; rintro e w' ⟨rfl, rfl⟩)
    go_wp2_with (go_at_call 31; refine (Chas.out _).mono ?_; rintro e w' ⟨rfl, rfl⟩)
    go_returns
    exact ParsePost.err _ _ ((((Below.refl _ _).alloc (Nat.le_refl _) _).alloc (by simp) _).alloc (by simp; omega) _)
  | some p =>
    rw [hp] at hr hh
    have hh2 : hasR (line.take at') = (lettersR p, true) := hh
    rw [hh2] at Chas
    have hl3 : (lettersR p).length ≤ 3 := (in_letters p.1 p.2.1 p.2.2).2.2.2
    have Hr : Hid (goR line (lettersR p) at' ⟨line.take at', 0, 0, []⟩ = r) := Lib.hid hr
    have Hmem := Lib.hid (letters_mem p)
    clear hh hh2 hr hp
    generalize lettersR p = t at Chas hl3 Hmem Hr
    go_enter Tryd.func17, Tryd.ntmps17
    go_wp2_with (go_at_call 38; refine (Cpart.out _).mono ?_; rintro e w' ⟨rfl, rfl⟩)
    go_wp2_with (go_at_call 31; refine (Chas.out _).mono ?_; rintro e w' ⟨rfl, rfl⟩)
    go_loopg [4, 8] t.length (fun g a i => fun wr => ∃ (j at2 : Nat) (o : OpN), j + g = t.length ∧ i = .int .i64 (j : Int) ∧ a = .int .i64 (at2 : Int) ∧ at2 ≤ line.length ∧ Hid (goR line (t.drop j) at2 o = r) ∧ Hid (PW w o wr))
    case atStart => exact ⟨0, at', ⟨line.take at', 0, 0, []⟩, by omega, rfl, rfl, hle, Hr, Lib.hid (PW.start w (line.take at'))⟩
    case round =>
      obtain ⟨j, at2, o, hj, rfl, rfl, hle2, Hgo, HW⟩ := hrel
      obtain ⟨v, h5, hv, h2, h3, hb⟩ := HW.out
      obtain ⟨Ab, cb, rfl, hSb⟩ := own_sl hv
      have r0 := h2.cell 0
      have r1 := h2.cell 1
      have r2 := h2.cell 2
      have r3 := h2.cell 3
      have fr0 := h2.frozen 0
      have fr1 := h2.frozen 1
      have fr2 := h2.frozen 2
      have fr3 := h2.frozen 3
      have s0 := h3.cell 0
      have s1 := h3.cell 1
      have fs0 := h3.frozen 0
      have fs1 := h3.frozen 1
      have x0 := h5.cell 0
      have x1 := h5.cell 1
      have x2 := h5.cell 2
      have x3 := h5.cell 3
      have fx1 := h5.frozen 1
      have fx2 := h5.frozen 2
      have fx3 := h5.frozen 3
      have H5 := Lib.hid h5
      have HV := Lib.hid hv
      have H2 := Lib.hid h2
      have H3 := Lib.hid h3
      have HB := Lib.hid hb
      clear h5 hv h2 h3 hb hSb HW
      cases gk with
      | zero =>
        obtain rfl : j = t.length := by omega
        have hlt : ¬ ((t.length : Int) < (t.length : Int)) := by omega
        have hgo := Hgo.out
        rw [List.drop_length] at hgo
        by_cases hat : at2 < line.length
        · have hati : (at2 : Int) < (line.length : Int) := by omega
          have hgo2 : Except.error (14, at2) = r := by rw [← hgo]; simp only [goR]; rw [if_pos hat]
          subst hgo2
          clear hgo
          go_wp2_with fail
          refine bodyPost_ret (by simp [results, Tryd.results17, go_sem, r0, r1, r2, r3, s0, s1]; try rfl) rfl ?_
          exact ParsePost.err _ _ (by have hb := HB.out; go_grown)
        · have hati : ¬ (at2 : Int) < (line.length : Int) := by omega
          have hgo2 : Except.ok o = r := by rw [← hgo]; simp only [goR]; rw [if_neg hat]
          subst hgo2
          clear hgo
          go_wp2_with fail
          refine bodyPost_ret (by simp [results, Tryd.results17, go_sem, r0, r1, r2, r3, s0, s1]; try rfl) rfl ?_
          have n0 := own_blk_ne HV.out H2.out (by decide)
          have n1 := own_blk_ne HV.out H3.out (by decide)
          exact ⟨_, rfl, own_set (own_set (own_set (own_set (own_set (own_set HV.out _ _ n0) _ _ n0) _ _ n0) _ _ n0) _ _ n1) _ _ n1, by have hb := HB.out; go_grown⟩
      | succ g =>
        have hlt : ((j : Int) < (t.length : Int)) := by omega
        have hjl : j < t.length := by omega
        have hgo := Hgo.out
        rw [List.drop_eq_getElem_cons hjl] at hgo
        simp only [goR] at hgo
        by_cases hat : at2 = line.length
        · have hati : ((at2 : Int) == (line.length : Int)) = true := by rw [beq_iff_eq]; omega
          rw [if_pos hat] at hgo
          subst hgo
          clear hat
          go_wp2_with fail
          refine bodyPost_ret (by simp [results, Tryd.results17, go_sem, r0, r1, r2, r3, s0, s1]; try rfl) rfl ?_
          exact ParsePost.err _ _ (by have hb := HB.out; go_grown)
        rw [if_neg hat] at hgo
        have hati : ((at2 : Int) == (line.length : Int)) = false := by rw [beq_eq_false_iff_ne]; omega
        obtain ⟨a3, ha3⟩ : ∃ a3, a3 = at2 + 1 := ⟨_, rfl⟩
        obtain ⟨e3, he3⟩ : ∃ e3, e3 = endR line at2 := ⟨_, rfl⟩
        have hw3 : IntKind.i64.wrap ((at2 : Int) + 1) = (a3 : Int) := by rw [IntKind.wrap_i64]; omega
        have C3 := Lib.hid (fun W => ref31_part line a3 W hsz (by omega))
        have he3' : a3 + partR (line.drop a3) = e3 := by rw [he3, ha3]; rfl
        have hpl := partR_le (line.drop a3)
        rw [List.length_drop] at hpl
        rw [he3'] at C3
        rw [← he3, ← ha3] at hgo
        have hi1 : (a3 : Int) ≤ (e3 : Int) := by omega
        have hi2 : (e3 : Int) ≤ (line.length : Int) := by omega
        have hi3 : 0 ≤ (a3 : Int) := by omega
        have hxl : ((line.take e3).drop a3).length ≤ 10000 := by rw [List.length_drop, List.length_take]; omega
        have hmem := Hmem.out t[j] (List.getElem_mem hjl)
        have hle3 : e3 ≤ line.length := by omega
        have HA3 := Lib.hid ha3
        rcases hmem with hc | hc | hc
        · obtain ⟨nv, nb, hn⟩ : ∃ nv nb, numR ((line.take e3).drop a3) = (nv, nb) := ⟨_, _, rfl⟩
          have Cn := Lib.hid (fun W => ref31_number ((line.take e3).drop a3) W hxl)
          rw [hn] at Cn
          have q1 : ((t[j].toNat : Int) == 105) = true := by rw [hc]; rfl
          cases nb with
          | false =>
            have hrd : readR t[j] ((line.take e3).drop a3) o = Option.none := by unfold readR; rw [if_pos hc, hn]; rfl
            rw [hrd] at hgo
            dsimp only at hgo
            subst hgo
            clear hrd hn hc hpl he3 he3' ha3 hat
            go_wp2_with (first | (go_at_call 38; refine (C3.out _).mono ?_; rintro e w' ⟨rfl, rfl⟩) | (go_at_call 39; refine (Cn.out _).mono ?_; rintro e w' ⟨rfl, rfl⟩))
            refine bodyPost_ret (by simp [results, Tryd.results17, go_sem, r0, r1, r2, r3, s0, s1]; try rfl) rfl ?_
            exact ParsePost.err _ _ (by have hb := HB.out; go_grown)
          | true =>
            have hrd : readR t[j] ((line.take e3).drop a3) o = some { o with id := nv } := by unfold readR; rw [if_pos hc, hn]; rfl
            rw [hrd] at hgo
            dsimp only at hgo
            have HG := Lib.hid hgo
            clear hrd hn hc hgo hpl he3 he3' ha3 hat
            go_wp2_with (first | (go_at_call 38; refine (C3.out _).mono ?_; rintro e w' ⟨rfl, rfl⟩) | (go_at_call 39; refine (Cn.out _).mono ?_; rintro e w' ⟨rfl, rfl⟩))
            go_roundg g
            case measure => omega
            case rel => exact ⟨j + 1, e3, { o with id := nv }, by omega, rfl, rfl, hle3, HG, Lib.hid ⟨_, H5.out.set_ 1 _, own_set HV.out _ _ (own_blk_ne HV.out H5.out (by decide)), H2.out.far (p := ⟨w.heap.size + 2, 1, none⟩) (Nat.ne_of_lt (by simp)) _, H3.out.far (p := ⟨w.heap.size + 2, 1, none⟩) (Nat.ne_of_lt (by simp)) _, HB.out.setCell (p := ⟨w.heap.size + 2, 1, none⟩) (by simp) _⟩⟩
        · obtain ⟨nv, nb, hn⟩ : ∃ nv nb, numR ((line.take e3).drop a3) = (nv, nb) := ⟨_, _, rfl⟩
          have Cn := Lib.hid (fun W => ref31_number ((line.take e3).drop a3) W hxl)
          rw [hn] at Cn
          have q1 : ((t[j].toNat : Int) == 105) = false := by rw [hc]; rfl
          have q2 : ((t[j].toNat : Int) == 110) = true := by rw [hc]; rfl
          cases nb with
          | false =>
            have hrd : readR t[j] ((line.take e3).drop a3) o = Option.none := by unfold readR; rw [if_neg (by rw [hc]; decide), if_pos hc, hn]; rfl
            rw [hrd] at hgo
            dsimp only at hgo
            subst hgo
            clear hrd hn hc hpl he3 he3' ha3 hat
            go_wp2_with (first | (go_at_call 38; refine (C3.out _).mono ?_; rintro e w' ⟨rfl, rfl⟩) | (go_at_call 39; refine (Cn.out _).mono ?_; rintro e w' ⟨rfl, rfl⟩))
            refine bodyPost_ret (by simp [results, Tryd.results17, go_sem, r0, r1, r2, r3, s0, s1]; try rfl) rfl ?_
            exact ParsePost.err _ _ (by have hb := HB.out; go_grown)
          | true =>
            have hrd : readR t[j] ((line.take e3).drop a3) o = some { o with n := nv } := by unfold readR; rw [if_neg (by rw [hc]; decide), if_pos hc, hn]; rfl
            rw [hrd] at hgo
            dsimp only at hgo
            have HG := Lib.hid hgo
            clear hrd hn hc hgo hpl he3 he3' ha3 hat
            go_wp2_with (first | (go_at_call 38; refine (C3.out _).mono ?_; rintro e w' ⟨rfl, rfl⟩) | (go_at_call 39; refine (Cn.out _).mono ?_; rintro e w' ⟨rfl, rfl⟩))
            go_roundg g
            case measure => omega
            case rel => exact ⟨j + 1, e3, { o with n := nv }, by omega, rfl, rfl, hle3, HG, Lib.hid ⟨_, H5.out.set_ 2 _, own_set HV.out _ _ (own_blk_ne HV.out H5.out (by decide)), H2.out.far (p := ⟨w.heap.size + 2, 2, none⟩) (Nat.ne_of_lt (by simp)) _, H3.out.far (p := ⟨w.heap.size + 2, 2, none⟩) (Nat.ne_of_lt (by simp)) _, HB.out.setCell (p := ⟨w.heap.size + 2, 2, none⟩) (by simp) _⟩⟩
        · obtain ⟨bl, bb, hn⟩ : ∃ bl bb, bytesR ((line.take e3).drop a3) = (bl, bb) := ⟨_, _, rfl⟩
          have Cn := Lib.hid (fun W => ref31_bytes ((line.take e3).drop a3) W hxl)
          rw [hn] at Cn
          have q1 : ((t[j].toNat : Int) == 105) = false := by rw [hc]; rfl
          have q2 : ((t[j].toNat : Int) == 110) = false := by rw [hc]; rfl
          cases bb with
          | false =>
            have hrd : readR t[j] ((line.take e3).drop a3) o = Option.none := by unfold readR; rw [if_neg (by rw [hc]; decide), if_neg (by rw [hc]; decide), hn]; rfl
            rw [hrd] at hgo
            dsimp only at hgo
            subst hgo
            clear hrd hn hc hpl he3 he3' ha3 hat
            go_wp2_with (first | (go_at_call 38; refine (C3.out _).mono ?_; rintro e w' ⟨rfl, rfl⟩) | (go_at_call 40; refine (Cn.out _).mono ?_; rintro e w2 ⟨v2, rfl, ho2, hb2⟩; obtain ⟨A2, c2, rfl, _⟩ := own_sl ho2; have h5b := H5.out.below hb2 H5.out.lt; have h2b := H2.out.below hb2 H2.out.lt; have h3b := H3.out.below hb2 H3.out.lt; have r0 := h2b.cell 0; have r1 := h2b.cell 1; have r2 := h2b.cell 2; have r3 := h2b.cell 3; have fr0 := h2b.frozen 0; have fr1 := h2b.frozen 1; have fr2 := h2b.frozen 2; have fr3 := h2b.frozen 3; have s0 := h3b.cell 0; have s1 := h3b.cell 1; have fs0 := h3b.frozen 0; have fs1 := h3b.frozen 1; have x3 := h5b.cell 3; have fx3 := h5b.frozen 3; have H5b := Lib.hid h5b; have H2b := Lib.hid h2b; have H3b := Lib.hid h3b; clear h5b h2b h3b; have HB2 := Lib.hid (HB.out.trans (hb2.mono HB.out.size)); clear hb2))
            refine bodyPost_ret (by simp [results, Tryd.results17, go_sem, r0, r1, r2, r3, s0, s1]; try rfl) rfl ?_
            exact ParsePost.err _ _ (by have hb := HB2.out; go_grown)
          | true =>
            have hrd : readR t[j] ((line.take e3).drop a3) o = some { o with b := bl } := by unfold readR; rw [if_neg (by rw [hc]; decide), if_neg (by rw [hc]; decide), hn]; rfl
            rw [hrd] at hgo
            dsimp only at hgo
            have HG := Lib.hid hgo
            clear hrd hn hc hgo hpl he3 he3' ha3 hat
            go_wp2_with (first | (go_at_call 38; refine (C3.out _).mono ?_; rintro e w' ⟨rfl, rfl⟩) | (go_at_call 40; refine (Cn.out _).mono ?_; rintro e w2 ⟨v2, rfl, ho2, hb2⟩; have HO2 := Lib.hid (own_mono ho2 HB.out.size); obtain ⟨A2, c2, rfl, _⟩ := own_sl ho2; have h5b := H5.out.below hb2 H5.out.lt; have h2b := H2.out.below hb2 H2.out.lt; have h3b := H3.out.below hb2 H3.out.lt; have r0 := h2b.cell 0; have r1 := h2b.cell 1; have r2 := h2b.cell 2; have r3 := h2b.cell 3; have fr0 := h2b.frozen 0; have fr1 := h2b.frozen 1; have fr2 := h2b.frozen 2; have fr3 := h2b.frozen 3; have s0 := h3b.cell 0; have s1 := h3b.cell 1; have fs0 := h3b.frozen 0; have fs1 := h3b.frozen 1; have x3 := h5b.cell 3; have fx3 := h5b.frozen 3; have H5b := Lib.hid h5b; have H2b := Lib.hid h2b; have H3b := Lib.hid h3b; clear h5b h2b h3b; have HB2 := Lib.hid (HB.out.trans (hb2.mono HB.out.size)); clear hb2 ho2))
            go_roundg g
            case measure => omega
            case rel => exact ⟨j + 1, e3, { o with b := bl }, by omega, rfl, rfl, hle3, HG, Lib.hid ⟨_, H5b.out.set_ 3 _, own_set HO2.out _ _ (own_blk_ne HO2.out H5b.out (by decide)), H2b.out.far (p := ⟨w.heap.size + 2, 3, none⟩) (Nat.ne_of_lt (by simp)) _, H3b.out.far (p := ⟨w.heap.size + 2, 3, none⟩) (Nat.ne_of_lt (by simp)) _, HB2.out.setCell (p := ⟨w.heap.size + 2, 3, none⟩) (by simp) _⟩⟩
end Go.Proofs.YthcbidbhkikhmaaDoor
