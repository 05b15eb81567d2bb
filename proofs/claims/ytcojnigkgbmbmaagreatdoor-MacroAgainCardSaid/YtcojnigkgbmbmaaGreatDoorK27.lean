/- Pairs -/
import Derived.Test.YtcojnigkgbmbmaaGreatDoorK03
import Derived.Test.YtcojnigkgbmbmaaGreatDoorK26
namespace Go.Proofs.YtcojnigkgbmbmaaGreatDoor
open Go Go.RowKit
attribute [local go_sem] Oper.semAt_some
abbrev PEl : Type := (Int × Int) × Int
def flg (first : Bool) (k : Nat) : Bool := first && k == 0
def posn (l : List UInt8) (i : Int) (first : Bool) : Nat → Int
  | 0 => i
  | k + 1 => posn l i first k + (cgetP l (posn l i first k) (flg first k)).2.2.1
def gK (l : List UInt8) (i : Int) (first : Bool) (k : Nat) : (Int × Int) × Bool × Int × Int := cgetP l (posn l i first k) (flg first k)
def SpG (l : List UInt8) (i : Int) (first : Bool) (pre : List PEl) : Prop := ∀ k x, pre[k]? = some x → x = ((gK l i first k).1, (gK l i first k).2.2.2) ∧ (gK l i first k).2.1 = false
theorem SpG.snoc {l : List UInt8} {i : Int} {first : Bool} {pre : List PEl} (h : SpG l i first pre) (he : (gK l i first pre.length).2.1 = false) : SpG l i first (pre ++ [((gK l i first pre.length).1, (gK l i first pre.length).2.2.2)]) := by
  intro k x hk
  rcases Nat.lt_trichotomy k pre.length with hlt | heq | hgt
  · rw [List.getElem?_append_left hlt] at hk; exact h k x hk
  · subst heq
    rw [List.getElem?_append_right (Nat.le_refl _)] at hk
    simp at hk
    exact ⟨hk.symm, he⟩
  · rw [List.getElem?_append_right (by omega)] at hk
    rw [List.getElem?_eq_none (by simp; omega)] at hk
    cases hk
/-- what is sound of an answer behind so many bits. -/
def okR (s : Nat) (r : (Int × Int) × Bool × Int × Int) : Prop := 0 ≤ r.2.2.1 ∧ r.2.2.1 ≤ s ∧ (r.2.2.2 = 0 → 1 ≤ r.2.2.1) ∧ (r.2.2.2 = 0 → r.2.1 = false → 0 ≤ r.1.1 ∧ r.1.1 ≤ 63 ∧ -127 ≤ r.1.2 ∧ r.1.2 ≤ 127 ∧ r.1.2 ≠ 0) ∧ (r.2.2.2 = 0 ∨ (r.2.1 = false ∧ r.2.2.1 = 0))
theorem lookC_ok (s : List UInt8) : ∀ (T : List ((Int × Int) × List UInt8)) (more : Bool), (∀ x ∈ T, 0 ≤ x.1.1 ∧ x.1.1 ≤ 63 ∧ 1 ≤ x.1.2 ∧ x.1.2 ≤ 127) → okR s.length (lookC s T more)
  | [], more, _ => by
    show okR _ ((0, 0), false, 0, if more then 5 else 7)
    unfold okR
    cases more <;> simp
  | (p, c) :: T, more, h => by
    have hT := fun x hx => h x (List.mem_cons_of_mem _ hx)
    cases hs : sameB s c with
    | false => rw [lookC_no hs]; exact lookC_ok s T more hT
    | true =>
      by_cases hl : s.length ≤ c.length
      · rw [lookC_short hs hl]; exact lookC_ok s T true hT
      · rw [lookC_hit hs hl]
        have h0 := h (p, c) (by simp)
        dsimp only at h0
        unfold okR
        dsimp only
        refine ⟨by omega, by omega, fun _ => by omega, fun _ _ => ⟨h0.1, h0.2.1, ?_⟩, .inl rfl⟩
        split <;> omega
theorem tabL_ok (first : Bool) : (tabL first).all (fun x => decide (0 ≤ x.1.1) && decide (x.1.1 ≤ 63) && decide (1 ≤ x.1.2) && decide (x.1.2 ≤ 127)) = true := by cases first <;> kernel_rfl
theorem cget_ok (l : List UInt8) (i : Int) (first : Bool) (h0 : 0 ≤ i) (h1 : i ≤ 8 * (l.length : Int)) : okR (8 * l.length - i.toNat) (cgetP l i first) := by
  unfold cgetP
  rw [if_neg (by omega), if_neg (by omega)]
  dsimp only
  have hlen : (bitsL l i.toNat (min 20 (8 * l.length - i.toNat))).length ≤ 8 * l.length - i.toNat := by rw [bitsL_length]; omega
  have hl20 : (bitsL l i.toNat (min 20 (8 * l.length - i.toNat))).length ≤ 20 := by rw [bitsL_length]; omega
  have hor := bitsL_or l i.toNat (min 20 (8 * l.length - i.toNat))
  generalize bitsL l i.toNat (min 20 (8 * l.length - i.toNat)) = s at hlen hor hl20
  generalize 8 * l.length - i.toNat = m at hlen
  split
  · split
    · unfold okR; simp
    · rename_i hs20
      split
      · unfold okR; simp
      · rename_i hz
        have h6 := numS_ltN ((s.take 12).drop 6) 6 (by simp; omega) (fun c hc => hor c (List.mem_of_mem_take (List.mem_of_mem_drop hc)))
        have h8 := numS_ltN (s.drop 12) 8 (by simp; omega) (fun c hc => hor c (List.mem_of_mem_drop hc))
        simp only [Bool.or_eq_true, beq_iff_eq, not_or] at hz
        generalize numS ((s.take 12).drop 6) = a at h6
        unfold okR
        dsimp only
        refine ⟨by omega, by omega, fun _ => by omega, fun _ _ => ⟨by omega, by omega, ?_⟩, .inl rfl⟩
        have hb : ∀ n : Nat, n < 256 → i8 n ≠ 0 → i8 n ≠ -128 → -127 ≤ i8 n ∧ i8 n ≤ 127 ∧ i8 n ≠ 0 := fun n hn a b => by unfold i8 at *; split at * <;> omega
        exact hb _ (by omega) hz.1 hz.2
  · split
    · rename_i hp
      simp only [Bool.and_eq_true] at hp
      have := (List.isPrefixOf_iff_prefix.1 hp.2).length_le
      unfold okR
      dsimp only
      have h2 : endC.length = 2 := rfl
      refine ⟨by omega, by omega, fun _ => by omega, (fun _ h => by cases h), .inl rfl⟩
    · have h := lookC_ok s (tabL first) (!first && sameB s endC) (fun x hx => by have h := List.all_eq_true.1 (tabL_ok first) x hx; simp only [Bool.and_eq_true, decide_eq_true_eq] at h; omega)
      unfold okR at h ⊢
      exact ⟨h.1, by omega, h.2.2⟩
theorem posn_ok (l : List UInt8) (i : Int) (first : Bool) (h0 : 0 ≤ i) (h1 : i ≤ 8 * (l.length : Int)) : ∀ k, 0 ≤ posn l i first k ∧ posn l i first k ≤ 8 * (l.length : Int)
  | 0 => ⟨h0, h1⟩
  | k + 1 => by
    have ih := posn_ok l i first h0 h1 k
    have h := cget_ok l (posn l i first k) (flg first k) ih.1 ih.2
    unfold okR at h
    show 0 ≤ posn l i first k + _ ∧ posn l i first k + _ ≤ _
    omega
def atC (gc : Nat) (w : World) : Int := match w.cell? ⟨gc, 1, none⟩ with | some (.int .i64 x) => x | _ => 0
theorem atC_blk {w : World} {gc : Nat} {t : TypeId} {v : Value} {x : Int} (h : Blk w gc t #[v, .int .i64 x]) : atC gc w = x := by
  unfold atC
  rw [h.cell 1]
  rfl
set_option maxRecDepth 100000 in
set_option maxHeartbeats 8000000 in
theorem pairs_seq (n : Nat) (hn : 1 ≤ n) (gc b1 b2 : Nat) (A : Option Addr) (m c : Nat) (l : List UInt8) (i0 : Int) (first : Bool) (hl : l.length = m) (hsz : m ≤ 2 ^ 47) (h0 : 0 ≤ i0) (h1 : i0 ≤ 8 * (l.length : Int)) (hne : gc ≠ b2) (C : List PEl → World → Prop)
    (hC1 : ∀ pre W v, C pre W → C pre (W.setCell ⟨gc, 1, none⟩ v)) (hC2 : ∀ pre W v, C pre W → C pre (W.setCell ⟨b2, 0, none⟩ v)) (hCb : ∀ pre W W', C pre W → Below W.heap.size W W' → C pre W')
    (hC0 : ∀ pre W, C pre W → ∀ x ∈ pre, x.2 = 0) (hCs : ∀ pre W, C pre W → Blk W b1 172 #[.pointer (some ⟨gc, 0, none⟩)] ∧ Sl W A (l.map byteV) ∧ Ts W) :
    SeqW Fence.wide n Tryz.prog 165 #[.pointer (some ⟨b1, 0, none⟩), .pointer (some ⟨b2, 0, none⟩)] (fun x : PEl => #[.agg #[.int .i64 x.1.1, .int .i64 x.1.2], .int .i64 x.2])
      (fun pre W => C pre W ∧ Blk W gc 174 #[.slice A m c, .int .i64 i0] ∧ Blk W b2 4 #[.bool first])
      (fun pre W => C pre W ∧ Blk W gc 174 #[.slice A m c, .int .i64 (posn l i0 first (pre.length + 1))] ∧ Blk W b2 4 #[.bool false])
      (fun pre W => C pre W ∧ Blk W gc 174 #[.slice A m c, .int .i64 (posn l i0 first pre.length)] ∧ Blk W b2 4 #[.bool false])
      (fun pre W => C pre W ∧ Blk W gc 174 #[.slice A m c, .int .i64 (posn l i0 first (pre.length + 1))] ∧ Blk W b2 4 #[.bool false])
      (fun xs => SpG l i0 first xs ∧ (gK l i0 first xs.length).2.1 = true) (SpG l i0 first) := by
  intro lp K Jx W hK hY h00 hk0
  refine callsIn_of_wp Tryz.func165 rfl trivial ?_ rfl
  simp only [Tryz.ntmps165, List.size_toArray, List.length_cons, List.length_nil, Nat.reduceAdd, Nat.reduceSub, Array.replicate_succ, Array.replicate_zero, List.push_toArray, List.append_toArray, List.nil_append, List.cons_append]
  have HY := Lib.hid hY; have HC1 := Lib.hid hC1; have HC2 := Lib.hid hC2; have HCb := Lib.hid hCb; have HCs := Lib.hid hCs; have HC0 := Lib.hid hC0; have HK := Lib.hid hK; have HL := Lib.hid hl
  have H0 := Lib.hid h00; have HK0 := Lib.hid hk0; have HPO := Lib.hid (posn_ok l i0 first h0 h1); have HNE := Lib.hid hne
  clear hY hC1 hC2 hCb hCs hC0 hK hl h00 hk0 h0 h1 hne
  gi_wp2_with fail
  gi_loopw [] (fun wr => ∃ (pre : List PEl), Hid (SpG l i0 first pre) ∧ Hid (C pre wr) ∧ Hid (Blk wr gc 174 #[.slice A m c, .int .i64 (posn l i0 first pre.length)]) ∧ Hid (Blk wr b2 4 #[.bool (flg first pre.length)]) ∧ Hid (K wr)) (fun wr => 8 * m - (atC gc wr).toNat)
  case atStart =>
    exact ⟨[], Lib.hid (fun k x h => by simp at h), Lib.hid H0.out.1, Lib.hid H0.out.2.1, Lib.hid (by have h := H0.out.2.2; unfold flg; simpa using h), HK0⟩
  case round =>
    obtain ⟨pre, HSP, HCr, HBc, HBf, HKr⟩ := hrel
    have x0 := HBc.out.cell 0
    have x1 := HBc.out.cell 1
    have x2 := HBf.out.cell 0
    obtain ⟨hb1, hA, hts⟩ := HCs.out _ _ HCr.out
    have x3 := hb1.cell 0
    have G := Lib.hid (fun W h1 h2 => coeff_Get A m c l (posn l i0 first pre.length) (flg first pre.length) W h1 HL.out hsz h2)
    have hok := cget_ok l (posn l i0 first pre.length) (flg first pre.length) (HPO.out _).1 (HPO.out _).2
    have hps : posn l i0 first (pre.length + 1) = posn l i0 first pre.length + (cgetP l (posn l i0 first pre.length) (flg first pre.length)).2.2.1 := rfl
    have hgk : gK l i0 first pre.length = cgetP l (posn l i0 first pre.length) (flg first pre.length) := rfl
    obtain ⟨⟨⟨p1, p2⟩, en, nb, er⟩, hr⟩ : ∃ r, cgetP l (posn l i0 first pre.length) (flg first pre.length) = r := ⟨_, rfl⟩
    have hp0 := (HPO.out pre.length)
    have hp1 := (HPO.out (pre.length + 1))
    rw [hr] at G hok hps hgk
    unfold cgV at G
    dsimp only at G hps
    rw [hps] at hp1
    obtain ⟨pk, hpk⟩ : ∃ pk, posn l i0 first pre.length = pk := ⟨_, rfl⟩
    obtain ⟨fk, hfk⟩ : ∃ fk, flg first pre.length = fk := ⟨_, rfl⟩
    have hlm : (l.length : Int) = (m : Int) := by rw [HL.out]
    rw [hpk] at G hp0 hp1 hps x1 HBc
    rw [hlm] at hp0 hp1
    rw [hfk] at G x2 HBf
    have hwr : IntKind.i64.wrap (pk + nb) = pk + nb := by rw [IntKind.wrap_i64]; omega
    have HPS := Lib.hid hps; have HGK := Lib.hid hgk; have HOK := Lib.hid hok
    have hb12 : b1 ≠ b2 := by
      rintro rfl
      have h := hb1.symm.trans HBf.out
      simp at h
    have hbg1 : b1 ≠ gc := by
      rintro rfl
      have h := hb1.symm.trans HBc.out
      simp at h
    have hne1 : gc ≠ b2 := HNE.out
    have hne2 : b2 ≠ gc := fun h => HNE.out h.symm
    have HS0 := Lib.hid (show CellsAt [(gc, 174, #[.slice A m c, .int .i64 pk]), (b2, 4, #[.bool fk]), (b1, 172, #[.pointer (some ⟨gc, 0, none⟩)])] wr.drew from CellsAt.cons HBc.out (CellsAt.cons HBf.out (CellsAt.cons hb1 (cellsAt_nil _))))
    have HA0 := Lib.hid (show Sl wr.drew A (l.map byteV) from hA); have HT0 := Lib.hid (show Ts wr.drew from hts)
    have hlt3 : gc < wr.heap.size ∧ b1 < wr.heap.size ∧ b2 < wr.heap.size := ⟨HBc.out.lt, hb1.lt, HBf.out.lt⟩
    have HLT := Lib.hid hlt3
    have hb21 : b2 ≠ b1 := fun h => hb12 h.symm
    have hgb1 : gc ≠ b1 := fun h => hbg1 h.symm
    clear hok hps hgk hr hpk hfk hlm hb1 hA hts hlt3
    gi_wp2_with fail
    refine wpIn_wide.2 ?_
    refine wp_region_treeN (fun w' => CellsAt [(gc, 174, #[.slice A m c, .int .i64 pk]), (b2, 4, #[.bool fk]), (b1, 172, #[.pointer (some ⟨gc, 0, none⟩)])] w') 19 (.take 0 (.take 1 (.take 2 (.take 3 (.take 4 (.take 5 (.take 6 (.take 7 (.take 8 (.fork 9 (.take 10 (.take 11 (.take 12 (.take 13 (.take 14 (.step 15 (.step 16 (.step 17 (.step 18 (.done)))))))))) 15 (.step 9 (.take 10 (.take 11 (.take 12 (.take 13 (.take 14 (.step 16 (.step 17 (.step 18 (.done)))))))))))))))))))) (by kernel_rfl) (by kernel_rfl) (by simp only [Pln.out, Array.getD_eq_getD_getElem?, List.getElem?_toArray, List.getElem?_cons_zero, List.getElem?_cons_succ, Option.getD_some]; rfl) (by simp only [List.map_cons, List.map_nil]; rfl) (HS0.out) (fun PE hPE => ?_)
    refine tree_take (v := ?_) rfl (by rfl) ?_ ?_
    rotate_left
    · intro _ hSw; (try dsimp only at hSw); have z0 := hSw.head.cell 0; have z1 := hSw.head.cell 1; have z2 := hSw.tail.head.cell 0; have z3 := hSw.tail.tail.head.cell 0; dsimp only at z0 z1 z2 z3; go_simp; (try with_reducible rfl)
    simp only [List.setIfInBounds_toArray, List.set_cons_zero, List.set_cons_succ]
    refine tree_take (v := ?_) rfl (by rfl) ?_ ?_
    rotate_left
    · intro _ hSw; (try dsimp only at hSw); have z0 := hSw.head.cell 0; have z1 := hSw.head.cell 1; have z2 := hSw.tail.head.cell 0; have z3 := hSw.tail.tail.head.cell 0; dsimp only at z0 z1 z2 z3; go_simp; (try with_reducible rfl)
    simp only [List.setIfInBounds_toArray, List.set_cons_zero, List.set_cons_succ]
    refine tree_take (v := ?_) rfl (by rfl) ?_ ?_
    rotate_left
    · intro _ hSw; (try dsimp only at hSw); have z0 := hSw.head.cell 0; have z1 := hSw.head.cell 1; have z2 := hSw.tail.head.cell 0; have z3 := hSw.tail.tail.head.cell 0; dsimp only at z0 z1 z2 z3; go_simp; (try with_reducible rfl)
    simp only [List.setIfInBounds_toArray, List.set_cons_zero, List.set_cons_succ]
    refine tree_take (v := ?_) rfl (by rfl) ?_ ?_
    rotate_left
    · intro _ hSw; (try dsimp only at hSw); have z0 := hSw.head.cell 0; have z1 := hSw.head.cell 1; have z2 := hSw.tail.head.cell 0; have z3 := hSw.tail.tail.head.cell 0; dsimp only at z0 z1 z2 z3; go_simp; (try with_reducible rfl)
    simp only [List.setIfInBounds_toArray, List.set_cons_zero, List.set_cons_succ]
    refine tree_take (v := ?_) rfl (by rfl) ?_ ?_
    rotate_left
    · intro _ hSw; (try dsimp only at hSw); have z0 := hSw.head.cell 0; have z1 := hSw.head.cell 1; have z2 := hSw.tail.head.cell 0; have z3 := hSw.tail.tail.head.cell 0; dsimp only at z0 z1 z2 z3; go_simp; (try with_reducible rfl)
    simp only [List.setIfInBounds_toArray, List.set_cons_zero, List.set_cons_succ]
    refine tree_take (v := ?_) rfl (by rfl) ?_ ?_
    rotate_left
    · intro _ hSw; (try dsimp only at hSw); have z0 := hSw.head.cell 0; have z1 := hSw.head.cell 1; have z2 := hSw.tail.head.cell 0; have z3 := hSw.tail.tail.head.cell 0; dsimp only at z0 z1 z2 z3; go_simp; (try with_reducible rfl)
    simp only [List.setIfInBounds_toArray, List.set_cons_zero, List.set_cons_succ]
    refine tree_take (v := ?_) rfl (by rfl) ?_ ?_
    rotate_left
    · intro _ hSw; (try dsimp only at hSw); have z0 := hSw.head.cell 0; have z1 := hSw.head.cell 1; have z2 := hSw.tail.head.cell 0; have z3 := hSw.tail.tail.head.cell 0; dsimp only at z0 z1 z2 z3; go_simp; (try with_reducible rfl)
    simp only [List.setIfInBounds_toArray, List.set_cons_zero, List.set_cons_succ]
    refine tree_take (v := ?_) rfl (by rfl) ?_ ?_
    rotate_left
    · intro _ hSw; (try dsimp only at hSw); have z0 := hSw.head.cell 0; have z1 := hSw.head.cell 1; have z2 := hSw.tail.head.cell 0; have z3 := hSw.tail.tail.head.cell 0; dsimp only at z0 z1 z2 z3; go_simp; (try with_reducible rfl)
    simp only [List.setIfInBounds_toArray, List.set_cons_zero, List.set_cons_succ]
    refine tree_take (v := ?_) rfl (by rfl) ?_ ?_
    rotate_left
    · intro _ hSw; (try dsimp only at hSw); have z0 := hSw.head.cell 0; have z1 := hSw.head.cell 1; have z2 := hSw.tail.head.cell 0; have z3 := hSw.tail.tail.head.cell 0; dsimp only at z0 z1 z2 z3; go_simp; (try with_reducible rfl)
    simp only [List.setIfInBounds_toArray, List.set_cons_zero, List.set_cons_succ]
    refine ⟨?_, ?_⟩
    · refine tree_call (f := 166) rfl (by rfl) (by first | (go_simp; done) | (go_simp; rfl)) (G.out _ HA0.out HT0.out) ?_
      rintro e w2 ⟨rfl, hb2⟩
      have hS2 := HS0.out.below hb2
      refine ⟨_, rfl, _, fun _ h => h, hS2, ?_⟩
      simp only [List.setIfInBounds_toArray, List.set_cons_zero, List.set_cons_succ]
      refine tree_take (v := ?_) rfl (by rfl) ?_ ?_
      rotate_left
      · intro _ hSw; (try dsimp only at hSw); go_simp; (try with_reducible rfl)
      simp only [List.setIfInBounds_toArray, List.set_cons_zero, List.set_cons_succ]
      refine tree_take (v := ?_) rfl (by rfl) ?_ ?_
      rotate_left
      · intro _ hSw; (try dsimp only at hSw); go_simp; (try with_reducible rfl)
      simp only [List.setIfInBounds_toArray, List.set_cons_zero, List.set_cons_succ]
      refine tree_take (v := ?_) rfl (by rfl) ?_ ?_
      rotate_left
      · intro _ hSw; (try dsimp only at hSw); go_simp; (try with_reducible rfl)
      simp only [List.setIfInBounds_toArray, List.set_cons_zero, List.set_cons_succ]
      refine tree_take (v := ?_) rfl (by rfl) ?_ ?_
      rotate_left
      · intro _ hSw; (try dsimp only at hSw); go_simp; (try with_reducible rfl)
      simp only [List.setIfInBounds_toArray, List.set_cons_zero, List.set_cons_succ]
      refine tree_take (v := ?_) rfl (by rfl) ?_ ?_
      rotate_left
      · intro _ hSw; (try dsimp only at hSw); go_simp; (try with_reducible rfl)
      simp only [List.setIfInBounds_toArray, List.set_cons_zero, List.set_cons_succ]
      obtain ⟨g, hg⟩ : ∃ g, w2.heap.size = g := ⟨_, rfl⟩
      have hgl : wr.heap.size ≤ g := by have := hb2.size; simp at this; omega
      obtain ⟨hl1, hl2, hl3⟩ := HLT.out
      have hggc : g ≠ gc := by omega
      have hgb2 : g ≠ b2 := by omega
      have hggc' : gc ≠ g := by omega
      have hgb2' : b2 ≠ g := by omega
      refine tree_value (v := ?_) (w' := ?_) rfl (by rfl) ?_ ?_ ?_
      rotate_left 2
      · go_simp; (try (constructor <;> with_reducible rfl))
      · exact hS2.alloc _
      simp only [List.setIfInBounds_toArray, List.set_cons_zero, List.set_cons_succ]
      have hS3 := hS2.alloc (.cells #[.int .i64 p1, .int .i64 p2] 109)
      have hg5 : Blk (w2.alloc (.cells #[.int .i64 p1, .int .i64 p2] 109)) g 109 #[.int .i64 p1, .int .i64 p2] := blkAt (Blk.new _ _ _) hg
      have hb5 : Below wr.heap.size wr (w2.alloc (.cells #[.int .i64 p1, .int .i64 p2] 109)) := (((Below.refl _ wr).drew).trans (hb2.mono (by simp))).alloc (by have := hb2.size; simpa using this) _
      refine tree_skip _ (w' := ?_) rfl (by rfl) ?_ ?_ ?_
      rotate_left 1
      · go_simp; (first | (with_reducible rfl) | (constructor <;> with_reducible rfl) | skip)
      · exact hS3
      refine tree_value (v := ?_) (w' := ?_) rfl (by rfl) ?_ ?_ ?_
      rotate_left 2
      · go_simp; (try (constructor <;> with_reducible rfl))
      · exact hS3
      simp only [List.setIfInBounds_toArray, List.set_cons_zero, List.set_cons_succ]
      refine tree_value (v := ?_) (w' := ?_) rfl (by rfl) ?_ ?_ ?_
      rotate_left 2
      · go_simp; (try (constructor <;> with_reducible rfl))
      · exact hS3
      simp only [List.setIfInBounds_toArray, List.set_cons_zero, List.set_cons_succ]
      have hs5 := hS3
      refine hPE _ _ ?_
      clear hPE PE
      simp only [List.drop_succ_cons, List.drop_zero, List.drop_nil]
      go_wp2_with fail
      refine ⟨rfl, ?_⟩
      generalize w2.alloc (.cells #[.int .i64 p1, .int .i64 p2] 109) = w5 at hs5 hg5 hb5 ⊢
      clear x0 x1 x2 x3 hS2 hS3 hb2 hl1 hl2 hl3 hg
      have HS5 := Lib.hid hs5; have HG5 := Lib.hid hg5; have HB5 := Lib.hid hb5
      clear hs5 hg5 hb5
      have HC5 := Lib.hid (HCb.out _ _ _ HCr.out HB5.out)
      have HK5 := Lib.hid (HK.out.below HKr.out HB5.out)
      have z0 := HS5.out.head.cell 0; have z1 := HS5.out.head.cell 1; have z2 := HS5.out.tail.head.cell 0; have z3 := HS5.out.tail.tail.head.cell 0; have z4 := HG5.out.cell 0; have z5 := HG5.out.cell 1
      have f1 := HS5.out.head.frozen 1; have f2 := HS5.out.tail.head.frozen 0
      have HP1 := Lib.hid ((HG5.out.far (p := ⟨b2, 0, none⟩) hgb2 (.bool false)).far (p := ⟨gc, 1, none⟩) hggc (.int .i64 (pk + nb)))
      have HCU := Lib.hid ((HS5.out.head.far (p := ⟨b2, 0, none⟩) hne1 (.bool false)).set_ 1 (.int .i64 (pk + nb)))
      have HFL := Lib.hid ((HS5.out.tail.head.set_ 0 (.bool false)).far (p := ⟨gc, 1, none⟩) hne2 (.int .i64 (pk + nb)))
      have HC6 := Lib.hid (HC1.out _ _ (.int .i64 (pk + nb)) (HC2.out _ _ (.bool false) HC5.out))
      have HK6 := Lib.hid (HK.out.set (HK.out.set HK5.out HS5.out.tail.head (v := .bool false) (p := ⟨b2, 0, none⟩)) (HS5.out.head.far (p := ⟨b2, 0, none⟩) hne1 (.bool false)) (v := .int .i64 (pk + nb)) (p := ⟨gc, 1, none⟩))
      have z6 := HP1.out.cell 0; have z7 := HP1.out.cell 1
      dsimp only at z0 z1 z2 z3 z4 z5 z6 z7 f1 f2
      cases en with
      | true =>
        gi_wp2_with fail
        refine ⟨fun _ h => (by cases h), ?_⟩
        gi_wp2_with fail
        refine bodyPost_ret (results_none rfl _ _ _) rfl ?_
        exact ⟨⟨_, rfl⟩, .inl ⟨pre, ⟨HSP.out, by rw [HGK.out]⟩, ⟨HC6.out, by rw [HPS.out]; exact HCU.out, HFL.out⟩, HK6.out⟩⟩
      | false =>
        have hsp := HSP.out.snoc (by rw [HGK.out])
        rw [HGK.out] at hsp
        dsimp only at hsp
        obtain ⟨fn, tmps, assign, body, hyy, hR⟩ := HY.out pre _ _ ⟨HC6.out, by rw [HPS.out]; exact HCU.out, HFL.out⟩ HK6.out hsp
        have HR := Lib.hid hR; have HSP2 := Lib.hid hsp
        dsimp only at hyy
        clear hR hsp
        gi_wp2_with fail
        refine HR.out.mono ?_
        rintro e W3 (⟨rfl, hI3, hk3⟩ | ⟨rfl, hJx3⟩)
        · have her : er = 0 := HC0.out _ _ hI3.1 ((p1, p2), er) (by simp)
          subst her
          have hI4 := hI3.2.1
          rw [List.length_append] at hI4
          have hI4 : Blk W3 gc 174 #[.slice A m c, .int .i64 (posn l i0 first (pre.length + 1))] := hI4
          rw [HPS.out] at hI4
          have HI4 := Lib.hid hI4; have HI3 := Lib.hid hI3; have HK3 := Lib.hid hk3
          clear hI4 hI3 hk3 hyy
          gi_wp2_with fail
          refine ⟨⟨pre ++ [((p1, p2), 0)], HSP2, Lib.hid HI3.out.1, Lib.hid HI3.out.2.1, Lib.hid ?_, HK3⟩, ?_⟩
          · have h := HI3.out.2.2
            have e : flg first (pre ++ [((p1, p2), (0 : Int))]).length = false := by unfold flg; simp
            rw [e]; exact h
          · have h9 := atC_blk HI4.out; have h10 := atC_blk HBc.out
            have h11 := HOK.out
            unfold okR at h11
            have h12 := h11.2.2.1 rfl
            dsimp only at h12
            rw [h9, h10]
            omega
        · gi_wp2_with fail
          refine bodyPost_ret (results_none rfl _ _ _) rfl ?_
          exact ⟨⟨_, rfl⟩, .inr ⟨_, HSP2.out, hJx3⟩⟩
    · obtain ⟨g, hg⟩ : ∃ g, wr.heap.size = g := ⟨_, rfl⟩
      obtain ⟨hl1, hl2, hl3⟩ := HLT.out
      have hggc : g ≠ gc := by omega
      have hgb2 : g ≠ b2 := by omega
      have hggc' : gc ≠ g := by omega
      have hgb2' : b2 ≠ g := by omega
      refine tree_value (v := ?_) (w' := ?_) rfl (by rfl) ?_ ?_ ?_
      rotate_left 2
      · go_simp; (try (constructor <;> with_reducible rfl))
      · exact HS0.out.alloc _
      simp only [List.setIfInBounds_toArray, List.set_cons_zero, List.set_cons_succ]
      have hd : (World.drew wr).heap.size = g := hg
      have hP0 : Blk ((World.drew wr).alloc (.cells #[.int .i64 0, .int .i64 0] 109)) g 109 #[.int .i64 0, .int .i64 0] := blkAt (Blk.new _ _ _) hd
      have hBa : Below (World.drew wr).heap.size (World.drew wr) ((World.drew wr).alloc (.cells #[.int .i64 0, .int .i64 0] 109)) := (Below.refl _ _).alloc (Nat.le_refl _) _
      refine tree_call (f := 166) rfl (by rfl) (by first | (go_simp; done) | (go_simp; rfl)) (G.out _ (HA0.out.below hBa) (HT0.out.below hBa)) ?_
      rintro e w2 ⟨rfl, hb2⟩
      have hS2 := (HS0.out.alloc (.cells #[.int .i64 0, .int .i64 0] 109)).below hb2
      have hP2 := hP0.below hb2 hP0.lt
      refine ⟨_, rfl, _, fun _ h => h, hS2, ?_⟩
      simp only [List.setIfInBounds_toArray, List.set_cons_zero, List.set_cons_succ]
      refine tree_take (v := ?_) rfl (by rfl) ?_ ?_
      rotate_left
      · intro _ hSw; (try dsimp only at hSw); go_simp; (try with_reducible rfl)
      simp only [List.setIfInBounds_toArray, List.set_cons_zero, List.set_cons_succ]
      refine tree_take (v := ?_) rfl (by rfl) ?_ ?_
      rotate_left
      · intro _ hSw; (try dsimp only at hSw); go_simp; (try with_reducible rfl)
      simp only [List.setIfInBounds_toArray, List.set_cons_zero, List.set_cons_succ]
      refine tree_take (v := ?_) rfl (by rfl) ?_ ?_
      rotate_left
      · intro _ hSw; (try dsimp only at hSw); go_simp; (try with_reducible rfl)
      simp only [List.setIfInBounds_toArray, List.set_cons_zero, List.set_cons_succ]
      refine tree_take (v := ?_) rfl (by rfl) ?_ ?_
      rotate_left
      · intro _ hSw; (try dsimp only at hSw); go_simp; (try with_reducible rfl)
      simp only [List.setIfInBounds_toArray, List.set_cons_zero, List.set_cons_succ]
      refine tree_take (v := ?_) rfl (by rfl) ?_ ?_
      rotate_left
      · intro _ hSw; (try dsimp only at hSw); go_simp; (try with_reducible rfl)
      simp only [List.setIfInBounds_toArray, List.set_cons_zero, List.set_cons_succ]
      have hS3 := CellsAt.far (CellsAt.far hS2 (p := ⟨g, 0, none⟩) (fun q hq => by simp only [List.mem_cons, List.mem_nil_iff, or_false] at hq; rcases hq with rfl | rfl | rfl <;> simp <;> omega) (.int .i64 p1)) (p := ⟨g, 1, none⟩) (fun q hq => by simp only [List.mem_cons, List.mem_nil_iff, or_false] at hq; rcases hq with rfl | rfl | rfl <;> simp <;> omega) (.int .i64 p2)
      have hg5 := (hP2.set_ 0 (.int .i64 p1)).set_ 1 (.int .i64 p2)
      have hb5 : Below wr.heap.size wr ((w2.setCell ⟨g, 0, none⟩ (.int .i64 p1)).setCell ⟨g, 1, none⟩ (.int .i64 p2)) := ((((((Below.refl _ wr).drew).alloc (by simp) _).trans (hb2.mono (by simp))).setCell (p := ⟨g, 0, none⟩) (by show _ ≤ g; omega) _).setCell (p := ⟨g, 1, none⟩) (by show _ ≤ g; omega) _)
      have q0 := hP2.cell 0; have q1 := hP2.cell 1; have k0 := hP2.frozen 0; have k1 := hP2.frozen 1
      refine tree_skip _ (w' := ?_) rfl (by rfl) ?_ ?_ ?_
      rotate_left 1
      · go_simp; (first | (with_reducible rfl) | (constructor <;> with_reducible rfl) | skip)
      · exact hS3
      refine tree_value (v := ?_) (w' := ?_) rfl (by rfl) ?_ ?_ ?_
      rotate_left 2
      · go_simp; (try (constructor <;> with_reducible rfl))
      · exact hS3
      simp only [List.setIfInBounds_toArray, List.set_cons_zero, List.set_cons_succ]
      refine tree_value (v := ?_) (w' := ?_) rfl (by rfl) ?_ ?_ ?_
      rotate_left 2
      · go_simp; (try (constructor <;> with_reducible rfl))
      · exact hS3
      simp only [List.setIfInBounds_toArray, List.set_cons_zero, List.set_cons_succ]
      have hs5 := hS3
      refine hPE _ _ ?_
      clear hPE PE
      simp only [List.drop_succ_cons, List.drop_zero, List.drop_nil]
      go_wp2_with fail
      refine ⟨rfl, ?_⟩
      generalize (w2.setCell ⟨g, 0, none⟩ (.int .i64 p1)).setCell ⟨g, 1, none⟩ (.int .i64 p2) = w5 at hs5 hg5 hb5 ⊢
      clear x0 x1 x2 x3 hS2 hS3 hb2 hl1 hl2 hl3 hg
      have HS5 := Lib.hid hs5; have HG5 := Lib.hid hg5; have HB5 := Lib.hid hb5
      clear hs5 hg5 hb5
      have HC5 := Lib.hid (HCb.out _ _ _ HCr.out HB5.out)
      have HK5 := Lib.hid (HK.out.below HKr.out HB5.out)
      have z0 := HS5.out.head.cell 0; have z1 := HS5.out.head.cell 1; have z2 := HS5.out.tail.head.cell 0; have z3 := HS5.out.tail.tail.head.cell 0; have z4 := HG5.out.cell 0; have z5 := HG5.out.cell 1
      have f1 := HS5.out.head.frozen 1; have f2 := HS5.out.tail.head.frozen 0
      have HP1 := Lib.hid ((HG5.out.far (p := ⟨b2, 0, none⟩) hgb2 (.bool false)).far (p := ⟨gc, 1, none⟩) hggc (.int .i64 (pk + nb)))
      have HCU := Lib.hid ((HS5.out.head.far (p := ⟨b2, 0, none⟩) hne1 (.bool false)).set_ 1 (.int .i64 (pk + nb)))
      have HFL := Lib.hid ((HS5.out.tail.head.set_ 0 (.bool false)).far (p := ⟨gc, 1, none⟩) hne2 (.int .i64 (pk + nb)))
      have HC6 := Lib.hid (HC1.out _ _ (.int .i64 (pk + nb)) (HC2.out _ _ (.bool false) HC5.out))
      have HK6 := Lib.hid (HK.out.set (HK.out.set HK5.out HS5.out.tail.head (v := .bool false) (p := ⟨b2, 0, none⟩)) (HS5.out.head.far (p := ⟨b2, 0, none⟩) hne1 (.bool false)) (v := .int .i64 (pk + nb)) (p := ⟨gc, 1, none⟩))
      have z6 := HP1.out.cell 0; have z7 := HP1.out.cell 1
      dsimp only at z0 z1 z2 z3 z4 z5 z6 z7 f1 f2
      cases en with
      | true =>
        gi_wp2_with fail
        refine ⟨fun _ h => (by cases h), ?_⟩
        gi_wp2_with fail
        refine bodyPost_ret (results_none rfl _ _ _) rfl ?_
        exact ⟨⟨_, rfl⟩, .inl ⟨pre, ⟨HSP.out, by rw [HGK.out]⟩, ⟨HC6.out, by rw [HPS.out]; exact HCU.out, HFL.out⟩, HK6.out⟩⟩
      | false =>
        have hsp := HSP.out.snoc (by rw [HGK.out])
        rw [HGK.out] at hsp
        dsimp only at hsp
        obtain ⟨fn, tmps, assign, body, hyy, hR⟩ := HY.out pre _ _ ⟨HC6.out, by rw [HPS.out]; exact HCU.out, HFL.out⟩ HK6.out hsp
        have HR := Lib.hid hR; have HSP2 := Lib.hid hsp
        dsimp only at hyy
        clear hR hsp
        gi_wp2_with fail
        refine HR.out.mono ?_
        rintro e W3 (⟨rfl, hI3, hk3⟩ | ⟨rfl, hJx3⟩)
        · have her : er = 0 := HC0.out _ _ hI3.1 ((p1, p2), er) (by simp)
          subst her
          have hI4 := hI3.2.1
          rw [List.length_append] at hI4
          have hI4 : Blk W3 gc 174 #[.slice A m c, .int .i64 (posn l i0 first (pre.length + 1))] := hI4
          rw [HPS.out] at hI4
          have HI4 := Lib.hid hI4; have HI3 := Lib.hid hI3; have HK3 := Lib.hid hk3
          clear hI4 hI3 hk3 hyy
          gi_wp2_with fail
          refine ⟨⟨pre ++ [((p1, p2), 0)], HSP2, Lib.hid HI3.out.1, Lib.hid HI3.out.2.1, Lib.hid ?_, HK3⟩, ?_⟩
          · have h := HI3.out.2.2
            have e : flg first (pre ++ [((p1, p2), (0 : Int))]).length = false := by unfold flg; simp
            rw [e]; exact h
          · have h9 := atC_blk HI4.out; have h10 := atC_blk HBc.out
            have h11 := HOK.out
            unfold okR at h11
            have h12 := h11.2.2.1 rfl
            dsimp only at h12
            rw [h9, h10]
            omega
        · gi_wp2_with fail
          refine bodyPost_ret (results_none rfl _ _ _) rfl ?_
          exact ⟨⟨_, rfl⟩, .inr ⟨_, HSP2.out, hJx3⟩⟩
end Go.Proofs.YtcojnigkgbmbmaaGreatDoor
