/- AddressBack. -/
import Derived.Test.YtedjplbiibflmaaDoorPlainBack
import Derived.Test.YtedjplbiibflmaaDoorKnown04
namespace Go.Proofs.YtedjplbiibflmaaDoor
open Go Go.RowKit
theorem wpList_run_w {P : Program} {ops : Array Oper} {Q : Exit → Act → World → Prop} {rest : List Oper} {o : Oper} {a : Act} {w w' : World} {v : Value} (hgd : Region.wanted o (yielded ops a.tmps) = true)
    (hrun : (execOp a.eval o).run P w = .ok (.value v) w') (h : wpList P ops Q rest (a.put o.dst v) w') : wpList P ops Q (o :: rest) a w := by
  unfold wpList
  rw [if_pos hgd]
  left
  unfold Oper.wp
  rw [hrun]
  exact h
theorem wpList_app_w {P : Program} {ops : Array Oper} {Q : Exit → Act → World → Prop} {rest : List Oper} {o : Oper} {a : Act} {w : World} {t e size bytes : Nat} (et : ElemT P t e size bytes) (hgd : Region.wanted o (yielded ops a.tmps) = true) {s x : Operand}
    (ho : o.op = .call { callee := .builtin .append, args := #[s, x], argTypes := #[t, t] }) {base n m c : Nat} {v : Value} {xs news : List Value} {A : Option Addr} (hs : a.eval s = v) (hown : w.ownsRow base e size v n xs)
    (hx : a.eval x = .slice A m c) (hl : news.length = m * size) (hS : Sl w A news) (h1 : ∀ u ∈ news, u.oneCell' = true) (hb : (n + m) * bytes ≤ 140737488355328) (hbase : base ≤ w.heap.size)
    (h : ∀ v' w', w'.ownsRow base e size v' (n + m) (xs ++ news) → w.grownBy w' v.ownBlock → (v'.ownBlock = v.ownBlock ∨ v'.ownBlock = some w.heap.size) → wpList P ops Q rest (a.put o.dst v') w') : wpList P ops Q (o :: rest) a w := by
  obtain ⟨v', w', hrun, h2, h3, h4⟩ := run_app et o.type (c := c) hown hl hS h1 hb hbase
  refine wpList_run_w hgd (v := v') (w' := w') ?_ (h v' w' h2 h3 h4)
  unfold execOp
  simp only [ho, resolve, invoke, builtin, Sem.run_bind, Sem.run_pure, Result.andThen_ok, List.map_toArray, List.map_cons, List.map_nil, hs, hx, hrun]
def BytesPost (c : List UInt8) (q : Nat) (w : World) (e : Ending) (w' : World) : Prop := ∃ A B, e = .returned (.slice A q q) ∧ Sl w' A (B.map byteV) ∧ B.length = q ∧ CodeAt c B 0 ∧ Below w.heap.size w w'
theorem bl_succ (c : List UInt8) (j : Nat) (h : j < c.length) : ((bl c).take (j + 1)).map intV = ((bl c).take j).map intV ++ [intV ((c[j].toNat : Int) - 48)] := by
  have h2 : j < (bl c).length := by simpa [bl] using h
  rw [List.take_succ_eq_append_getElem h2, List.map_append]
  simp [bl]
set_option maxRecDepth 100000 in
set_option maxHeartbeats 2000000 in
theorem law04_bytes (c : List UInt8) (A : Option Addr) (n cp : Nat) (l : List Int) (w : World) (hc : c.all (fun b => b == 48 || b == 49) = true) (hcl : c.length ≤ 11) (hA : Sl w A (l.map intV)) (hn : l.length = n) (hsz : n ≤ 60) :
    Calls Tryd.prog 24 #[.string (bs c), .slice A n cp] w (BytesPost c ((c.length + n + 7) / 8) w) := by
  obtain ⟨q, hq⟩ : ∃ q, q = (c.length + n + 7) / 8 := ⟨_, rfl⟩
  rw [← hq]
  have HA := Lib.hid hA; have Hc := Lib.hid hc; have Hn := Lib.hid hn; have Hq := Lib.hid hq; clear hA hc hn hq
  have Kb := Lib.hid (fun (A' : Option Addr) (m cp' : Nat) (W : World) (h : Sl W A' ((bl c ++ l).map intV)) (hm : (bl c ++ l).length = m) (h1 : m ≤ 100000) => kit_Bits A' m cp' (bl c ++ l) W h hm h1)
  have Hlen := Lib.hid (show (bl c ++ l).length = c.length + n by simp [bl, Hn.out])
  go_enter Tryd.func24, Tryd.ntmps24
  go_wp2_with fail
  go_loopg [5, 6] c.length (fun g v i => fun wr => ∃ (j : Nat), j + g = c.length ∧ i = .int .i64 (j : Int) ∧ wr.ownsRow w.heap.size 3 1 v j (((bl c).take j).map intV) ∧ Below w.heap.size w wr)
  case atStart => exact ⟨0, by omega, rfl, World.ownsRow_nil _ _ _ _, Below.refl _ _⟩
  case round =>
    obtain ⟨j, hj, rfl, ho, hb⟩ := hrel
    cases gk with
    | zero =>
      obtain rfl : j = c.length := by omega
      have hlt : ¬ ((c.length : Int) < (c.length : Int)) := by omega
      have Ho := Lib.hid ho; clear ho
      have hbs := hb.size
      have HA1 := Lib.hid (HA.out.below hb)
      go_wp2_with (at_builtin; refine wpList_app etInt rfl rfl rfl Ho.out rfl (m := n) (news := l.map intV) (by rw [List.length_map, Nat.mul_one]; exact Hn.out) HA1.out (by intro u hu; obtain ⟨x, _, rfl⟩ := List.mem_map.1 hu; rfl) (by omega) (by omega) ?_; intro v1 w1 ho1 hg1 _; obtain ⟨A1, c1, rfl, hS1⟩ := own_sl ho1; have hS1 := Lib.hid hS1; clear ho1; have Hg1 := Lib.hid hg1; clear hg1)
      refine (Kb.out A1 (c.length + n) c1 _ (by have := hS1.out; rw [List.take_of_length_le (by simp [bl])] at this; rw [List.map_append]; exact this) Hlen.out (by omega)).mono ?_
      rintro e w2 ⟨A2, B, rfl, h2, h3, h4, h5⟩
      rw [Hlen.out, ← Hq.out] at h3
      have hB := below_app hb Ho.out Hg1.out (by omega) (Nat.le_refl _)
      have HF := Lib.hid (show CodeAt c B 0 from bitsAre_code c l B Hc.out h4 (by have := Hq.out; omega))
      rw [Hlen.out, ← Hq.out]
      have H2 := Lib.hid h2; have H3 := Lib.hid h3; have H5 := Lib.hid (hB.trans (h5.mono hB.size)); clear h2 h3 h4 h5 hB
      go_wp2_with fail
      go_ret
      exact ⟨A2, B, rfl, H2.out, H3.out, HF.out, H5.out⟩
    | succ g =>
      have hlt : ((j : Int) < (c.length : Int)) := by omega
      have hjl : j < c.length := by omega
      have hm := List.all_eq_true.1 Hc.out c[j] (List.getElem_mem hjl)
      simp only [Bool.or_eq_true, beq_iff_eq] at hm
      have hlo : 48 ≤ c[j].toNat ∧ c[j].toNat ≤ 49 := by rcases hm with hm | hm <;> rw [hm] <;> decide
      have Hs := Lib.hid (bl_succ c j hjl)
      have Ho := Lib.hid ho; clear ho hm
      have hbs := hb.size
      obtain ⟨x, hx⟩ : ∃ x : Nat, x = c[j].toNat := ⟨_, rfl⟩
      go_wp2_with (at_builtin; refine wpList_app etInt rfl rfl rfl (Ho.out.alloc _) rfl (m := 1) (news := [intV ((c[j].toNat : Int) - 48)]) rfl (Blk.sl (Blk.new wr 3 #[intV ((c[j].toNat : Int) - 48)]) 0) (by intro u hu; simp [intV] at hu; subst hu; rfl) (by omega) (by simp; omega) ?_; intro v1 w1 ho1 hg1 _; have Ho1 := Lib.hid ho1; clear ho1; have Hg1 := Lib.hid hg1; clear hg1)
      go_roundg g
      case measure => omega
      case rel =>
        refine ⟨j + 1, by omega, rfl, ?_, below_app (hb.alloc hb.size _) (Ho.out.alloc _) Hg1.out (by have := hb.size; simp; omega) (Nat.le_refl _)⟩
        rw [Hs.out]; exact Ho1.out
set_option maxRecDepth 100000 in
set_option maxHeartbeats 4000000 in
theorem law04_AddressBack (a : Int) (A : Option Addr) (n c : Nat) (l : List Int) (w : World) (hT : Tz w) (hA : Sl w A (l.map intV)) (hn : l.length = n) : Calls Tryd.prog 7 #[.int .i64 a, .slice A n c] w fun e w' => e = .returned (.bool true) ∧ Below w.heap.size w w' := by
  have HT := Lib.hid hT; clear hT
  have HA := Lib.hid hA; clear hA
  obtain ⟨d, hd⟩ : ∃ d : Nat, a % 34 = (d : Int) := ⟨(a % 34).toNat, by omega⟩
  have hd2 : d < 34 := by omega
  have Pa := Lib.hid (fun W => kit_Pick a 34 W (by decide) (by decide))
  rw [hd] at Pa
  clear hd
  by_cases h60 : 60 < n
  · have e1 : decide (60 < (n : Int)) = true := by simp; omega
    go_enter Tryd.func7, Tryd.ntmps7
    go_wp2_with fail
    refine (law04_AddressKnown w HT.out).mono ?_
    rintro e w1 ⟨rfl, hb⟩
    go_wp2_with fail
    refine (Pa.out _).mono ?_
    rintro e w' ⟨rfl, rfl⟩
    go_wp2_with fail
    go_ret
    exact ⟨rfl, hb⟩
  · have e1 : decide (60 < (n : Int)) = false := by simp; omega
    have Hn := Lib.hid hn; clear hn
    have Ua := Lib.hid (fun W (h : Tz W) => address_Put d W h (by omega))
    rw [putR_of d hd2] at Ua
    have Ca := Lib.hid (law04_code _ (codes_ok d hd2))
    obtain ⟨h11, h1, _, hc⟩ := codes_some d hd2
    have Ga := Lib.hid (getR_of d hd2)
    have Gc := Lib.hid (getR_cut d hd2)
    generalize codesL.getD d [] = cd at Ua Ca h11 h1 hc Ga Gc
    have By := Lib.hid (fun (A' : Option Addr) (m cp : Nat) (l' : List Int) (W : World) (h : Sl W A' (l'.map intV)) (hm : l'.length = m) (h6 : m ≤ 60) => law04_bytes cd A' m cp l' W hc h11 h hm h6)
    clear hc
    obtain ⟨q1, hq1⟩ : ∃ q, q = (cd.length + n + 7) / 8 := ⟨_, rfl⟩
    obtain ⟨q2, hq2⟩ : ∃ q, q = (cd.length + 0 + 7) / 8 := ⟨_, rfl⟩
    have By1 := Lib.hid (fun (W : World) (h : Below w.heap.size w W) => By.out A n c l W (HA.out.below h) Hn.out (by omega))
    have By2 := Lib.hid (fun (W : World) => By.out none 0 0 [] W (Sl.nil W none) rfl (by decide))
    rw [← hq1] at By1
    rw [← hq2] at By2
    have hl1 : cd.length ≤ 8 * q1 := by omega
    have hl2 : cd.length ≤ 8 * q2 := by omega
    have hs1 : q1 ≤ 1000 := by omega
    have hs2 : q2 ≤ 1000 := by omega
    clear hq1 hq2 By
    obtain ⟨z, hz⟩ : ∃ z, z = (cd.length - 1) / 8 := ⟨_, rfl⟩
    rw [← hz] at Gc
    have hz1 : ((cd.length : Int) - 1).tdiv 8 = (z : Int) := by rw [Int.tdiv_eq_ediv_of_nonneg (by omega)]; omega
    have hz1' : ((cd.length : Int) - 1) / 8 = (z : Int) := by omega
    have hz2 : (z : Int) ≤ (q2 : Int) := by omega
    have hzn : z ≤ q2 := by omega
    clear hz
    go_enter Tryd.func7, Tryd.ntmps7
    go_wp2_with fail
    refine (law04_AddressKnown w HT.out).mono ?_
    rintro e w1 ⟨rfl, hb⟩
    have B1 := Lib.hid hb; clear hb
    go_wp2_with fail
    refine (Pa.out _).mono ?_
    rintro e w' ⟨rfl, rfl⟩
    go_wp2_with fail
    refine (Ua.out _ (HT.out.below B1.out)).mono ?_
    rintro e w2 ⟨rfl, hb⟩
    have B2 := Lib.hid (B1.out.trans (hb.mono B1.out.size)); clear hb B1
    go_wp2_with fail
    refine (Ca.out _).mono ?_
    rintro e w' ⟨rfl, rfl⟩
    go_wp2_with fail
    refine (By1.out _ B2.out).mono ?_
    rintro e w3 ⟨A1, X1, rfl, hS, hL, hC, hb⟩
    have B3 := Lib.hid (B2.out.trans (hb.mono B2.out.size)); clear hb B2
    have HS := Lib.hid hS; have HL := Lib.hid hL; have HC := Lib.hid hC; clear hS hL hC
    go_wp2_with fail
    refine (law04_gets A1 q1 q1 X1 0 d cd.length 0 w3 (HT.out.below B3.out) HS.out HL.out (by omega) (by decide) (Ga.out X1 0 HC.out (by rw [HL.out]; omega))).mono ?_
    rintro e w4 ⟨rfl, hb⟩
    have B4 := Lib.hid (B3.out.trans (hb.mono B3.out.size)); clear hb B3 HS HL HC
    go_wp2_with fail
    have Bo := Lib.hid (B4.out.alloc (o := .cells #[byteV 7] 5) B4.out.size)
    refine (By1.out _ Bo.out).mono ?_
    rintro e w5 ⟨A1, X1, rfl, hS, hL, hC, hb⟩
    have B5 := Lib.hid (Bo.out.trans (hb.mono Bo.out.size))
    have HO := Lib.hid (show w5.ownsRow w4.heap.size 5 1 (.slice (some ⟨w4.heap.size, 0, none⟩) 1 1) 1 [byteV 7] from own_below (w := w4.alloc (.cells #[byteV 7] 5)) ⟨rfl, .inr ⟨w4.heap.size, 1, #[byteV 7], rfl, Nat.le_refl _, Blk.new w4 5 #[byteV 7], Nat.le_refl _, by decide, rfl, rfl⟩⟩ hb (Nat.le_refl _))
    have hw5 : w4.heap.size ≤ w5.heap.size := Nat.le_trans (by simp) hb.size
    clear hb Bo
    have hw4 : w.heap.size ≤ w4.heap.size := B4.out.size
    clear B4
    have HS := Lib.hid hS; have HL := Lib.hid hL; have HC := Lib.hid hC; clear hS hL hC
    go_wp2_with (at_builtin; refine wpList_app_w etByte (by first | rfl | go_simp) rfl rfl HO.out rfl (m := q1) (news := X1.map byteV) (by rw [List.length_map, Nat.mul_one]; exact HL.out) HS.out (byteV_one X1) (by omega) (by omega) ?_; intro v1 w6 ho1 hg1 _; obtain ⟨A2, c2, rfl, hS2⟩ := own_sl ho1; have HS2 := Lib.hid hS2; clear hS2 ho1; have Hg1 := Lib.hid hg1; clear hg1)
    have B6 := Lib.hid (below_app B5.out HO.out Hg1.out (Nat.le_trans hw4 hw5) hw4)
    clear B5 HO Hg1
    refine (law04_gets A2 (1 + q1) c2 (7 :: X1) 8 d cd.length 0 w6 (HT.out.below B6.out) HS2.out (by rw [List.length_cons, HL.out, Nat.add_comm]) (by omega) (by decide) (Ga.out (7 :: X1) 8 (codeAt_cons _ _ _ HC.out) (by rw [List.length_cons, HL.out]; omega))).mono ?_
    rintro e w7 ⟨rfl, hb⟩
    have B7 := Lib.hid (B6.out.trans (hb.mono B6.out.size)); clear hb B6 HS HL HC HS2
    go_wp2_with fail
    refine (By2.out _).mono ?_
    rintro e w8 ⟨A3, X3, rfl, hS, hL, hC, hb⟩
    have B8 := Lib.hid (B7.out.trans (hb.mono B7.out.size)); clear hb B7
    have HS := Lib.hid hS; have HL := Lib.hid hL; have HC := Lib.hid hC; clear hS hL hC
    go_wp2_with fail
    refine (law04_gets A3 z q2 (X3.take z) 0 0 0 5 w8 (HT.out.below B8.out) (by have := HS.out.take z; rw [← List.map_take] at this; exact this) (by rw [List.length_take, HL.out]; omega) (by omega) (by decide) (Gc.out X3 HC.out (by rw [HL.out]; exact hl2))).mono ?_
    rintro e w9 ⟨rfl, hb⟩
    go_wp2_with fail
    go_ret
    exact ⟨rfl, B8.out.trans (hb.mono B8.out.size)⟩
end Go.Proofs.YtedjplbiibflmaaDoor
