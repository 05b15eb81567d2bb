/- Kit, RefT -/
import Derived.Test.YtcojnigkgbmbmaaGreatDoorT01
import Derived.Test.YtcojnigkgbmbmaaGreatDoorT09
import Derived.Test.YtcojnigkgbmbmaaGreatDoorT04
import Derived.Deep.LoopGhost
namespace Go.Proofs.YtcojnigkgbmbmaaGreatDoor
open Go Go.RowKit
end Go.Proofs.YtcojnigkgbmbmaaGreatDoor
namespace Go.Proofs.YtcojnigkgbmbmaaGreatDoor
open Go Go.RowKit
theorem ref03_begins (s p : List UInt8) (w : World) : Calls Tryz.prog 118 #[.string (bs s), .string (bs p)] w fun e w' => e = .returned (.bool (p.isPrefixOf s)) ∧ w = w' := by
  by_cases h : p.length ≤ s.length
  · have e1 : decide ((p.length : Int) ≤ (s.length : Int)) = true := by simp; omega
    have Hp := Lib.hid (prefix_take p s h)
    go_enter Tryz.func118, Tryz.ntmps118
    go_wp2_with fail
    go_ret
    rw [← Hp.out]
    exact ⟨rfl, rfl⟩
  · have e1 : decide ((p.length : Int) ≤ (s.length : Int)) = false := by simp; omega
    rw [prefix_long p s h]
    go_enter Tryz.func118, Tryz.ntmps118
    go_wp2_with fail
    go_ret
    exact ⟨rfl, rfl⟩
set_option maxHeartbeats 1000000 in
theorem ref03_code (c : List UInt8) (hc : isCode c = true) (w : World) : Calls Tryz.prog 146 #[.string (bs c)] w fun e w' => e = .returned (.bool true) ∧ w = w' := by
  simp only [isCode, Bool.and_eq_true, decide_eq_true_eq] at hc
  obtain ⟨⟨h1, h2⟩, h3⟩ := hc
  have H1 := Lib.hid h1; clear h1
  go_enter Tryz.func146, Tryz.ntmps146
  go_wp2_with fail
  go_loopg [3] c.length (fun g i => fun wr => ∃ (j : Nat), j + g = c.length ∧ i = .int .i64 (j : Int) ∧ w = wr)
  case atStart => exact ⟨0, by omega, rfl, rfl⟩
  case round =>
    obtain ⟨j, hj, rfl, rfl⟩ := hrel
    cases gk with
    | zero =>
      obtain rfl : j = c.length := by omega
      have hlt : ¬ ((c.length : Int) < (c.length : Int)) := by omega
      have e1 : decide ((1 : Int) ≤ (c.length : Int)) = true := by simp; omega
      have e2 : decide ((c.length : Int) ≤ 24) = true := by simp; omega
      go_wp2_with fail
      go_ret
      exact ⟨rfl, rfl⟩
    | succ g =>
      have hlt : ((j : Int) < (c.length : Int)) := by omega
      have hjl : j < c.length := by omega
      have hm := List.all_eq_true.1 H1.out c[j] (List.getElem_mem hjl)
      simp only [Bool.or_eq_true, beq_iff_eq] at hm
      rcases hm with hm | hm
      · have q1 : ((c[j].toNat : Int) != 48) = false := by rw [hm]; rfl
        clear hm
        go_wp2_with fail
        go_roundg g
        case measure => omega
        case rel => exact ⟨j + 1, by omega, rfl, rfl⟩
      · have q1 : ((c[j].toNat : Int) != 48) = true := by rw [hm]; rfl
        have q3 : ((c[j].toNat : Int) != 49) = false := by rw [hm]; rfl
        clear hm
        go_wp2_with fail
        go_roundg g
        case measure => omega
        case rel => exact ⟨j + 1, by omega, rfl, rfl⟩
/-- the tree that lies at block b -/
def TreeAt (w : World) (b m : Nat) (cs : List (List UInt8)) (ns : List Int) : Prop := ∃ X Y x y, Blk w b 143 #[.slice X m x, .slice Y m y] ∧ Sl w X (cs.map strV) ∧ Sl w Y (ns.map intV)
def MakePost (m : Nat) (cs : List (List UInt8)) (ns : List Int) (w : World) (e : Ending) (w' : World) : Prop := ∃ b, e = .returned (.tuple #[.pointer (some ⟨b, 0, none⟩), .int .i64 0]) ∧ TreeAt w' b m cs ns ∧ Below w.heap.size w w'
set_option maxRecDepth 100000 in
set_option maxHeartbeats 2000000 in
theorem ref03_Make (A B : Option Addr) (n c d : Nat) (cs : List (List UInt8)) (ns : List Int) (w : World) (hA : Sl w A (cs.map strV)) (hB : Sl w B (ns.map intV)) (hc : cs.length = n) (hn : ns.length = n) (h1 : 1 ≤ n) (h300 : n ≤ 300)
    (hcode : cs.all isCode = true) (hfree : codesFree cs = true) :
    Calls Tryz.prog 116 #[.slice A n c, .slice B n d] w (MakePost n cs ns w) := by
  have HA := Lib.hid hA; have HB := Lib.hid hB; have Hc := Lib.hid hc; have Hn := Lib.hid hn; have Hcode := Lib.hid hcode; have Hfree := Lib.hid hfree
  clear hA hB hc hn hcode hfree
  have e0 : ((n : Int) == 0) = false := by rw [beq_eq_false_iff_ne]; omega
  have e3 : decide (300 < (n : Int)) = false := by simp; omega
  go_enter Tryz.func116, Tryz.ntmps116
  go_wp2_with fail
  go_loopg [6] n (fun g i => fun wr => ∃ (j : Nat), j + g = n ∧ i = .int .i64 (j : Int) ∧ w = wr)
  case atStart => exact ⟨0, by omega, rfl, rfl⟩
  case round =>
    obtain ⟨j, hj, rfl, rfl⟩ := hrel
    cases gk with
    | succ g =>
      have hlt : ((j : Int) < (n : Int)) := by omega
      have hjl : j < cs.length := by rw [Hc.out]; omega
      obtain ⟨ad, rfl, _, hcell⟩ := HA.out.at_ j (by simpa using hjl)
      rw [List.getElem_map] at hcell
      unfold strV at hcell
      have hcd := Lib.hid (List.all_eq_true.1 Hcode.out cs[j] (List.getElem_mem hjl))
      go_wp2_with (go_at_call 146; refine (ref03_code _ hcd.out _).mono ?_; rintro e w' ⟨rfl, rfl⟩)
      go_roundg g
      case measure => omega
      case rel => exact ⟨j + 1, by omega, rfl, rfl⟩
    | zero =>
      have hlt : ¬ ((j : Int) < (n : Int)) := by omega
      go_wp2_with fail
      go_loopg [7] n (fun g i => fun wr => ∃ (j : Nat), j + g = n ∧ i = .int .i64 (j : Int) ∧ Below w.heap.size w wr)
      case atStart => exact ⟨0, by omega, rfl, Below.refl _ _⟩
      case round =>
        obtain ⟨i, hi, rfl, hb⟩ := hrel
        cases gk with
        | succ g1 =>
          have hlt : ((i : Int) < (n : Int)) := by omega
          go_wp2_with fail
          go_loopg [8] n (fun g k => fun wr => ∃ (j : Nat), j + g = n ∧ k = .int .i64 (j : Int) ∧ Below w.heap.size w wr)
          case atStart => exact ⟨0, by omega, rfl, hb⟩
          case round =>
            obtain ⟨k, hk, rfl, hb⟩ := hrel
            cases gk with
            | zero =>
              have hlt : ¬ ((k : Int) < (n : Int)) := by omega
              go_wp2_with fail
              go_roundg g1
              case measure => omega
              case rel => exact ⟨i + 1, by omega, rfl, hb⟩
            | succ g2 =>
              have hlt : ((k : Int) < (n : Int)) := by omega
              by_cases hik : i = k
              · have e1 : ((i : Int) != (k : Int)) = false := by rw [hik]; simp
                go_wp2_with fail
                refine wp_region_plan2 (fun _ => True) 12 [(0, true), (1, true), (2, true), (3, true), (4, true), (5, true), (6, true), (7, true), (8, true), (9, true), (10, true), (11, true)] (by kernel_rfl) (by kernel_rfl) (fun _ _ d _ _ h => by cases d <;> exact h) (by decide) (by simp only [List.map_cons, List.map_nil, Array.getD_eq_getD_getElem?, List.getElem?_toArray, List.getElem?_cons_zero, List.getElem?_cons_succ, Option.getD_some]; rfl) (by simp only [List.map_cons, List.map_nil]; rfl) (trivial) (fun PE hPE => ?_)
                iterate 4
                  refine plan_take (v := ?_) rfl (by rfl) ?_ ?_
                  rotate_left
                  · intro _ hSw; (try dsimp only at hSw); go_simp; (try with_reducible rfl)
                  simp only [List.setIfInBounds_toArray, List.set_cons_zero, List.set_cons_succ]
                iterate 8
                  refine plan_pass rfl (by rfl) ?_
                  simp only [List.setIfInBounds_toArray, List.set_cons_zero, List.set_cons_succ]
                (refine hPE _ _ ?_; simp only [List.drop_succ_cons, List.drop_zero]; clear hPE PE)
                go_wp2_with fail
                go_roundg g2
                case measure => omega
                case rel => exact ⟨k + 1, by omega, rfl, hb.drew⟩
              · have e1 : ((i : Int) != (k : Int)) = true := by rw [bne_iff_ne]; omega
                have hil : i < cs.length := by rw [Hc.out]; omega
                have hkl : k < cs.length := by rw [Hc.out]; omega
                have hfr : (cs[k]).isPrefixOf cs[i] = false := by
                  have := List.all_eq_true.1 (List.all_eq_true.1 Hfree.out i (List.mem_range.2 hil)) k (List.mem_range.2 hkl)
                  simpa [hik, List.getD, hil, hkl] using this
                have hlen : (cs[i]).length ≤ 24 := by
                  have := List.all_eq_true.1 Hcode.out cs[i] (List.getElem_mem hil)
                  simp only [isCode, Bool.and_eq_true, decide_eq_true_eq] at this
                  omega
                have HA2 := HA.out.below hb
                obtain ⟨ad, hAd, _, hci⟩ := HA2.at_ i (by simpa using hil)
                obtain ⟨ad', hAd', _, hck⟩ := HA2.at_ k (by simpa using hkl)
                obtain rfl : ad = ad' := by rw [hAd] at hAd'; cases hAd'; rfl
                rw [List.getElem_map] at hci hck
                unfold strV at hci hck
                generalize cs[i] = ci at hci hfr hlen
                generalize cs[k] = ck at hck hfr
                have Hbe := Lib.hid (fun W => ref03_begins ci ck W)
                rw [hfr] at Hbe
                clear HA2 hik hfr
                subst hAd
                clear hAd'
                go_wp2_with fail
                refine wp_region_plan2 (fun w' => w'.cell? (ad.add i) = some (.string (bs ci)) ∧ w'.cell? (ad.add k) = some (.string (bs ck))) 12 [(0, true), (1, true), (2, true), (3, true), (4, true), (5, true), (6, true), (7, true), (8, true), (9, true), (10, true), (11, true)] (by kernel_rfl) (by kernel_rfl) (fun _ _ d _ _ h => by cases d <;> exact h) (by decide) (by simp only [List.map_cons, List.map_nil, Array.getD_eq_getD_getElem?, List.getElem?_toArray, List.getElem?_cons_zero, List.getElem?_cons_succ, Option.getD_some]; rfl) (by simp only [List.map_cons, List.map_nil]; rfl) (⟨hci, hck⟩) (fun PE hPE => ?_)
                iterate 12
                  refine plan_take (v := ?_) rfl (by rfl) ?_ ?_
                  rotate_left
                  · intro _ hSw; (try dsimp only at hSw); obtain ⟨hS1, hS2⟩ := hSw; go_simp; (try with_reducible rfl)
                  simp only [List.setIfInBounds_toArray, List.set_cons_zero, List.set_cons_succ]
                (refine hPE _ _ ?_; simp only [List.drop_succ_cons, List.drop_zero]; clear hPE PE)
                go_wp2_with (go_at_call 118; refine (Hbe.out _).mono ?_; rintro e w' ⟨rfl, rfl⟩)
                go_roundg g2
                case measure => omega
                case rel => exact ⟨k + 1, by omega, rfl, hb.drew⟩
        | zero =>
          have hlt : ¬ ((i : Int) < (n : Int)) := by omega
          have ho0 : (wr.alloc (.cells #[] 9)).ownsRow wr.heap.size 9 1 (.slice (some ⟨wr.heap.size, 0, none⟩) 0 0) 0 [] := World.ownsRow_lit wr #[] 0 (Nat.le_refl _) (by decide) rfl
          have Ho0 := Lib.hid ho0; clear ho0
          have HA2 := Lib.hid ((HA.out.below hb).alloc (.cells #[] 9))
          have HB2 := Lib.hid (HB.out.below hb)
          have tok : True := trivial
          go_wp2_with (first
            | (at_builtin; have _t := tok; refine wpList_app etStr rfl rfl rfl Ho0.out rfl (by simp [Hc.out]) HA2.out (strV_one _) (by omega) (by simp) ?_; clear tok; intro v1 w1 ho1 hg1 _; rw [Nat.zero_add, List.nil_append] at ho1; obtain ⟨g1, c1, rfl, _, _, _⟩ := own_pos ho1 (by omega); have Ho1 := Lib.hid ho1; clear ho1; have hb1 := below_app ((Below.refl wr.heap.size wr).alloc (Nat.le_refl _) (.cells #[] 9)) Ho0.out hg1 (by simp) (Nat.le_refl _); have Hb1 := Lib.hid hb1; clear hb1 hg1)
            | (at_builtin; refine wpList_app etInt rfl rfl rfl (World.ownsRow_lit w1 #[] 0 (Nat.le_refl _) (by decide) rfl) rfl (by simp [Hn.out]) ((HB2.out.below Hb1.out).alloc _) (intV_one _) (by omega) (by simp) ?_; intro v2 w2 ho2 hg2 _; rw [Nat.zero_add, List.nil_append] at ho2; obtain ⟨g2, c2, rfl, _, _, _⟩ := own_pos ho2 (by omega); have Ho2 := Lib.hid ho2; clear ho2; have ho20 : (w1.alloc (.cells #[] 3)).ownsRow w1.heap.size 3 1 (.slice (some ⟨w1.heap.size, 0, none⟩) 0 0) 0 [] := World.ownsRow_lit w1 #[] 0 (Nat.le_refl _) (by decide) rfl; have hb2 := below_app ((Below.refl w1.heap.size w1).alloc (Nat.le_refl _) (.cells #[] 3)) ho20 hg2 (by simp) (Nat.le_refl _); clear ho20; have Hb2 := Lib.hid hb2; clear hb2 hg2))
          go_ret2
          have hb12 := Hb1.out.trans (Hb2.out.mono Hb1.out.size)
          have hbw2 := hb.trans (hb12.mono hb.size)
          exact ⟨_, rfl, ⟨_, _, _, _, Blk.new w2 _ _, ((own_sl' Ho1.out).below Hb2.out).alloc _, (own_sl' Ho2.out).alloc _⟩, hbw2.alloc hbw2.size _⟩
end Go.Proofs.YtcojnigkgbmbmaaGreatDoor
