/- Hexadecimal digits: the reference's hex and bytes, the program's hex and unhex. -/
import Derived.Test.YthcbidbhkikhmaaDoorNum31
namespace Go.Proofs.YthcbidbhkikhmaaDoor
open Go Go.RowKit
def hexS : List UInt8 := [48, 49, 50, 51, 52, 53, 54, 55, 56, 57, 97, 98, 99, 100, 101, 102]
def hexD (n : Nat) : UInt8 := hexS.getD n 0
def hexL (l : List UInt8) : List UInt8 := l.flatMap fun b => [hexD (b.toNat / 16), hexD (b.toNat % 16)]
def hexR (l : List UInt8) : List UInt8 := if l = [] then [45] else hexL l
theorem hexL_length (l : List UInt8) : (hexL l).length = 2 * l.length := by
  induction l with
  | nil => rfl
  | cons a l ih => simp [hexL] at ih ⊢; omega
theorem hexL_succ (l : List UInt8) (j : Nat) (h : j < l.length) : hexL (l.take (j + 1)) = hexL (l.take j) ++ [hexD (l[j].toNat / 16), hexD (l[j].toNat % 16)] := by
  unfold hexL; rw [List.take_succ_eq_append_getElem h, List.flatMap_append]; rfl
theorem hex_get (k : Nat) (hk : k < (⟨#[48, 49, 50, 51, 52, 53, 54, 55, 56, 57, 97, 98, 99, 100, 101, 102]⟩ : ByteArray).size) : (⟨#[48, 49, 50, 51, 52, 53, 54, 55, 56, 57, 97, 98, 99, 100, 101, 102]⟩ : ByteArray)[k] = hexD k := by
  have hk' : k < 16 := hk
  unfold hexD
  rw [List.getD, List.getElem?_eq_getElem (show k < hexS.length from hk')]
  rfl
theorem u8_in (x : Int) (h0 : 0 ≤ x) (h1 : x < 256) : IntKind.u8.wrap x = x := by
  show x % 256 = x; omega
set_option maxRecDepth 100000 in
set_option maxHeartbeats 2000000 in
theorem ref31_hex (A : Option Addr) (n c : Nat) (l : List UInt8) (w : World) (hA : Sl w A (l.map byteV)) (hn : l.length = n) (hsz : n ≤ 10000) :
    Calls Tryd.prog 33 #[.slice A n c] w fun e w' => e = .returned (.string (bs (hexR l))) ∧ Below w.heap.size w w' := by
  have HA := Lib.hid hA; clear hA
  by_cases h0 : l = []
  · subst h0
    obtain rfl : n = 0 := hn.symm
    have hr : hexR [] = [45] := rfl
    rw [hr]
    go_enter Tryd.func33, Tryd.ntmps33
    go_wp2_with fail
    go_ret
    exact ⟨rfl, Below.refl _ _⟩
  have hr : hexR l = hexL l := if_neg h0
  rw [hr]
  have hpos : 0 < n := by rw [← hn]; exact List.length_pos_iff.2 h0
  have q0 : ((n : Int) == 0) = false := by rw [beq_eq_false_iff_ne]; omega
  clear h0 hr
  have Hn := Lib.hid hn; clear hn
  have hcv : ∀ (W : World) (A : Option Addr) (l : List UInt8) (n c : Nat), Sl W A (l.map byteV) → l.length = n → (convert 22 9 (.slice A n c)).run Tryd.prog W = .ok (.string (bs l)) W := fun W A l n c h hn => run_bytes_str (P := Tryd.prog) 22 9 5 (by kernel_rfl) (by kernel_rfl) (by kernel_rfl) h n c hn
  have Hcv := Lib.hid hcv; clear hcv
  go_enter Tryd.func33, Tryd.ntmps33
  go_wp2_with fail
  go_loopg [3, 4] n (fun g v i => fun wr => ∃ (j : Nat), j + g = n ∧ i = .int .i64 (j : Int) ∧ wr.ownsRow w.heap.size 5 1 v (2 * j) ((hexL (l.take j)).map byteV) ∧ Below w.heap.size w wr)
  case atStart => exact ⟨0, by omega, rfl, World.ownsRow_nil _ _ _ _, Below.refl _ _⟩
  case round =>
    obtain ⟨j, hj, rfl, ho, hb⟩ := hrel
    cases gk with
    | zero =>
      obtain rfl : j = n := by omega
      have hlt : ¬ ((j : Int) < (j : Int)) := by omega
      obtain ⟨A1, c1, rfl, hS⟩ := own_sl ho
      rw [List.take_of_length_le (by rw [Hn.out]; exact Nat.le_refl _)] at hS
      have hc := Hcv.out wr A1 (hexL l) (2 * j) c1 hS (by rw [hexL_length, Hn.out])
      go_wp2_with fail
      go_ret
      exact ⟨rfl, hb⟩
    | succ g =>
      have hlt : ((j : Int) < (n : Int)) := by omega
      have hjl : j < l.length := by rw [Hn.out]; omega
      obtain ⟨ad, rfl, hadl, hc⟩ := (HA.out.below hb).byte j hjl
      have Hs := Lib.hid (hexL_succ l j hjl)
      have Ho := Lib.hid ho; clear ho
      have hbs := hb.size
      have hb256 : l[j].toNat < 256 := UInt8.toNat_lt _
      generalize l[j].toNat = b at hc Hs hb256
      obtain ⟨h, hh⟩ : ∃ h, h = b / 16 := ⟨_, rfl⟩
      obtain ⟨m, hm⟩ : ∃ m, m = b % 16 := ⟨_, rfl⟩
      have e1 : (b : Int) / 16 = (h : Int) := by omega
      have e2 : (b : Int) % 16 = (m : Int) := by omega
      have e5 : (b : Int).tmod 16 = (m : Int) := by rw [Int.tmod_eq_emod_of_nonneg (by omega)]; exact e2
      have e6 : (0 : Int) ≤ (m : Int) := by omega
      have e3 : IntKind.u8.wrap (h : Int) = (h : Int) := u8_in _ (by omega) (by omega)
      have e4 : IntKind.u8.wrap (m : Int) = (m : Int) := u8_in _ (by omega) (by omega)
      have hh16 : (h : Int) < 16 := by omega
      have hm16 : (m : Int) < 16 := by omega
      rw [← hh, ← hm] at Hs
      clear hh hm
      have hg := hex_get
      go_wp2_with fail
      refine wp_region_plan2 (fun w' => w'.cell? (ad.add j) = some (.int .u8 b)) 14 [(0, true), (1, true), (2, true), (3, true), (4, true), (5, true), (6, true), (7, true), (8, true), (9, true), (10, true), (11, true), (12, true), (13, false)] (by kernel_rfl) (by kernel_rfl) (fun _ _ d _ _ h => by cases d <;> exact h) (by decide) (by simp only [List.map_cons, List.map_nil, Array.getD_eq_getD_getElem?, List.getElem?_toArray, List.getElem?_cons_zero, List.getElem?_cons_succ, Option.getD_some]; rfl) (by simp only [List.map_cons, List.map_nil]; rfl) (hc) (fun PE hPE => ?_)
      refine plan_take (v := ?_) rfl (by rfl) ?_ ?_
      rotate_left
      · intro _ hSw; (try dsimp only at hSw); go_simp; (try with_reducible rfl)
      simp only [List.setIfInBounds_toArray, List.set_cons_zero, List.set_cons_succ]
      refine plan_take (v := ?_) rfl (by rfl) ?_ ?_
      rotate_left
      · intro _ hSw; (try dsimp only at hSw); go_simp; (try with_reducible rfl)
      simp only [List.setIfInBounds_toArray, List.set_cons_zero, List.set_cons_succ]
      refine plan_take (v := ?_) rfl (by rfl) ?_ ?_
      rotate_left
      · intro _ hSw; (try dsimp only at hSw); go_simp; (try with_reducible rfl)
      simp only [List.setIfInBounds_toArray, List.set_cons_zero, List.set_cons_succ]
      refine plan_take (v := ?_) rfl (by rfl) ?_ ?_
      rotate_left
      · intro _ hSw; (try dsimp only at hSw); go_simp; (try with_reducible rfl)
      simp only [List.setIfInBounds_toArray, List.set_cons_zero, List.set_cons_succ]
      refine plan_take (v := ?_) rfl (by rfl) ?_ ?_
      rotate_left
      · intro _ hSw; (try dsimp only at hSw); go_simp; (try with_reducible rfl)
      simp only [List.setIfInBounds_toArray, List.set_cons_zero, List.set_cons_succ]
      refine plan_take (v := ?_) rfl (by rfl) ?_ ?_
      rotate_left
      · intro _ hSw; (try dsimp only at hSw); go_simp; (try with_reducible rfl)
      simp only [List.setIfInBounds_toArray, List.set_cons_zero, List.set_cons_succ]
      refine plan_take (v := ?_) rfl (by rfl) ?_ ?_
      rotate_left
      · intro _ hSw; (try dsimp only at hSw); go_simp; (try with_reducible rfl)
      simp only [List.setIfInBounds_toArray, List.set_cons_zero, List.set_cons_succ]
      refine plan_take (v := ?_) rfl (by rfl) ?_ ?_
      rotate_left
      · intro _ hSw; (try dsimp only at hSw); go_simp; (try with_reducible rfl)
      simp only [List.setIfInBounds_toArray, List.set_cons_zero, List.set_cons_succ]
      refine plan_take (v := ?_) rfl (by rfl) ?_ ?_
      rotate_left
      · intro _ hSw; (try dsimp only at hSw); go_simp; (try with_reducible rfl)
      simp only [List.setIfInBounds_toArray, List.set_cons_zero, List.set_cons_succ]
      refine plan_take (v := ?_) rfl (by rfl) ?_ ?_
      rotate_left
      · intro _ hSw; (try dsimp only at hSw); go_simp; (try with_reducible rfl)
      simp only [List.setIfInBounds_toArray, List.set_cons_zero, List.set_cons_succ]
      refine plan_take (v := ?_) rfl (by rfl) ?_ ?_
      rotate_left
      · intro _ hSw; (try dsimp only at hSw); go_simp; (try with_reducible rfl)
      simp only [List.setIfInBounds_toArray, List.set_cons_zero, List.set_cons_succ]
      refine plan_take (v := ?_) rfl (by rfl) ?_ ?_
      rotate_left
      · intro _ hSw; (try dsimp only at hSw); go_simp; (try with_reducible rfl)
      simp only [List.setIfInBounds_toArray, List.set_cons_zero, List.set_cons_succ]
      refine plan_take (v := ?_) rfl (by rfl) ?_ ?_
      rotate_left
      · intro _ hSw; (try dsimp only at hSw); go_simp; (try with_reducible rfl)
      simp only [List.setIfInBounds_toArray, List.set_cons_zero, List.set_cons_succ]
      refine plan_value (v := ?_) (w' := ?_) rfl (by rfl) ?_ ?_ ?_
      rotate_left 2
      · go_simp; (try (constructor <;> with_reducible rfl))
      · rw [(show Below wr.heap.size wr (wr.alloc _).drew from ((Below.refl _ _).alloc (Nat.le_refl _) _).drew).cell (by rw [addr_add_block]; exact hadl)]; exact hc
      simp only [List.setIfInBounds_toArray, List.set_cons_zero, List.set_cons_succ]
      (refine hPE _ _ ?_; simp only [List.drop_succ_cons, List.drop_zero]; clear hPE PE)
      clear hg
      have Ho2 := Lib.hid ((Ho.out.alloc (.cells #[byteV (hexD h), byteV (hexD m)] 5)).drew)
      have hb2 : Below w.heap.size w (wr.alloc (.cells #[byteV (hexD h), byteV (hexD m)] 5)).drew := (hb.alloc hb.size _).drew
      have hS2 : Sl (wr.alloc (.cells #[byteV (hexD h), byteV (hexD m)] 5)).drew (some ⟨wr.heap.size, 0, none⟩) ([hexD h, hexD m].map byteV) := ((Blk.new wr 5 #[byteV (hexD h), byteV (hexD m)]).sl 0).drew
      have HS2 := Lib.hid hS2
      clear hS2
      go_wp2_with (at_builtin; refine wpList_app etByte rfl rfl rfl Ho2.out rfl (m := 2) (news := [hexD h, hexD m].map byteV) rfl HS2.out (byteV_one _) (by omega) (by have h1 := hb2.size; exact h1) ?_; intro v1 w1 ho1 hg1 _; have Ho1 := Lib.hid ho1; clear ho1; have Hg1 := Lib.hid hg1; clear hg1)
      go_roundg g
      case measure => omega
      case rel =>
        refine ⟨j + 1, by omega, rfl, ?_, ?_⟩
        · have h1 := Ho1.out
          rw [Hs.out, List.map_append]
          rw [show 2 * (j + 1) = 2 * j + 2 by omega]
          exact h1
        · exact below_app hb2 Ho2.out Hg1.out hb2.size (Nat.le_refl _)
end Go.Proofs.YthcbidbhkikhmaaDoor
