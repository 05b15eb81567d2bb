/- Bytes of hexadecimal digits: the reference's bytes, the program's unhex. -/
import Derived.Test.YthcbidbhkikhmaaDoorHex31
namespace Go.Proofs.YthcbidbhkikhmaaDoor
open Go Go.RowKit
def pairN (s : List UInt8) (j : Nat) : UInt8 := UInt8.ofNat (16 * halfR (s.getD (2 * j) 0) + halfR (s.getD (2 * j + 1) 0))
def unhexL (s : List UInt8) (k : Nat) : List UInt8 := (List.range k).map (pairN s)
theorem unhexL_length (s : List UInt8) (k : Nat) : (unhexL s k).length = k := by simp [unhexL]
theorem unhexL_succ (s : List UInt8) (k : Nat) : unhexL s (k + 1) = unhexL s k ++ [pairN s k] := by simp [unhexL, List.range_succ]
def isHex (c : UInt8) : Bool := decide (halfR c ≤ 15)
def bytesR (s : List UInt8) : List UInt8 × Bool :=
  if s = [45] then ([], true) else if s = [] ∨ s.length % 2 ≠ 0 ∨ 2000 < s.length then ([], false) else if s.all isHex = true then (unhexL s (s.length / 2), true) else ([], false)
/-- bytes, of the call's own, and a word -/
def BytesPost (t : TypeId) (r : List UInt8 × Bool) (w : World) (e : Ending) (w' : World) : Prop := ∃ v, e = .returned (.tuple #[v, .bool r.2]) ∧ w'.ownsRow w.heap.size t 1 v r.1.length (r.1.map byteV) ∧ Below w.heap.size w w'
theorem BytesPost.nil (t : TypeId) (b : Bool) (w : World) : BytesPost t ([], b) w (.returned (.tuple #[.slice none 0 0, .bool b])) w := ⟨_, rfl, World.ownsRow_nil _ _ _ _, Below.refl _ _⟩
theorem half_le (c : UInt8) : halfR c ≤ 16 := by unfold halfR; split <;> (try split) <;> omega
set_option maxRecDepth 100000 in
set_option maxHeartbeats 4000000 in
theorem ref31_bytes (s : List UInt8) (w : World) (hsz : s.length ≤ 10000) : Calls Tryd.prog 40 #[.string (bs s)] w (BytesPost 5 (bytesR s) w) := by
  obtain ⟨r, hr⟩ : ∃ r, bytesR s = r := ⟨_, rfl⟩
  rw [hr]
  unfold bytesR at hr
  by_cases h0 : s = [45]
  · subst h0
    rw [if_pos rfl] at hr
    subst hr
    go_enter Tryd.func40, Tryd.ntmps40
    go_wp2_with fail
    go_ret2
    exact BytesPost.nil _ _ _
  have q0 : (s == [45]) = false := beq_eq_false_iff_ne.2 h0
  rw [if_neg h0] at hr
  by_cases h1 : s = []
  · subst h1
    rw [if_pos (Or.inl rfl)] at hr
    subst hr
    go_enter Tryd.func40, Tryd.ntmps40
    go_wp2_with fail
    go_ret2
    exact BytesPost.nil _ _ _
  have hpos : 0 < s.length := List.length_pos_iff.2 h1
  have q1 : ((s.length : Int) == 0) = false := by rw [beq_eq_false_iff_ne]; omega
  obtain ⟨m, hm⟩ : ∃ m, m = s.length % 2 := ⟨_, rfl⟩
  have e1 : (s.length : Int) % 2 = (m : Int) := by omega
  have e2 : (s.length : Int).tmod 2 = (m : Int) := by rw [Int.tmod_eq_emod_of_nonneg (by omega)]; exact e1
  by_cases h2 : s.length % 2 ≠ 0
  · rw [if_pos (Or.inr (Or.inl h2))] at hr
    subst hr
    have q2 : ((m : Int) != 0) = true := by rw [bne_iff_ne]; omega
    clear h0 h1 h2 hm
    go_enter Tryd.func40, Tryd.ntmps40
    go_wp2_with fail
    go_ret2
    exact BytesPost.nil _ _ _
  have h2' : s.length % 2 = 0 := by omega
  have q2 : ((m : Int) != 0) = false := by rw [bne_eq_false_iff_eq]; omega
  by_cases h3 : 2000 < s.length
  · rw [if_pos (Or.inr (Or.inr h3))] at hr
    subst hr
    have q3 : 2000 < (s.length : Int) := by omega
    clear h0 h1 h2 h2' hm
    go_enter Tryd.func40, Tryd.ntmps40
    go_wp2_with fail
    go_ret2
    exact BytesPost.nil _ _ _
  have q3 : ¬ 2000 < (s.length : Int) := by omega
  rw [if_neg (by rintro (h | h | h) <;> contradiction)] at hr
  have Hr := Lib.hid hr
  clear h0 h1 h2 hm hr
  obtain ⟨K, hK⟩ : ∃ K, K = s.length / 2 := ⟨_, rfl⟩
  have hK2 : s.length = 2 * K := by omega
  rw [← hK] at Hr
  clear hK h2'
  have Hlen := Lib.hid hK2
  clear hK2
  go_enter Tryd.func40, Tryd.ntmps40
  go_wp2_with fail
  go_loopg [4, 5] K (fun g v i => fun wr => ∃ (j i' : Nat), Hid (i' = 2 * j) ∧ j + g = K ∧ i = .int .i64 (i' : Int) ∧ wr.ownsRow w.heap.size 5 1 v j ((unhexL s j).map byteV) ∧ Below w.heap.size w wr ∧ Hid (∀ k, k < i' → halfR (s.getD k 0) ≤ 15))
  case atStart => exact ⟨0, 0, Lib.hid rfl, by omega, rfl, World.ownsRow_nil _ _ _ _, Below.refl _ _, Lib.hid (fun k h => absurd h (by omega))⟩
  case round =>
    obtain ⟨j, i, Hi, hj, rfl, ho, hb, Hd⟩ := hrel
    have hK2 := Hlen.out
    have hi := Hi.out
    cases gk with
    | zero =>
      obtain rfl : j = K := by omega
      have hlt : ¬ ((i : Int) < (s.length : Int)) := by omega
      clear hK2 hi
      have Ho := Lib.hid ho; clear ho
      go_wp2_with fail
      go_ret2
      have hK2 := Hlen.out
      have hi := Hi.out
      have hall : s.all isHex = true := by
        rw [List.all_eq_true]; intro c hc
        obtain ⟨k, hk, rfl⟩ := List.getElem_of_mem hc
        have := Hd.out k (by omega)
        rw [List.getD, List.getElem?_eq_getElem hk] at this
        exact decide_eq_true this
      have h1 := Hr.out
      rw [if_pos hall] at h1
      rw [← h1]
      exact ⟨_, rfl, by show World.ownsRow _ _ _ _ _ (unhexL s j).length _; rw [unhexL_length]; exact Ho.out, hb⟩
    | succ g =>
      have hs2 : (i : Int) < (s.length : Int) := by omega
      have hs1 : 0 ≤ (i : Int) := by omega
      have ha : i < s.length := by omega
      obtain ⟨i2, hi2⟩ : ∃ i2, i2 = i + 1 := ⟨_, rfl⟩
      have hw : IntKind.i64.wrap ((i : Int) + 1) = (i2 : Int) := by rw [IntKind.wrap_i64]; omega
      have hs3 : (i2 : Int) < (s.length : Int) := by omega
      have hs5 : 0 ≤ (i2 : Int) := by omega
      have hbb : i2 < s.length := by omega
      have Hi2 := Lib.hid hi2
      clear hi2
      clear hK2 hi
      have Ho := Lib.hid ho; clear ho
      obtain ⟨a, hA⟩ : ∃ a, a = halfR s[i] := ⟨_, rfl⟩
      obtain ⟨b, hB⟩ : ∃ b, b = halfR s[i2] := ⟨_, rfl⟩
      have C1 := Lib.hid (fun W => ref31_half s[i] W)
      have C2 := Lib.hid (fun W => ref31_half s[i2] W)
      rw [← hA] at C1
      rw [← hB] at C2
      have hA16 := half_le s[i]
      have hB16 := half_le s[i2]
      rw [← hA] at hA16
      rw [← hB] at hB16
      have HA := Lib.hid hA
      have HB := Lib.hid hB
      clear hA hB
      by_cases ha15 : 15 < a
      · have q5 : 15 < (a : Int) := by omega
        clear ha15
        go_wp2_with fail
        refine wp_region_plan2 (fun _ => True) 8 [(0, true), (1, true), (2, true), (4, true), (5, true), (6, true), (7, true), (3, false)] (by kernel_rfl) (by kernel_rfl) (fun _ _ d _ _ h => by cases d <;> exact h) (by decide) (by simp only [List.map_cons, List.map_nil, Array.getD_eq_getD_getElem?, List.getElem?_toArray, List.getElem?_cons_zero, List.getElem?_cons_succ, Option.getD_some]; rfl) (by simp only [List.map_cons, List.map_nil]; rfl) (trivial) (fun PE hPE => ?_)
        refine plan_take (v := ?_) rfl (by rfl) ?_ ?_
        rotate_left
        · intro _ hSw; (try dsimp only at hSw); go_simp; (try with_reducible rfl)
        simp only [List.setIfInBounds_toArray, List.set_cons_zero, List.set_cons_succ]
        refine plan_take (v := ?_) rfl (by rfl) ?_ ?_
        rotate_left
        · intro _ hSw; (try dsimp only at hSw); go_simp; (try with_reducible rfl)
        simp only [List.setIfInBounds_toArray, List.set_cons_zero, List.set_cons_succ]
        refine plan_take (v := ?_) rfl (by rfl) ?_ ?_
        rotate_left
        · intro _ hSw; (try dsimp only at hSw); go_simp; (try with_reducible rfl)
        simp only [List.setIfInBounds_toArray, List.set_cons_zero, List.set_cons_succ]
        refine plan_take (v := ?_) rfl (by rfl) ?_ ?_
        rotate_left
        · intro _ hSw; (try dsimp only at hSw); go_simp; (try with_reducible rfl)
        simp only [List.setIfInBounds_toArray, List.set_cons_zero, List.set_cons_succ]
        refine plan_take (v := ?_) rfl (by rfl) ?_ ?_
        rotate_left
        · intro _ hSw; (try dsimp only at hSw); go_simp; (try with_reducible rfl)
        simp only [List.setIfInBounds_toArray, List.set_cons_zero, List.set_cons_succ]
        refine plan_take (v := ?_) rfl (by rfl) ?_ ?_
        rotate_left
        · intro _ hSw; (try dsimp only at hSw); go_simp; (try with_reducible rfl)
        simp only [List.setIfInBounds_toArray, List.set_cons_zero, List.set_cons_succ]
        refine plan_take (v := ?_) rfl (by rfl) ?_ ?_
        rotate_left
        · intro _ hSw; (try dsimp only at hSw); go_simp; (try with_reducible rfl)
        simp only [List.setIfInBounds_toArray, List.set_cons_zero, List.set_cons_succ]
        refine plan_call rfl (by rfl) (by first | (go_simp; done) | (go_simp; rfl)) (C1.out _) ?_
        rintro e w' ⟨rfl, rfl⟩
        refine ⟨_, rfl, trivial, ?_⟩
        simp only [List.setIfInBounds_toArray, List.set_cons_zero, List.set_cons_succ]
        (refine hPE _ _ ?_; simp only [List.drop_succ_cons, List.drop_zero]; clear hPE PE)
        have hb2 := hb.drew
        have Ho2 := Lib.hid Ho.out.drew
        go_wp2_with (go_at_call 51; refine (C2.out _).mono ?_; rintro e w' ⟨rfl, rfl⟩)
        go_ret2
        have hex_no : s.all isHex = false := by
          rw [Bool.eq_false_iff]; intro h
          have h1 := of_decide_eq_true (List.all_eq_true.1 h _ (List.getElem_mem ha))
          rw [← HA.out] at h1; omega
        have h1 := Hr.out
        rw [if_neg (by rw [hex_no]; exact Bool.false_ne_true)] at h1
        rw [← h1]
        exact ⟨_, rfl, World.ownsRow_nil _ _ _ _, hb2⟩
      have q5 : ¬ 15 < (a : Int) := by omega
      by_cases hb15 : 15 < b
      · have q6 : 15 < (b : Int) := by omega
        clear ha15 hb15
        go_wp2_with fail
        refine wp_region_plan2 (fun _ => True) 8 [(0, true), (1, true), (2, true), (4, true), (5, true), (6, true), (7, true), (3, false)] (by kernel_rfl) (by kernel_rfl) (fun _ _ d _ _ h => by cases d <;> exact h) (by decide) (by simp only [List.map_cons, List.map_nil, Array.getD_eq_getD_getElem?, List.getElem?_toArray, List.getElem?_cons_zero, List.getElem?_cons_succ, Option.getD_some]; rfl) (by simp only [List.map_cons, List.map_nil]; rfl) (trivial) (fun PE hPE => ?_)
        refine plan_take (v := ?_) rfl (by rfl) ?_ ?_
        rotate_left
        · intro _ hSw; (try dsimp only at hSw); go_simp; (try with_reducible rfl)
        simp only [List.setIfInBounds_toArray, List.set_cons_zero, List.set_cons_succ]
        refine plan_take (v := ?_) rfl (by rfl) ?_ ?_
        rotate_left
        · intro _ hSw; (try dsimp only at hSw); go_simp; (try with_reducible rfl)
        simp only [List.setIfInBounds_toArray, List.set_cons_zero, List.set_cons_succ]
        refine plan_take (v := ?_) rfl (by rfl) ?_ ?_
        rotate_left
        · intro _ hSw; (try dsimp only at hSw); go_simp; (try with_reducible rfl)
        simp only [List.setIfInBounds_toArray, List.set_cons_zero, List.set_cons_succ]
        refine plan_take (v := ?_) rfl (by rfl) ?_ ?_
        rotate_left
        · intro _ hSw; (try dsimp only at hSw); go_simp; (try with_reducible rfl)
        simp only [List.setIfInBounds_toArray, List.set_cons_zero, List.set_cons_succ]
        refine plan_take (v := ?_) rfl (by rfl) ?_ ?_
        rotate_left
        · intro _ hSw; (try dsimp only at hSw); go_simp; (try with_reducible rfl)
        simp only [List.setIfInBounds_toArray, List.set_cons_zero, List.set_cons_succ]
        refine plan_take (v := ?_) rfl (by rfl) ?_ ?_
        rotate_left
        · intro _ hSw; (try dsimp only at hSw); go_simp; (try with_reducible rfl)
        simp only [List.setIfInBounds_toArray, List.set_cons_zero, List.set_cons_succ]
        refine plan_take (v := ?_) rfl (by rfl) ?_ ?_
        rotate_left
        · intro _ hSw; (try dsimp only at hSw); go_simp; (try with_reducible rfl)
        simp only [List.setIfInBounds_toArray, List.set_cons_zero, List.set_cons_succ]
        refine plan_call rfl (by rfl) (by first | (go_simp; done) | (go_simp; rfl)) (C1.out _) ?_
        rintro e w' ⟨rfl, rfl⟩
        refine ⟨_, rfl, trivial, ?_⟩
        simp only [List.setIfInBounds_toArray, List.set_cons_zero, List.set_cons_succ]
        (refine hPE _ _ ?_; simp only [List.drop_succ_cons, List.drop_zero]; clear hPE PE)
        have hb2 := hb.drew
        have Ho2 := Lib.hid Ho.out.drew
        go_wp2_with (go_at_call 51; refine (C2.out _).mono ?_; rintro e w' ⟨rfl, rfl⟩)
        go_ret2
        have hex_no : s.all isHex = false := by
          rw [Bool.eq_false_iff]; intro h
          have h1 := of_decide_eq_true (List.all_eq_true.1 h _ (List.getElem_mem hbb))
          rw [← HB.out] at h1; omega
        have h1 := Hr.out
        rw [if_neg (by rw [hex_no]; exact Bool.false_ne_true)] at h1
        rw [← h1]
        exact ⟨_, rfl, World.ownsRow_nil _ _ _ _, hb2⟩
      have q6 : ¬ 15 < (b : Int) := by omega
      obtain ⟨x, hx⟩ : ∃ x, x = 16 * a + b := ⟨_, rfl⟩
      have hx1 : 16 * (a : Int) + (b : Int) = (x : Int) := by omega
      have hx2 : (16 * (a : Int)) + (b : Int) < 256 := by omega
      have hx3 : IntKind.u8.wrap (x : Int) = (x : Int) := u8_in _ (by omega) (by omega)
      have hx4 : IntKind.i64.wrap (16 * (a : Int)) = 16 * (a : Int) := by rw [IntKind.wrap_i64]; omega
      have hx5 : IntKind.i64.wrap (16 * (a : Int) + (b : Int)) = (x : Int) := by rw [IntKind.wrap_i64]; omega
      have hp : byteV (pairN s j) = .int .u8 (x : Int) := by
        have h1 := Hi.out; have h2 := Hi2.out
        unfold byteV pairN
        rw [← h1, ← h2, List.getD, List.getD, List.getElem?_eq_getElem ha, List.getElem?_eq_getElem hbb]
        simp only [Option.getD_some]
        rw [← HA.out, ← HB.out, ← hx]
        rw [UInt8.toNat_ofNat', Nat.mod_eq_of_lt (by omega)]
      have Hp := Lib.hid hp
      have hx256 : x < 256 := by omega
      clear ha15 hb15 hx hp
      go_wp2_with fail
      refine wp_region_plan2 (fun _ => True) 8 [(0, true), (1, true), (2, true), (4, true), (5, true), (6, true), (7, true), (3, false)] (by kernel_rfl) (by kernel_rfl) (fun _ _ d _ _ h => by cases d <;> exact h) (by decide) (by simp only [List.map_cons, List.map_nil, Array.getD_eq_getD_getElem?, List.getElem?_toArray, List.getElem?_cons_zero, List.getElem?_cons_succ, Option.getD_some]; rfl) (by simp only [List.map_cons, List.map_nil]; rfl) (trivial) (fun PE hPE => ?_)
      refine plan_take (v := ?_) rfl (by rfl) ?_ ?_
      rotate_left
      · intro _ hSw; (try dsimp only at hSw); go_simp; (try with_reducible rfl)
      simp only [List.setIfInBounds_toArray, List.set_cons_zero, List.set_cons_succ]
      refine plan_take (v := ?_) rfl (by rfl) ?_ ?_
      rotate_left
      · intro _ hSw; (try dsimp only at hSw); go_simp; (try with_reducible rfl)
      simp only [List.setIfInBounds_toArray, List.set_cons_zero, List.set_cons_succ]
      refine plan_take (v := ?_) rfl (by rfl) ?_ ?_
      rotate_left
      · intro _ hSw; (try dsimp only at hSw); go_simp; (try with_reducible rfl)
      simp only [List.setIfInBounds_toArray, List.set_cons_zero, List.set_cons_succ]
      refine plan_take (v := ?_) rfl (by rfl) ?_ ?_
      rotate_left
      · intro _ hSw; (try dsimp only at hSw); go_simp; (try with_reducible rfl)
      simp only [List.setIfInBounds_toArray, List.set_cons_zero, List.set_cons_succ]
      refine plan_take (v := ?_) rfl (by rfl) ?_ ?_
      rotate_left
      · intro _ hSw; (try dsimp only at hSw); go_simp; (try with_reducible rfl)
      simp only [List.setIfInBounds_toArray, List.set_cons_zero, List.set_cons_succ]
      refine plan_take (v := ?_) rfl (by rfl) ?_ ?_
      rotate_left
      · intro _ hSw; (try dsimp only at hSw); go_simp; (try with_reducible rfl)
      simp only [List.setIfInBounds_toArray, List.set_cons_zero, List.set_cons_succ]
      refine plan_take (v := ?_) rfl (by rfl) ?_ ?_
      rotate_left
      · intro _ hSw; (try dsimp only at hSw); go_simp; (try with_reducible rfl)
      simp only [List.setIfInBounds_toArray, List.set_cons_zero, List.set_cons_succ]
      refine plan_call rfl (by rfl) (by first | (go_simp; done) | (go_simp; rfl)) (C1.out _) ?_
      rintro e w' ⟨rfl, rfl⟩
      refine ⟨_, rfl, trivial, ?_⟩
      simp only [List.setIfInBounds_toArray, List.set_cons_zero, List.set_cons_succ]
      (refine hPE _ _ ?_; simp only [List.drop_succ_cons, List.drop_zero]; clear hPE PE)
      have hb2 := hb.drew
      have Ho2 := Lib.hid Ho.out.drew
      have hb3 : Below w.heap.size w ((wr.alloc (.cells #[byteV (pairN s j)] 5)).drew) := (hb.alloc hb.size _).drew
      have Hb3 := Lib.hid hb3
      have HS2 := Lib.hid (show Sl ((wr.alloc (.cells #[byteV (pairN s j)] 5)).drew) (some ⟨wr.heap.size, 0, none⟩) ([pairN s j].map byteV) from ((Blk.new wr 5 #[byteV (pairN s j)]).sl 0).drew)
      have Ho3 := Lib.hid (Ho.out.alloc (.cells #[byteV (pairN s j)] 5)).drew
      rw [Hp.out] at HS2 Ho3 Hb3
      clear hb3
      go_wp2_with (first | (go_at_call 51; refine (C2.out _).mono ?_; rintro e w' ⟨rfl, rfl⟩) | (at_builtin; refine wpList_app etByte rfl rfl rfl Ho3.out rfl (m := 1) (news := [pairN s j].map byteV) rfl HS2.out (byteV_one _) (by have hK2 := Hlen.out; omega) (by have h1 := Hb3.out.size; exact h1) ?_; intro v1 w1 ho1 hg1 _; have Ho1 := Lib.hid ho1; clear ho1; have Hg1 := Lib.hid hg1; clear hg1))
      go_roundg g
      case measure => omega
      case rel =>
        have h1 := Hi.out
        have h2 := Hi2.out
        refine ⟨j + 1, i + 2, Lib.hid (by omega), by omega, ?_, ?_, ?_, Lib.hid ?_⟩
        · congr 1
        · rw [unhexL_succ, List.map_append]
          exact Ho1.out
        · exact below_app Hb3.out Ho3.out Hg1.out Hb3.out.size (Nat.le_refl _)
        · intro k hk
          by_cases hk1 : k < i
          · exact Hd.out k hk1
          · by_cases hk2 : k = i
            · subst hk2
              rw [List.getD, List.getElem?_eq_getElem ha, Option.getD_some, ← HA.out]; omega
            · obtain rfl : k = i2 := by omega
              rw [List.getD, List.getElem?_eq_getElem hbb, Option.getD_some, ← HB.out]; omega
end Go.Proofs.YthcbidbhkikhmaaDoor
