/- Kind, KindO, Apps, PredP -/
import Derived.Test.YtcojnigkgbmbmaaGreatDoorK12
import Derived.Great.BuildSlice
import Derived.Test.YtcojnigkgbmbmaaGreatDoorK09
import Derived.Test.YtcojnigkgbmbmaaGreatDoorK11
namespace Go.Proofs.YtcojnigkgbmbmaaGreatDoor
open Go Go.RowKit
attribute [local go_sem] Oper.semAt_some
def partC (k : Int) : List Value := [.bool (pI k), .bool (pQ k), .bool (pV k), .bool (pF k), .bool (pC k)]
def rowK (j : Nat) : List Value := .string ⟨(kindC.getD j []).toArray⟩ :: partC ((j : Int) + 1)
def tabK : Array Value := #[.string ⟨#[48, 48, 48, 49]⟩, .bool true, .bool false, .bool false, .bool false, .bool false, .string ⟨#[48, 48, 48, 48, 48, 48, 49]⟩, .bool true, .bool true, .bool false, .bool false, .bool false, .string ⟨#[49]⟩, .bool false, .bool false, .bool false, .bool false, .bool true, .string ⟨#[48, 48, 48, 48, 49]⟩, .bool false, .bool true, .bool false, .bool false, .bool true, .string ⟨#[48, 48, 48, 48, 48, 48, 48, 48, 49]⟩, .bool false, .bool false, .bool true, .bool false, .bool false, .string ⟨#[48, 48, 48, 48, 48, 48, 48, 49]⟩, .bool false, .bool false, .bool true, .bool false, .bool true, .string ⟨#[48, 48, 48, 48, 48, 48, 48, 48, 48, 49]⟩, .bool false, .bool true, .bool true, .bool false, .bool true, .string ⟨#[48, 48, 49]⟩, .bool false, .bool false, .bool true, .bool true, .bool false, .string ⟨#[48, 49]⟩, .bool false, .bool false, .bool true, .bool true, .bool true, .string ⟨#[48, 48, 48, 48, 48, 49]⟩, .bool false, .bool true, .bool true, .bool true, .bool true]
def ixV : Value → Int
  | .int _ n => n
  | _ => 0
def prt0 : List Value := [.bool false, .bool false, .bool false, .bool false, .bool false]
theorem tab_ix0 (W : World) : (Instr.index 150 (.agg tabK) (.int .i64 0)).run Tryz.prog W = .ok (.agg (rowK 0).toArray) W := by kernel_rfl
theorem tab_ix1 (W : World) : (Instr.index 150 (.agg tabK) (.int .i64 1)).run Tryz.prog W = .ok (.agg (rowK 1).toArray) W := by kernel_rfl
theorem tab_ix2 (W : World) : (Instr.index 150 (.agg tabK) (.int .i64 2)).run Tryz.prog W = .ok (.agg (rowK 2).toArray) W := by kernel_rfl
theorem tab_ix3 (W : World) : (Instr.index 150 (.agg tabK) (.int .i64 3)).run Tryz.prog W = .ok (.agg (rowK 3).toArray) W := by kernel_rfl
theorem tab_ix4 (W : World) : (Instr.index 150 (.agg tabK) (.int .i64 4)).run Tryz.prog W = .ok (.agg (rowK 4).toArray) W := by kernel_rfl
theorem tab_ix5 (W : World) : (Instr.index 150 (.agg tabK) (.int .i64 5)).run Tryz.prog W = .ok (.agg (rowK 5).toArray) W := by kernel_rfl
theorem tab_ix6 (W : World) : (Instr.index 150 (.agg tabK) (.int .i64 6)).run Tryz.prog W = .ok (.agg (rowK 6).toArray) W := by kernel_rfl
theorem tab_ix7 (W : World) : (Instr.index 150 (.agg tabK) (.int .i64 7)).run Tryz.prog W = .ok (.agg (rowK 7).toArray) W := by kernel_rfl
theorem tab_ix8 (W : World) : (Instr.index 150 (.agg tabK) (.int .i64 8)).run Tryz.prog W = .ok (.agg (rowK 8).toArray) W := by kernel_rfl
theorem tab_ix9 (W : World) : (Instr.index 150 (.agg tabK) (.int .i64 9)).run Tryz.prog W = .ok (.agg (rowK 9).toArray) W := by kernel_rfl
theorem tab_ix : ∀ (j : Nat), j < 10 → ∀ W : World, (Instr.index 150 (.agg tabK) (.int .i64 (j : Int))).run Tryz.prog W = .ok (.agg (rowK j).toArray) W := by
  intro j hj W
  have e : j = 0 ∨ j = 1 ∨ j = 2 ∨ j = 3 ∨ j = 4 ∨ j = 5 ∨ j = 6 ∨ j = 7 ∨ j = 8 ∨ j = 9 := by omega
  rcases e with rfl | rfl | rfl | rfl | rfl | rfl | rfl | rfl | rfl | rfl
  · exact tab_ix0 W
  · exact tab_ix1 W
  · exact tab_ix2 W
  · exact tab_ix3 W
  · exact tab_ix4 W
  · exact tab_ix5 W
  · exact tab_ix6 W
  · exact tab_ix7 W
  · exact tab_ix8 W
  · exact tab_ix9 W
theorem below_setRow' {B g : Nat} {w0 w : World} (hb : Below B w0 w) (hBg : B ≤ g) (cs : Array Value) : Below B w0 (w.setRow g cs) :=
  ⟨hb.os, hb.tape, hb.output, by rw [size_setRow]; exact hb.size, fun k hk => (setRow_other w g k cs (by omega)).trans (hb.block k hk)⟩
def zeroK : Array Value := #[.string ⟨#[]⟩, .bool false, .bool false, .bool false, .bool false, .bool false, .string ⟨#[]⟩, .bool false, .bool false, .bool false, .bool false, .bool false, .string ⟨#[]⟩, .bool false, .bool false, .bool false, .bool false, .bool false, .string ⟨#[]⟩, .bool false, .bool false, .bool false, .bool false, .bool false, .string ⟨#[]⟩, .bool false, .bool false, .bool false, .bool false, .bool false, .string ⟨#[]⟩, .bool false, .bool false, .bool false, .bool false, .bool false, .string ⟨#[]⟩, .bool false, .bool false, .bool false, .bool false, .bool false, .string ⟨#[]⟩, .bool false, .bool false, .bool false, .bool false, .bool false, .string ⟨#[]⟩, .bool false, .bool false, .bool false, .bool false, .bool false, .string ⟨#[]⟩, .bool false, .bool false, .bool false, .bool false, .bool false]
set_option maxRecDepth 100000 in
set_option maxHeartbeats 2000000 in
theorem kind_table (w : World) : Calls Tryz.prog 124 #[] w fun e w' => e = .returned (.agg tabK) ∧ Below w.heap.size w w' := by
  have hn : (w.alloc (.cells zeroK 150)).heap[w.heap.size]? = some (.cells zeroK 150 (0, 0)) := heap_alloc_new w _
  have HN := Lib.hid hn
  clear hn
  go_enter Tryz.func124, Tryz.ntmps124
  go_wp2_with (refine wpList_store_rowTo rfl 150 _ _ rfl rfl w.heap.size tabK rfl rfl 150 zeroK HN.out rfl rfl (by kernel_rfl) ?_)
  have hrow := HN.out
  have hbe : Below w.heap.size w (w.alloc (.cells zeroK 150)) := (Below.refl _ _).alloc (Nat.le_refl _) _
  refine bodyPost_ret (results_cell_row rfl _ _ w.heap.size 150 tabK (0, 0) _ rfl (setRow_heap _ _ zeroK tabK _ _ hrow) Tryz.underlying150 rfl (by kernel_rfl)) rfl ⟨rfl, ?_⟩
  exact below_setRow' hbe (Nat.le_refl _) tabK
theorem kind_all (w : World) : Calls Tryz.prog 88 #[] w fun e w' => e = .returned (.func (.func 123) #[] #[]) ∧ w = w' := by
  go_enter Tryz.func88, Tryz.ntmps88
  go_wp2
  go_ret
  exact ⟨rfl, rfl⟩
def encK (j : Nat) : Array Value := #[.int .i64 ((j : Int) + 1), .agg (rowK j).toArray]
theorem encK_eq (j : Nat) : encK j = #[.int .i64 ((j : Int) + 1), .agg #[.string (bs (kindC.getD j [])), .bool (pI ((j : Int) + 1)), .bool (pQ ((j : Int) + 1)), .bool (pV ((j : Int) + 1)), .bool (pF ((j : Int) + 1)), .bool (pC ((j : Int) + 1))]] := rfl
theorem range_pre {n : Nat} {pre : List Nat} {x : Nat} (h : pre ++ [x] <+: List.range n) : pre = List.range pre.length ∧ x = pre.length ∧ pre.length < n := by
  have h1 := h.length_le
  rw [List.length_range] at h1
  simp at h1
  have h2 : pre <+: List.range n := (List.prefix_append _ _).trans h
  have h3 := List.prefix_iff_eq_take.1 h2
  rw [List.take_range, Nat.min_eq_left (by omega)] at h3
  refine ⟨h3, ?_, by omega⟩
  have h4 := List.prefix_iff_eq_take.1 h
  rw [List.take_range, List.length_append, Nat.min_eq_left (by simp; omega)] at h4
  have h5 : (pre ++ [x])[pre.length]? = (List.range (pre.length + [x].length))[pre.length]? := by rw [← h4]
  simpa [List.getElem?_range] using h5
theorem range_snoc (n k : Nat) (h : k < n) : List.range k ++ [k] <+: List.range n := by
  have e : List.range k ++ [k] = (List.range n).take (k + 1) := by rw [List.take_range, Nat.min_eq_left (by omega), List.range_succ]
  rw [e]; exact List.take_prefix _ _
set_option maxRecDepth 100000 in
set_option maxHeartbeats 2000000 in
theorem kall_seq (n : Nat) (hn : 1 ≤ n) (I : List Nat → World → Prop) (hI : ∀ pre A B, I pre A → Below A.heap.size A B → I pre B) :
    SeqU Fence.wide n Tryz.prog 123 #[] encK I I (fun xs => xs = List.range 10) (fun pre => pre <+: List.range 10) := by
  intro lp K Jx W hK hY h0 hk0
  refine callsIn_of_wp Tryz.func123 rfl trivial ?_ rfl
  simp only [Tryz.ntmps123, List.size_toArray, List.length_cons, List.length_nil, Nat.reduceAdd, Nat.reduceSub, Array.replicate_succ, Array.replicate_zero, List.push_toArray, List.append_toArray, List.nil_append, List.cons_append]
  have HY := Lib.hid hY; have HI := Lib.hid hI; have HK := Lib.hid hK; have H0 := Lib.hid h0; have HK0 := Lib.hid hk0
  clear hY hI hK h0 hk0
  obtain ⟨TB, htb⟩ : ∃ TB, TB = tabK := ⟨_, rfl⟩
  have hix : ∀ (j : Nat), j < 10 → ∀ W : World, (Instr.index 150 (.agg TB) (.int .i64 (j : Int))).run Tryz.prog W = .ok (.agg (rowK j).toArray) W := by rw [htb]; exact tab_ix
  have HIX := Lib.hid hix
  have CT := Lib.hid (fun W => kind_table W)
  rw [← htb] at CT
  clear hix htb
  gi_wp2_with (refine ⟨trivial, ?_⟩; gi_at_call 124; refine (callsIn_wide.2 (CT.out _)).mono ?_; rintro e w1 ⟨rfl, hb1⟩; have HB1 := Lib.hid hb1; clear hb1)
  gi_loopw [5] (fun v wr => ∃ j : Nat, v = .int .i64 (j : Int) ∧ j ≤ 10 ∧ Hid (I (List.range j) wr) ∧ Hid (K wr)) (fun v _ => 10 - (ixV v).toNat)
  case atStart =>
    exact ⟨0, rfl, by omega, Lib.hid (HI.out _ _ _ H0.out HB1.out), Lib.hid (HK.out.below HK0.out HB1.out)⟩
  case round =>
    obtain ⟨j, rfl, hj, HIj, HKj⟩ := hrel
    by_cases hlt : j < 10
    · have hlti : (j : Int) < 10 := by omega
      have hji : ¬ ((j : Int) < 0) := by omega
      have hw1 : IntKind.i64.wrap ((j : Int) + 1) = (j : Int) + 1 := by rw [IntKind.wrap_i64]; omega
      have ix := HIX.out j hlt
      have hsp : List.range j ++ [j] <+: List.range 10 := range_snoc 10 j hlt
      obtain ⟨sc, hsc⟩ : ∃ sc, sc = (kindC.getD j []) := ⟨_, rfl⟩
      obtain ⟨p1, hp1⟩ : ∃ p, p = pI ((j : Int) + 1) := ⟨_, rfl⟩
      obtain ⟨p2, hp2⟩ : ∃ p, p = pQ ((j : Int) + 1) := ⟨_, rfl⟩
      obtain ⟨p3, hp3⟩ : ∃ p, p = pV ((j : Int) + 1) := ⟨_, rfl⟩
      obtain ⟨p4, hp4⟩ : ∃ p, p = pF ((j : Int) + 1) := ⟨_, rfl⟩
      obtain ⟨p5, hp5⟩ : ∃ p, p = pC ((j : Int) + 1) := ⟨_, rfl⟩
      have hrow : rowK j = [.string ⟨sc.toArray⟩, .bool p1, .bool p2, .bool p3, .bool p4, .bool p5] := by rw [hsc, hp1, hp2, hp3, hp4, hp5]; rfl
      have henc : encK j = #[.int .i64 ((j : Int) + 1), .agg #[.string ⟨sc.toArray⟩, .bool p1, .bool p2, .bool p3, .bool p4, .bool p5]] := by unfold encK; rw [hrow]
      rw [hrow] at ix
      have hyy := fun W1 (h1 : I (List.range j) W1) (h2 : K W1) => HY.out (List.range j) j W1 h1 h2 hsp
      rw [henc] at hyy
      have HB2 : Hid (Below wr.heap.size wr (wr.alloc (.cells #[.string ⟨sc.toArray⟩, .bool p1, .bool p2, .bool p3, .bool p4, .bool p5] 117))) := Lib.hid ((Below.refl _ _).alloc (Nat.le_refl _) _)
      obtain ⟨fn, tmps, assign, body, hy, hR⟩ := hyy _ (HI.out _ _ _ HIj.out HB2.out) (HK.out.below HKj.out HB2.out)
      have HR := Lib.hid hR; have HSP := Lib.hid hsp
      clear hR hyy henc hrow hsp hsc hp1 hp2 hp3 hp4 hp5 hj
      gi_wp2_with fail
      refine HR.out.mono ?_
      rintro e W3 (⟨rfl, hI3, hk3⟩ | ⟨rfl, hJx3⟩)
      · gi_wp2_with fail
        refine ⟨⟨j + 1, by simp, by omega, Lib.hid (by rw [List.range_succ]; exact hI3), Lib.hid hk3⟩, ?_⟩
        show 10 - ((j : Int) + 1).toNat < 10 - (j : Int).toNat
        omega
      · gi_wp2_with fail
        refine bodyPost_ret (results_none rfl _ _ _) rfl ?_
        exact ⟨⟨_, rfl⟩, .inr ⟨_, HSP.out, hJx3⟩⟩
    · have hje : j = 10 := by omega
      subst hje
      gi_wp2_with fail
      refine bodyPost_end (results_none rfl _ _ _) rfl ?_
      exact ⟨⟨_, rfl⟩, .inl ⟨_, rfl, HIj.out, HKj.out⟩⟩
end Go.Proofs.YtcojnigkgbmbmaaGreatDoor
namespace Go.Proofs.YtcojnigkgbmbmaaGreatDoor
open Go Go.RowKit
attribute [local go_sem] Oper.semAt_some
def OfP (k : Int) (pre : List Nat) (_ : Unit) : Prop := ∀ j ∈ pre, (j : Int) + 1 ≠ k
def OfL (h : Nat) (k : Int) : List CellF := [(h, 3, #[.int .i64 k]), (h + 1, 59, prt0.toArray), (h + 2, 30, #[.int .i64 0])]
def ofV (k : Int) : List Value := if inK k then partC k else prt0
def ofE (k : Int) : Int := if inK k then 0 else 18
theorem ofV_eq (k : Int) : ∃ a b c d e, ofV k = [.bool a, .bool b, .bool c, .bool d, .bool e] := by
  unfold ofV
  split
  · exact ⟨_, _, _, _, _, rfl⟩
  · exact ⟨_, _, _, _, _, rfl⟩
set_option maxRecDepth 100000 in
set_option maxHeartbeats 4000000 in
theorem kind_Of (k : Int) (w : World) : Calls Tryz.prog 47 #[.int .i64 k] w fun e w' => e = .returned (.tuple #[.agg (ofV k).toArray, .int .i64 (ofE k)]) ∧ Below w.heap.size w w' := by
  refine (callsIn_wide (n := 5)).1 ?_
  refine callsIn_of_wp_marks Tryz.func47 rfl trivial ?_ rfl
  simp only [Tryz.ntmps47, List.size_toArray, List.length_cons, List.length_nil, Nat.reduceAdd, Nat.reduceSub, Array.replicate_succ, Array.replicate_zero, List.push_toArray, List.append_toArray, List.nil_append, List.cons_append]
  refine wpIn_wide.2 ?_
  go_wp2_with (go_at_call 88; refine (kind_all _).mono ?_; rintro e w' ⟨rfl, rfl⟩)
  simp only [Nat.add_assoc, Nat.reduceAdd]
  refine (wpIn_wide (n := 5)).1 ?_
  refine wp_uF (α := Nat) (enc := encK) (I := ICons w (OfP k) (fun _ _ => OfL w.heap.size k) (fun _ _ => [])) (I2 := ICons w (OfP k) (fun _ _ => OfL w.heap.size k) (fun _ _ => [])) (S := fun xs => xs = List.range 10) (Sp := fun pre => pre <+: List.range 10)
    rfl (by decide) (gf := 123) (lb := #[]) rfl trivial (enters_of Tryz.func123 (by kernel_rfl) rfl)
    (kall_seq 4 (by decide) _ ic_below) (fun _ => rfl)
    (fun cd _ W => RetC w [(w.heap.size + 1, 59, (ofV k).toArray), (w.heap.size + 2, 30, #[.int .i64 (ofE k)])] cd W)
    (fun pre x g W => ICons w (OfP k) (fun _ _ => (g, 117, (rowK x).toArray) :: OfL w.heap.size k) (fun _ _ => []) pre W)
    (own_ic (by simp; omega) _ _ _) (own_ic (by simp; omega) _ _ _) (fun cd => own_retC (by simp; omega) _ _) (fun x g => own_ic (by simp; omega) _ _ _) ?start ?round ?done ?stop
  case start =>
    refine ⟨⟨(), (fun j hj => by cases hj), ?_, ?_, rowsAt_nil _⟩⟩
    · exact (((Below.refl _ _).alloc (Nat.le_refl _) _).alloc (by simp) _).alloc (by simp; omega) _
    · unfold OfL
      refine CellsAt.cons ?_ (CellsAt.cons ?_ (CellsAt.cons ?_ (cellsAt_nil _)))
      all_goals (repeat (first | (refine blkAt (Blk.new _ _ _) ?_; simp [World.size_alloc]; done) | refine Blk.alloc ?_ _))
  case round =>
    apply Exists.intro
    refine And.intro ?_ ?_
    · rintro lp pre x W ⟨⟨u, hu, hc⟩⟩ hsp
      have HU := Lib.hid hu; have HC := Lib.hid hc
      clear hu hc
      rw [encK_eq]
      gi_wp2
      obtain ⟨g0, hg0⟩ : ∃ g0, W.heap.size = g0 := ⟨_, rfl⟩
      have hcc := cons_cell (cons_alloc HC.out (.cells (rowK x).toArray 117)) (blkAt (Blk.new W 117 (rowK x).toArray) hg0)
      rw [hg0]
      exact ⟨⟨g0, rfl, ⟨u, HU.out, hcc⟩⟩, kf_alloc (KeepsFrom.refl _ _) _⟩
    · rintro lp pre x g W ⟨⟨u, hu, hc⟩⟩ hsp
      obtain ⟨hpr, hx, hxl⟩ := range_pre hsp
      obtain ⟨B0, hc0⟩ : Blk W g 117 (rowK x).toArray ∧ CellsAt (OfL w.heap.size k) W := ⟨hc.2.1.head, hc.2.1.tail⟩
      unfold OfL at hc0
      have x0 := hc0.head.cell 0
      have d1 : W.cell? ⟨g, 1, none⟩ = some (.bool (pI ((x : Int) + 1))) := by rw [B0.cell]; rfl
      have d2 : W.cell? ⟨g, 2, none⟩ = some (.bool (pQ ((x : Int) + 1))) := by rw [B0.cell]; rfl
      have d3 : W.cell? ⟨g, 3, none⟩ = some (.bool (pV ((x : Int) + 1))) := by rw [B0.cell]; rfl
      have d4 : W.cell? ⟨g, 4, none⟩ = some (.bool (pF ((x : Int) + 1))) := by rw [B0.cell]; rfl
      have d5 : W.cell? ⟨g, 5, none⟩ = some (.bool (pC ((x : Int) + 1))) := by rw [B0.cell]; rfl
      have b1 := hc0.tail.head
      have b2 := hc0.tail.tail.head
      dsimp only at b1 b2
      have e0 : W.cell? ⟨w.heap.size + 1, 0, none⟩ = some (.bool false) := by rw [b1.cell]; rfl
      have e1 : W.cell? ⟨w.heap.size + 1, 1, none⟩ = some (.bool false) := by rw [b1.cell]; rfl
      have e2 : W.cell? ⟨w.heap.size + 1, 2, none⟩ = some (.bool false) := by rw [b1.cell]; rfl
      have e3 : W.cell? ⟨w.heap.size + 1, 3, none⟩ = some (.bool false) := by rw [b1.cell]; rfl
      have e4 : W.cell? ⟨w.heap.size + 1, 4, none⟩ = some (.bool false) := by rw [b1.cell]; rfl
      have f0 := b1.frozen 0
      have f1 := b1.frozen 1
      have f2 := b1.frozen 2
      have f3 := b1.frozen 3
      have f4 := b1.frozen 4
      have h0 := b2.cell 0
      have h1 := b2.frozen 0
      have HC := Lib.hid hc; have HU := Lib.hid hu; have HB1 := Lib.hid b1; have HB2 := Lib.hid b2; have HXL := Lib.hid hxl; have HX := Lib.hid hx
      clear hc hu hc0 b1 b2 B0 hpr hx hxl hsp
      by_cases hk : (x : Int) + 1 = k
      · have hkb : ((x : Int) + 1 == k) = true := by simpa using hk
        have HKE := Lib.hid hk
        clear hk
        gi_wp2_with fail
        have hin : inK k = true := by have := HXL.out; have := HKE.out; have := HX.out; simp [inK]; omega
        have hc := HC.out
        refine ⟨?_, rfl, ?_, ?_, rowsAt_nil _⟩
        · exact kf_set (kf_set (kf_set (kf_set (kf_set (kf_set (KeepsFrom.refl _ _) _ _) _ _) _ _) _ _) _ _) _ _
        · exact (((((hc.1.setCell (p := ⟨w.heap.size + 1, 0, none⟩) (by show w.heap.size ≤ _; simp) _).setCell (p := ⟨w.heap.size + 1, 1, none⟩) (by show w.heap.size ≤ _; simp) _).setCell (p := ⟨w.heap.size + 1, 2, none⟩) (by show w.heap.size ≤ _; simp) _).setCell (p := ⟨w.heap.size + 1, 3, none⟩) (by show w.heap.size ≤ _; simp) _).setCell (p := ⟨w.heap.size + 1, 4, none⟩) (by show w.heap.size ≤ _; simp) _).setCell (p := ⟨w.heap.size + 2, 0, none⟩) (by show w.heap.size ≤ _; simp) _
        · unfold ofV ofE
          rw [if_pos hin, if_pos hin, ← HKE.out]
          refine CellsAt.cons ?_ (CellsAt.cons ?_ (cellsAt_nil _))
          · exact (((((HB1.out.set_ 0 _).set_ 1 _).set_ 2 _).set_ 3 _).set_ 4 _).far (p := ⟨w.heap.size + 2, 0, none⟩) (by simp) _
          · exact (((((HB2.out.far (p := ⟨w.heap.size + 1, 0, none⟩) (by simp) _).far (p := ⟨w.heap.size + 1, 1, none⟩) (by simp) _).far (p := ⟨w.heap.size + 1, 2, none⟩) (by simp) _).far (p := ⟨w.heap.size + 1, 3, none⟩) (by simp) _).far (p := ⟨w.heap.size + 1, 4, none⟩) (by simp) _).set_ 0 _
      · have hkb : ((x : Int) + 1 == k) = false := by simpa using hk
        have HKE := Lib.hid hk
        clear hk
        gi_wp2_with fail
        refine ⟨KeepsFrom.refl _ _, trivial, ⟨(), ?_, cons_drop HC.out⟩⟩
        intro j hj
        rcases List.mem_append.1 hj with hj | hj
        · exact HU.out j hj
        · rw [List.mem_singleton] at hj; rw [hj]; exact HKE.out
  case done =>
    rintro D xs W hD rfl ⟨u, hu, hc⟩ hK
    have hin : inK k = false := by
      cases h : inK k with
      | false => rfl
      | true =>
        simp [inK] at h
        exact absurd (by omega) (hu (k - 1).toNat (List.mem_range.2 (by omega)))
    have hcs := hc.2.1
    unfold OfL at hcs
    have b1 := hcs.tail.head
    have b2 := hcs.tail.tail.head
    dsimp only at b1 b2
    have e0 : W.cell? ⟨w.heap.size + 1, 0, none⟩ = some (.bool false) := by rw [b1.cell]; rfl
    have e1 : W.cell? ⟨w.heap.size + 1, 1, none⟩ = some (.bool false) := by rw [b1.cell]; rfl
    have e2 : W.cell? ⟨w.heap.size + 1, 2, none⟩ = some (.bool false) := by rw [b1.cell]; rfl
    have e3 : W.cell? ⟨w.heap.size + 1, 3, none⟩ = some (.bool false) := by rw [b1.cell]; rfl
    have e4 : W.cell? ⟨w.heap.size + 1, 4, none⟩ = some (.bool false) := by rw [b1.cell]; rfl
    have f0 := b1.frozen 0
    have f1 := b1.frozen 1
    have f2 := b1.frozen 2
    have f3 := b1.frozen 3
    have f4 := b1.frozen 4
    have h0 := b2.cell 0
    have h1 := b2.frozen 0
    have HIN := Lib.hid hin; have HK := Lib.hid hK; have HB1 := Lib.hid b1; have HB2 := Lib.hid b2; have HBe := Lib.hid hc.1
    clear hin hK b1 b2 hcs hc hu
    gi_wp2_with fail
    go_wp2_with fail
    have hDp : D ≠ w.heap.size + 1 ∧ D ≠ w.heap.size + 2 := by simp at hD; omega
    generalize hW2 : ((((((W.setCell ⟨w.heap.size + 1, 0, none⟩ (.bool false)).setCell ⟨w.heap.size + 1, 1, none⟩ (.bool false)).setCell ⟨w.heap.size + 1, 2, none⟩ (.bool false)).setCell ⟨w.heap.size + 1, 3, none⟩ (.bool false)).setCell ⟨w.heap.size + 1, 4, none⟩ (.bool false)).setCell ⟨w.heap.size + 2, 0, none⟩ (.int .i64 18)) = W2
    have hK2 : W2.heap[D]? = some (.deferred (some [])) := by
      rw [← hW2, Below.heap_setCell _ ⟨w.heap.size + 2, 0, none⟩ _ D hDp.2, Below.heap_setCell _ ⟨w.heap.size + 1, 4, none⟩ _ D hDp.1, Below.heap_setCell _ ⟨w.heap.size + 1, 3, none⟩ _ D hDp.1, Below.heap_setCell _ ⟨w.heap.size + 1, 2, none⟩ _ D hDp.1, Below.heap_setCell _ ⟨w.heap.size + 1, 1, none⟩ _ D hDp.1, Below.heap_setCell _ ⟨w.heap.size + 1, 0, none⟩ _ D hDp.1]
      exact HK.out
    have hc2 : CellsAt [(w.heap.size + 1, 59, (ofV k).toArray), (w.heap.size + 2, 30, #[.int .i64 (ofE k)])] W2 := by
      rw [← hW2]
      unfold ofV ofE
      rw [if_neg (by rw [HIN.out]; decide), if_neg (by rw [HIN.out]; decide)]
      refine CellsAt.cons ?_ (CellsAt.cons ?_ (cellsAt_nil _))
      · exact (((((HB1.out.set_ 0 _).set_ 1 _).set_ 2 _).set_ 3 _).set_ 4 _).far (p := ⟨w.heap.size + 2, 0, none⟩) (by simp) _
      · exact (((((HB2.out.far (p := ⟨w.heap.size + 1, 0, none⟩) (by simp) _).far (p := ⟨w.heap.size + 1, 1, none⟩) (by simp) _).far (p := ⟨w.heap.size + 1, 2, none⟩) (by simp) _).far (p := ⟨w.heap.size + 1, 3, none⟩) (by simp) _).far (p := ⟨w.heap.size + 1, 4, none⟩) (by simp) _).set_ 0 _
    have hb2 : Below w.heap.size w W2 := by
      rw [← hW2]
      exact (((((HBe.out.setCell (p := ⟨w.heap.size + 1, 0, none⟩) (by show w.heap.size ≤ _; simp) _).setCell (p := ⟨w.heap.size + 1, 1, none⟩) (by show w.heap.size ≤ _; simp) _).setCell (p := ⟨w.heap.size + 1, 2, none⟩) (by show w.heap.size ≤ _; simp) _).setCell (p := ⟨w.heap.size + 1, 3, none⟩) (by show w.heap.size ≤ _; simp) _).setCell (p := ⟨w.heap.size + 1, 4, none⟩) (by show w.heap.size ≤ _; simp) _).setCell (p := ⟨w.heap.size + 2, 0, none⟩) (by show w.heap.size ≤ _; simp) _
    clear hW2
    have hc4 := cells_put (o' := .deferred none) hc2 hK2 rfl
    have hb4 := below_put (o := .deferred none) hb2 (D := D) (by simp at hD; omega)
    obtain ⟨a, b, c, d, e, hv⟩ := ofV_eq k
    rw [hv] at hc4 ⊢
    have q0 := hc4.head.cell 0
    have q1 := hc4.head.cell 1
    have q2 := hc4.head.cell 2
    have q3 := hc4.head.cell 3
    have q4 := hc4.head.cell 4
    have q5 := hc4.tail.head.cell 0
    simp only [List.getElem?_toArray, List.getElem?_cons_zero, List.getElem?_cons_succ] at q0 q1 q2 q3 q4 q5
    refine retM hK2 (v := .tuple #[.agg #[.bool a, .bool b, .bool c, .bool d, .bool e], .int .i64 (ofE k)]) ?_ ?_
    · simp [results, Tryz.results47, go_sem, q0, q1, q2, q3, q4, q5]
    · exact ⟨rfl, hb4⟩
  case stop =>
    rintro D cd pre W hD hsp ⟨rfl, hbel, hcs, _⟩ hK
    have HBel := Lib.hid hbel; have HCS := Lib.hid hcs; have HK := Lib.hid hK
    clear hbel hcs hK hsp
    gi_wp2_with fail
    have hc4 := cells_put (o' := .deferred none) HCS.out HK.out rfl
    have hb4 := below_put (o := .deferred none) HBel.out (D := D) (by simp at hD; omega)
    obtain ⟨a, b, c, d, e, hv⟩ := ofV_eq k
    rw [hv] at hc4 ⊢
    have q0 := hc4.head.cell 0
    have q1 := hc4.head.cell 1
    have q2 := hc4.head.cell 2
    have q3 := hc4.head.cell 3
    have q4 := hc4.head.cell 4
    have q5 := hc4.tail.head.cell 0
    simp only [List.getElem?_toArray, List.getElem?_cons_zero, List.getElem?_cons_succ] at q0 q1 q2 q3 q4 q5
    refine retM HK.out (v := .tuple #[.agg #[.bool a, .bool b, .bool c, .bool d, .bool e], .int .i64 (ofE k)]) ?_ ?_
    · simp [results, Tryz.results47, go_sem, q0, q1, q2, q3, q4, q5]
    · exact ⟨rfl, hb4⟩
end Go.Proofs.YtcojnigkgbmbmaaGreatDoor
namespace Go.Proofs.YtcojnigkgbmbmaaGreatDoor
open Go Go.RowKit
theorem cons_app2 {w W W' : World} {L : List CellF} {R : List RowF} {base e size n m : Nat} {v v' : Value} {xs ys : List Value} (hc : Cons w L (⟨base, e, size, v, n, xs⟩ :: R) W) (hg : W.grownBy W' v.ownBlock) (ho : W'.ownsRow base e size v' m ys)
    (hb : w.heap.size ≤ base) (hL : ∀ p ∈ L, p.2.1 ≠ e ∨ p.1 < base) (hR : ∀ r ∈ R, r.e ≠ e) : Cons w L (⟨base, e, size, v', m, ys⟩ :: R) W' ∧ ∀ g t cs, Blk W g t cs → t ≠ e → Blk W' g t cs :=
  ⟨cons_app hc hg ho hb hL hR, fun _ _ _ h ht => h.grown hg (own_blk_ne hc.2.2.head h (Ne.symm ht))⟩
section
variable {P : Program} {t e size bytes : Nat} {w W : World} {L : List CellF} {R : List RowF} {base n : Nat} {m : Nat} {v : Value} {xs news : List Value} {nb c : Nat}
theorem tree_appB (et : ElemT P t e size bytes) {dsts : List (Option Tmp)} {E : Act → World → Prop} {S : World → Prop} {r : PlnO} {tmps : Array Value} {defers : List Deferred} {o : Oper} {d : Nat} {s x : Operand} (hd : o.dst = some d) (hw : wanted2 o dsts tmps = true)
    (ho : o.op = .call { callee := .builtin .append, args := #[s, x], argTypes := #[t, t] }) (hs : Act.eval ⟨tmps, defers⟩ s = v) (hc : Cons w L (⟨base, e, size, v, n, xs⟩ :: R) W) (hx : Act.eval ⟨tmps, defers⟩ x = .slice (some ⟨nb, 0, none⟩) m c) (hnb : Blk W nb e news.toArray)
    (hl : news.length = m * size) (h1 : ∀ u ∈ news, u.oneCell' = true) (hb : (n + m) * bytes ≤ 140737488355328) (hbase : w.heap.size ≤ base ∧ base ≤ W.heap.size) (hL : ∀ p ∈ L, p.2.1 ≠ e ∨ p.1 < base) (hR : ∀ r ∈ R, r.e ≠ e)
    (h : ∀ v' W', Cons w L (⟨base, e, size, v', n + m, xs ++ news⟩ :: R) W' → (∀ g t cs, Blk W g t cs → t ≠ e → Blk W' g t cs) → (∀ B, KeepsFrom B W W') → S W' ∧ wpTreeO P dsts E r S ⟨tmps.setIfInBounds d v', defers⟩ W') :
    StepO P dsts o (fun a' w' => ∃ S' : World → Prop, (∀ w, S' w → S w) ∧ S' w' ∧ wpTreeO P dsts E r S' a' w') ⟨tmps, defers⟩ W := by
  obtain ⟨v', w', hrun, h2, h3, h4⟩ := run_app et o.type (c := c) hc.2.2.head hl (by have := Blk.sl hnb 0; simpa using this) h1 hb hbase.2
  obtain ⟨h5, h6⟩ := cons_app2 hc h3 h2 hbase.1 hL hR
  obtain ⟨h7, h8⟩ := h v' w' h5 h6 (fun B => kf_grown (KeepsFrom.refl B W) h3 (own_cells hc.2.2.head))
  refine tree_value (v := v') (w' := w') hd hw ?_ h7 h8
  unfold execOp
  simp only [ho, resolve, invoke, builtin, Sem.run_bind, Sem.run_pure, Result.andThen_ok, List.map_toArray, List.map_cons, List.map_nil, hs, hx, hrun]
theorem wpList_appB (et : ElemT P t e size bytes) {ops : Array Oper} {Q : Exit → Act → World → Prop} {rest : List Oper} {o : Oper} {a : Act} (hgd : o.guard = none) {s x : Operand}
    (ho : o.op = .call { callee := .builtin .append, args := #[s, x], argTypes := #[t, t] }) (hs : a.eval s = v) (hc : Cons w L (⟨base, e, size, v, n, xs⟩ :: R) W) (hx : a.eval x = .slice (some ⟨nb, 0, none⟩) m c) (hnb : Blk W nb e news.toArray)
    (hl : news.length = m * size) (h1 : ∀ u ∈ news, u.oneCell' = true) (hb : (n + m) * bytes ≤ 140737488355328) (hbase : w.heap.size ≤ base ∧ base ≤ W.heap.size) (hL : ∀ p ∈ L, p.2.1 ≠ e ∨ p.1 < base) (hR : ∀ r ∈ R, r.e ≠ e)
    (h : ∀ v' W', Cons w L (⟨base, e, size, v', n + m, xs ++ news⟩ :: R) W' → (∀ g t cs, Blk W g t cs → t ≠ e → Blk W' g t cs) → (∀ B, KeepsFrom B W W') → wpList P ops Q rest (a.put o.dst v') W') : wpList P ops Q (o :: rest) a W := by
  refine wpList_app et hgd ho hs hc.2.2.head hx hl (by have := Blk.sl hnb 0; simpa using this) h1 hb hbase.2 (fun v' W' h2 h3 _ => ?_)
  obtain ⟨h5, h6⟩ := cons_app2 hc h3 h2 hbase.1 hL hR
  exact h v' W' h5 h6 (fun B => kf_grown (KeepsFrom.refl B W) h3 (own_cells hc.2.2.head))
end
theorem cons_cswap {w W : World} {p q : CellF} {L : List CellF} {R : List RowF} (hc : Cons w (p :: q :: L) R W) : Cons w (q :: p :: L) R W :=
  ⟨hc.1, fun r hr => hc.2.1 r (by simp at hr ⊢; rcases hr with h | h | h; exact .inr (.inl h); exact .inl h; exact .inr (.inr h)), hc.2.2⟩
theorem kf_then' {B : Nat} {A W W' : World} (h : KeepsFrom B A W) (k : KeepsFrom B W W') : KeepsFrom B A W' := h.trans k
/-- while a tree is told: two cells, two rows. -/
def trL (h : Nat) (v1 v2 : Value) : List CellF := [(h, 89, #[v1]), (h + 1, 137, #[v2])]
def trR (h : Nat) (cs : List (List UInt8)) (ns : List Int) (j : Nat) (v1 v2 : Value) : List RowF := [⟨h, 9, 1, v1, j, (cs.take j).map strV⟩, ⟨h, 3, 1, v2, j, (ns.take j).map intV⟩]
def trP (v : Value) : Prop := ∃ A n c, v = .slice A n c
theorem tree_round {w W W9 : World} {cs : List (List UInt8)} {ns : List Int} {j n1 n2 c1 c2 : Nat} {c : List UInt8} {k : Int} {A1 A2 : Option Addr} {o1 o2 : Value} {R : List RowF}
    (hc : Cons w [(w.heap.size, 89, #[o1]), (w.heap.size + 1, 137, #[o2])] (⟨w.heap.size, 3, 1, .slice A2 n2 c2, j + 1, (ns.take j).map intV ++ [intV k]⟩ :: ⟨w.heap.size, 9, 1, .slice A1 n1 c1, j + 1, (cs.take j).map strV ++ [strV c]⟩ :: R) W9) (hk : ∀ B, KeepsFrom B W W9) (B : Nat)
    (h1 : cs.take (j + 1) = cs.take j ++ [c]) (h2 : ns.take (j + 1) = ns.take j ++ [k]) (hR : R = []) :
    KeepsFrom B W ((W9.setCell ⟨w.heap.size, 0, none⟩ (.slice A1 n1 c1)).setCell ⟨w.heap.size + 1, 0, none⟩ (.slice A2 n2 c2)) ∧
    Cons w (trL w.heap.size (.slice A1 n1 c1) (.slice A2 n2 c2)) (trR w.heap.size cs ns (j + 1) (.slice A1 n1 c1) (.slice A2 n2 c2)) ((W9.setCell ⟨w.heap.size, 0, none⟩ (.slice A1 n1 c1)).setCell ⟨w.heap.size + 1, 0, none⟩ (.slice A2 n2 c2)) := by
  subst hR
  refine ⟨kf_set (kf_set (hk B) _ _) _ _, ?_⟩
  unfold trL trR
  rw [h1, h2, List.map_append, List.map_append]
  exact cons_swap (cons_cswap (cons_set (cons_cswap (cons_set hc (Nat.le_refl _) 0 (.slice A1 n1 c1) (by simp) (by simp))) (Nat.le_succ _) 0 (.slice A2 n2 c2) (by simp) (by simp)))
theorem two_get2 {w W : World} {L : List CellF} {b1 b2 : Nat} {cs : List (List UInt8)} {ns : List Int} {v1 v2 : Value} (h : Cons w L [⟨b1, 9, 1, v1, cs.length, cs.map strV⟩, ⟨b2, 3, 1, v2, cs.length, ns.map intV⟩] W) (h1 : 0 < cs.length) : ∃ A B c d, v1 = .slice A cs.length c ∧ v2 = .slice B cs.length d ∧ Sl W A (cs.map strV) ∧ Sl W B (ns.map intV) ∧ Below w.heap.size w W := by
  obtain ⟨g1, c1, e1, _⟩ := own_pos h.2.2.head h1
  obtain ⟨g2, c2, e2, _⟩ := own_pos h.2.2.tail.head h1
  dsimp only at e1 e2
  subst e1 e2
  exact ⟨_, _, _, _, rfl, rfl, own_sl' h.2.2.head, own_sl' h.2.2.tail.head, h.1⟩
end Go.Proofs.YtcojnigkgbmbmaaGreatDoor
namespace Go.Proofs.YtcojnigkgbmbmaaGreatDoor
open Go Go.RowKit
theorem free_get {cs : List (List UInt8)} (h : codesFree cs = true) {i k : Nat} (hi : i < cs.length) (hk : k < cs.length) (hp : cs[k] <+: cs[i]) : i = k := by
  have h1 := List.all_eq_true.1 h i (List.mem_range.2 hi)
  have h2 := List.all_eq_true.1 h1 k (List.mem_range.2 hk)
  have e1 : cs.getD k [] = cs[k] := by simp [List.getD, hk]
  have e2 : cs.getD i [] = cs[i] := by simp [List.getD, hi]
  rw [e1, e2, Bool.or_eq_true] at h2
  rcases h2 with h2 | h2
  · exact beq_iff_eq.1 h2
  · rw [Bool.not_eq_true', ← Bool.not_eq_true, List.isPrefixOf_iff_prefix] at h2
    exact absurd hp h2
theorem free_head {cs : List (List UInt8)} (h : codesFree cs = true) {i k : Nat} (hi : i < cs.length) (hk : k < cs.length) {s t : List UInt8} (he : cs[i] ++ s = cs[k] ++ t) : i = k ∧ s = t := by
  have h1 : cs[i] <+: cs[i] ++ s := ⟨s, rfl⟩
  have h2 : cs[k] <+: cs[i] ++ s := ⟨t, he.symm⟩
  have h3 : i = k := by
    rcases List.prefix_or_prefix_of_prefix h1 h2 with h3 | h3
    · exact (free_get h hk hi h3).symm
    · exact free_get h hi hk h3
  subst h3
  exact ⟨rfl, List.append_cancel_left he⟩
theorem codeAt_get {cs : List (List UInt8)} {lo k : Int} (h1 : lo ≤ k) (h2 : (k - lo).toNat < cs.length) : codeAt cs lo k = some (cs[(k - lo).toNat]) := by
  unfold codeAt
  rw [if_neg (by omega), List.getElem?_eq_getElem h2]
theorem vecC_len : vecC.length = 32 := by kernel_rfl
theorem kindC_len : kindC.length = 10 := by kernel_rfl
theorem patC_len : patC.length = 63 := by kernel_rfl
theorem vecP_get {d : Int} (h1 : -16 ≤ d) (h2 : d ≤ 15) : vecP d = vecC[(d + 16).toNat]'(by rw [vecC_len]; omega) := by
  have h := codeAt_get (cs := vecC) (lo := -16) (k := d) h1 (by rw [vecC_len]; omega)
  unfold vecP
  rw [h, Option.getD_some]
  congr 1
theorem vecP_head {d e : Int} (h1 : -16 ≤ d) (h2 : d ≤ 15) (h3 : -16 ≤ e) (h4 : e ≤ 15) {s t : List UInt8} (h : vecP d ++ s = vecP e ++ t) : d = e ∧ s = t := by
  rw [vecP_get h1 h2, vecP_get h3 h4] at h
  have := free_head vec_free _ _ h
  exact ⟨by omega, this.2⟩
theorem diffP_range (fr to : Int) : -16 ≤ diffP fr to ∧ diffP fr to ≤ 15 := by unfold diffP; omega
theorem diffP_inj {a b to : Int} (ha : partB a = true) (hb : partB b = true) (h : diffP a to = diffP b to) : a = b := by
  simp only [partB, Bool.and_eq_true, decide_eq_true_eq] at ha hb
  unfold diffP at h
  omega
theorem movP_head {a b to : Int} (ha : partB a = true) (hb : partB b = true) {s t : List UInt8} (h : movP a to ++ s = movP b to ++ t) : a = b ∧ s = t := by
  have h1 := diffP_range a to
  have h2 := diffP_range b to
  have h3 := vecP_head h1.1 h1.2 h2.1 h2.2 h
  exact ⟨diffP_inj ha hb h3.1, h3.2⟩
def nearB (x : LastM) (ad : Int) : Bool := x.ad == ad - 1 && x.had && ad != 1 && ad != 12 && ad != 23
theorem near_new (x : LastM) (ad : Int) : newB ad (ad - x.ad) x.had = !nearB x ad := by
  unfold newB nearB
  have h : (ad - x.ad != 1) = !(x.ad == ad - 1) := by
    rw [Bool.eq_iff_iff]; simp; omega
  rw [h]
  simp only [bne]
  cases x.had <;> cases (x.ad == ad - 1) <;> cases (ad == 1) <;> cases (ad == 12) <;> cases (ad == 23) <;> rfl
theorem mputL_same {m : MacM} {x y : LastM} (h : pV m.kd = false ∨ (nearB x m.ad = false ∧ nearB y m.ad = false)) : mputL m x = mputL m y := by
  unfold mputL
  rcases h with h | ⟨h1, h2⟩
  · simp only [h, if_false, Bool.false_eq_true]
  · have e1 : predP m.ad (m.ad - x.ad) x.had x.x x.y = (0, 0) := by unfold predP; rw [near_new, h1]; rfl
    have e2 : predP m.ad (m.ad - y.ad) y.had y.x y.y = (0, 0) := by unfold predP; rw [near_new, h2]; rfl
    simp only [e1, e2]
theorem mputL_iff {m : MacM} {x y : LastM} (hv : pV m.kd = true) (h1 : nearB x m.ad = true) (h2 : nearB y m.ad = true) (hx : aheadB x m.ad = true) (hy : aheadB y m.ad = true) : (mputL m x == mputL m y) = ((x.x == y.x) && (x.y == y.y)) := by
  have e1 : predP m.ad (m.ad - x.ad) x.had x.x x.y = (x.x, x.y) := by unfold predP; rw [near_new, h1]; rfl
  have e2 : predP m.ad (m.ad - y.ad) y.had y.x y.y = (y.x, y.y) := by unfold predP; rw [near_new, h2]; rfl
  simp only [aheadB, Bool.and_eq_true] at hx hy
  rw [Bool.eq_iff_iff, beq_iff_eq, Bool.and_eq_true, beq_iff_eq, beq_iff_eq]
  unfold mputL
  simp only [e1, e2, hv, if_true]
  constructor
  · intro h
    simp only [List.append_assoc] at h
    have h3 := List.append_cancel_left (List.append_cancel_left h)
    have h4 := movP_head hx.1.1.2 hy.1.1.2 h3
    have h5 := movP_head hx.1.2 hy.1.2 h4.2
    exact ⟨h4.1, h5.1⟩
  · rintro ⟨ha, hb⟩
    rw [ha, hb]
end Go.Proofs.YtcojnigkgbmbmaaGreatDoor
