/- Kind, KindO, KindT, Mac1, Scan, ScanP, Spread -/
import Derived.Test.YtcojnigkgbmbmaaGreatDoorR16
import Derived.Great.BuildSlice
import Derived.Test.YtcojnigkgbmbmaaGreatDoorR02
import Derived.Scope
namespace Go.Proofs.YtcojnigkgbmbmaaGreatDoor
open Go Go.RowKit
attribute [local go_sem] Oper.semAt_some
def partC (k : Int) : List Value := [.bool (pI k), .bool (pQ k), .bool (pV k), .bool (pF k), .bool (pC k)]
def rowK (j : Nat) : List Value := .string ⟨(kindC.getD j []).toArray⟩ :: partC ((j : Int) + 1)
def tabK : Array Value := #[.string ⟨#[48, 48, 48, 49]⟩, .bool true, .bool false, .bool false, .bool false, .bool false, .string ⟨#[48, 48, 48, 48, 48, 48, 49]⟩, .bool true, .bool true, .bool false, .bool false, .bool false, .string ⟨#[49]⟩, .bool false, .bool false, .bool false, .bool false, .bool true, .string ⟨#[48, 48, 48, 48, 49]⟩, .bool false, .bool true, .bool false, .bool false, .bool true, .string ⟨#[48, 48, 48, 48, 48, 48, 48, 48, 49]⟩, .bool false, .bool false, .bool true, .bool false, .bool false, .string ⟨#[48, 48, 48, 48, 48, 48, 48, 49]⟩, .bool false, .bool false, .bool true, .bool false, .bool true, .string ⟨#[48, 48, 48, 48, 48, 48, 48, 48, 48, 49]⟩, .bool false, .bool true, .bool true, .bool false, .bool true, .string ⟨#[48, 48, 49]⟩, .bool false, .bool false, .bool true, .bool true, .bool false, .string ⟨#[48, 49]⟩, .bool false, .bool false, .bool true, .bool true, .bool true, .string ⟨#[48, 48, 48, 48, 48, 49]⟩, .bool false, .bool true, .bool true, .bool true, .bool true]
def ixV : Value → Int
  | .int _ n => n
  | _ => 0
def prt0 : List Value := [.bool false, .bool false, .bool false, .bool false, .bool false]
theorem tab_ix0 (W : World) : (Instr.index 150 (.agg tabK) (.int .i64 0)).run Tryz.prog W = .ok (.agg (rowK 0).toArray) W := by kernel_rfl
theorem tab_ix1 (W : World) : (Instr.index 150 (.agg tabK) (.int .i64 1)).run Tryz.prog W = .ok (.agg (rowK 1).toArray) W := by kernel_rfl
theorem tab_ix2 (W : World) : (Instr.index 150 (.agg tabK) (.int .i64 2)).run Tryz.prog W = .ok (.agg (rowK 2).toArray) W := by kernel_rfl
theorem tab_ix3 (W : World) : (Instr.index 150 (.agg tabK) (.int .i64 3)).run Tryz.prog W = .ok (.agg (rowK 3).toArray) W := by kernel_rfl
theorem tab_ix4 (W : World) : (Instr.index 150 (.agg tabK) (.int .i64 4)).run Tryz.prog W = .ok (.agg (rowK 4).toArray) W := by kernel_rfl
theorem tab_ix5 (W : World) : (Instr.index 150 (.agg tabK) (.int .i64 5)).run Tryz.prog W = .ok (.agg (rowK 5).toArray) W := by kernel_rfl
theorem tab_ix6 (W : World) : (Instr.index 150 (.agg tabK) (.int .i64 6)).run Tryz.prog W = .ok (.agg (rowK 6).toArray) W := by kernel_rfl
theorem tab_ix7 (W : World) : (Instr.index 150 (.agg tabK) (.int .i64 7)).run Tryz.prog W = .ok (.agg (rowK 7).toArray) W := by kernel_rfl
theorem tab_ix8 (W : World) : (Instr.index 150 (.agg tabK) (.int .i64 8)).run Tryz.prog W = .ok (.agg (rowK 8).toArray) W := by kernel_rfl
theorem tab_ix9 (W : World) : (Instr.index 150 (.agg tabK) (.int .i64 9)).run Tryz.prog W = .ok (.agg (rowK 9).toArray) W := by kernel_rfl
theorem tab_ix : ∀ (j : Nat), j < 10 → ∀ W : World, (Instr.index 150 (.agg tabK) (.int .i64 (j : Int))).run Tryz.prog W = .ok (.agg (rowK j).toArray) W := by
  intro j hj W
  have e : j = 0 ∨ j = 1 ∨ j = 2 ∨ j = 3 ∨ j = 4 ∨ j = 5 ∨ j = 6 ∨ j = 7 ∨ j = 8 ∨ j = 9 := by omega
  rcases e with rfl | rfl | rfl | rfl | rfl | rfl | rfl | rfl | rfl | rfl
  · exact tab_ix0 W
  · exact tab_ix1 W
  · exact tab_ix2 W
  · exact tab_ix3 W
  · exact tab_ix4 W
  · exact tab_ix5 W
  · exact tab_ix6 W
  · exact tab_ix7 W
  · exact tab_ix8 W
  · exact tab_ix9 W
theorem below_setRow' {B g : Nat} {w0 w : World} (hb : Below B w0 w) (hBg : B ≤ g) (cs : Array Value) : Below B w0 (w.setRow g cs) :=
  ⟨hb.os, hb.tape, hb.output, by rw [size_setRow]; exact hb.size, fun k hk => (setRow_other w g k cs (by omega)).trans (hb.block k hk)⟩
def zeroK : Array Value := #[.string ⟨#[]⟩, .bool false, .bool false, .bool false, .bool false, .bool false, .string ⟨#[]⟩, .bool false, .bool false, .bool false, .bool false, .bool false, .string ⟨#[]⟩, .bool false, .bool false, .bool false, .bool false, .bool false, .string ⟨#[]⟩, .bool false, .bool false, .bool false, .bool false, .bool false, .string ⟨#[]⟩, .bool false, .bool false, .bool false, .bool false, .bool false, .string ⟨#[]⟩, .bool false, .bool false, .bool false, .bool false, .bool false, .string ⟨#[]⟩, .bool false, .bool false, .bool false, .bool false, .bool false, .string ⟨#[]⟩, .bool false, .bool false, .bool false, .bool false, .bool false, .string ⟨#[]⟩, .bool false, .bool false, .bool false, .bool false, .bool false, .string ⟨#[]⟩, .bool false, .bool false, .bool false, .bool false, .bool false]
set_option maxRecDepth 100000 in
set_option maxHeartbeats 2000000 in
theorem kind_table (w : World) : Calls Tryz.prog 124 #[] w fun e w' => e = .returned (.agg tabK) ∧ Below w.heap.size w w' := by
  have hn : (w.alloc (.cells zeroK 150)).heap[w.heap.size]? = some (.cells zeroK 150 (0, 0)) := heap_alloc_new w _
  have HN := Lib.hid hn
  clear hn
  go_enter Tryz.func124, Tryz.ntmps124
  go_wp2_with (refine wpList_store_rowTo rfl 150 _ _ rfl rfl w.heap.size tabK rfl rfl 150 zeroK HN.out rfl rfl (by kernel_rfl) ?_)
  have hrow := HN.out
  have hbe : Below w.heap.size w (w.alloc (.cells zeroK 150)) := (Below.refl _ _).alloc (Nat.le_refl _) _
  refine bodyPost_ret (results_cell_row rfl _ _ w.heap.size 150 tabK (0, 0) _ rfl (setRow_heap _ _ zeroK tabK _ _ hrow) Tryz.underlying150 rfl (by kernel_rfl)) rfl ⟨rfl, ?_⟩
  exact below_setRow' hbe (Nat.le_refl _) tabK
theorem kind_all (w : World) : Calls Tryz.prog 88 #[] w fun e w' => e = .returned (.func (.func 123) #[] #[]) ∧ w = w' := by
  go_enter Tryz.func88, Tryz.ntmps88
  go_wp2
  go_ret
  exact ⟨rfl, rfl⟩
def encK (j : Nat) : Array Value := #[.int .i64 ((j : Int) + 1), .agg (rowK j).toArray]
theorem encK_eq (j : Nat) : encK j = #[.int .i64 ((j : Int) + 1), .agg #[.string (bs (kindC.getD j [])), .bool (pI ((j : Int) + 1)), .bool (pQ ((j : Int) + 1)), .bool (pV ((j : Int) + 1)), .bool (pF ((j : Int) + 1)), .bool (pC ((j : Int) + 1))]] := rfl
theorem range_pre {n : Nat} {pre : List Nat} {x : Nat} (h : pre ++ [x] <+: List.range n) : pre = List.range pre.length ∧ x = pre.length ∧ pre.length < n := by
  have h1 := h.length_le
  rw [List.length_range] at h1
  simp at h1
  have h2 : pre <+: List.range n := (List.prefix_append _ _).trans h
  have h3 := List.prefix_iff_eq_take.1 h2
  rw [List.take_range, Nat.min_eq_left (by omega)] at h3
  refine ⟨h3, ?_, by omega⟩
  have h4 := List.prefix_iff_eq_take.1 h
  rw [List.take_range, List.length_append, Nat.min_eq_left (by simp; omega)] at h4
  have h5 : (pre ++ [x])[pre.length]? = (List.range (pre.length + [x].length))[pre.length]? := by rw [← h4]
  simpa [List.getElem?_range] using h5
theorem range_snoc (n k : Nat) (h : k < n) : List.range k ++ [k] <+: List.range n := by
  have e : List.range k ++ [k] = (List.range n).take (k + 1) := by rw [List.take_range, Nat.min_eq_left (by omega), List.range_succ]
  rw [e]; exact List.take_prefix _ _
set_option maxRecDepth 100000 in
set_option maxHeartbeats 2000000 in
theorem kall_seq (n : Nat) (hn : 1 ≤ n) (I : List Nat → World → Prop) (hI : ∀ pre A B, I pre A → Below A.heap.size A B → I pre B) :
    SeqU Fence.wide n Tryz.prog 123 #[] encK I I (fun xs => xs = List.range 10) (fun pre => pre <+: List.range 10) := by
  intro lp K Jx W hK hY h0 hk0
  refine callsIn_of_wp Tryz.func123 rfl trivial ?_ rfl
  simp only [Tryz.ntmps123, List.size_toArray, List.length_cons, List.length_nil, Nat.reduceAdd, Nat.reduceSub, Array.replicate_succ, Array.replicate_zero, List.push_toArray, List.append_toArray, List.nil_append, List.cons_append]
  have HY := Lib.hid hY; have HI := Lib.hid hI; have HK := Lib.hid hK; have H0 := Lib.hid h0; have HK0 := Lib.hid hk0
  clear hY hI hK h0 hk0
  obtain ⟨TB, htb⟩ : ∃ TB, TB = tabK := ⟨_, rfl⟩
  have hix : ∀ (j : Nat), j < 10 → ∀ W : World, (Instr.index 150 (.agg TB) (.int .i64 (j : Int))).run Tryz.prog W = .ok (.agg (rowK j).toArray) W := by rw [htb]; exact tab_ix
  have HIX := Lib.hid hix
  have CT := Lib.hid (fun W => kind_table W)
  rw [← htb] at CT
  clear hix htb
  gi_wp2_with (refine ⟨trivial, ?_⟩; gi_at_call 124; refine (callsIn_wide.2 (CT.out _)).mono ?_; rintro e w1 ⟨rfl, hb1⟩; have HB1 := Lib.hid hb1; clear hb1)
  gi_loopw [5] (fun v wr => ∃ j : Nat, v = .int .i64 (j : Int) ∧ j ≤ 10 ∧ Hid (I (List.range j) wr) ∧ Hid (K wr)) (fun v _ => 10 - (ixV v).toNat)
  case atStart =>
    exact ⟨0, rfl, by omega, Lib.hid (HI.out _ _ _ H0.out HB1.out), Lib.hid (HK.out.below HK0.out HB1.out)⟩
  case round =>
    obtain ⟨j, rfl, hj, HIj, HKj⟩ := hrel
    by_cases hlt : j < 10
    · have hlti : (j : Int) < 10 := by omega
      have hji : ¬ ((j : Int) < 0) := by omega
      have hw1 : IntKind.i64.wrap ((j : Int) + 1) = (j : Int) + 1 := by rw [IntKind.wrap_i64]; omega
      have ix := HIX.out j hlt
      have hsp : List.range j ++ [j] <+: List.range 10 := range_snoc 10 j hlt
      obtain ⟨sc, hsc⟩ : ∃ sc, sc = (kindC.getD j []) := ⟨_, rfl⟩
      obtain ⟨p1, hp1⟩ : ∃ p, p = pI ((j : Int) + 1) := ⟨_, rfl⟩
      obtain ⟨p2, hp2⟩ : ∃ p, p = pQ ((j : Int) + 1) := ⟨_, rfl⟩
      obtain ⟨p3, hp3⟩ : ∃ p, p = pV ((j : Int) + 1) := ⟨_, rfl⟩
      obtain ⟨p4, hp4⟩ : ∃ p, p = pF ((j : Int) + 1) := ⟨_, rfl⟩
      obtain ⟨p5, hp5⟩ : ∃ p, p = pC ((j : Int) + 1) := ⟨_, rfl⟩
      have hrow : rowK j = [.string ⟨sc.toArray⟩, .bool p1, .bool p2, .bool p3, .bool p4, .bool p5] := by rw [hsc, hp1, hp2, hp3, hp4, hp5]; rfl
      have henc : encK j = #[.int .i64 ((j : Int) + 1), .agg #[.string ⟨sc.toArray⟩, .bool p1, .bool p2, .bool p3, .bool p4, .bool p5]] := by unfold encK; rw [hrow]
      rw [hrow] at ix
      have hyy := fun W1 (h1 : I (List.range j) W1) (h2 : K W1) => HY.out (List.range j) j W1 h1 h2 hsp
      rw [henc] at hyy
      have HB2 : Hid (Below wr.heap.size wr (wr.alloc (.cells #[.string ⟨sc.toArray⟩, .bool p1, .bool p2, .bool p3, .bool p4, .bool p5] 117))) := Lib.hid ((Below.refl _ _).alloc (Nat.le_refl _) _)
      obtain ⟨fn, tmps, assign, body, hy, hR⟩ := hyy _ (HI.out _ _ _ HIj.out HB2.out) (HK.out.below HKj.out HB2.out)
      have HR := Lib.hid hR; have HSP := Lib.hid hsp
      clear hR hyy henc hrow hsp hsc hp1 hp2 hp3 hp4 hp5 hj
      gi_wp2_with fail
      refine HR.out.mono ?_
      rintro e W3 (⟨rfl, hI3, hk3⟩ | ⟨rfl, hJx3⟩)
      · gi_wp2_with fail
        refine ⟨⟨j + 1, by simp, by omega, Lib.hid (by rw [List.range_succ]; exact hI3), Lib.hid hk3⟩, ?_⟩
        show 10 - ((j : Int) + 1).toNat < 10 - (j : Int).toNat
        omega
      · gi_wp2_with fail
        refine bodyPost_ret (results_none rfl _ _ _) rfl ?_
        exact ⟨⟨_, rfl⟩, .inr ⟨_, HSP.out, hJx3⟩⟩
    · have hje : j = 10 := by omega
      subst hje
      gi_wp2_with fail
      refine bodyPost_end (results_none rfl _ _ _) rfl ?_
      exact ⟨⟨_, rfl⟩, .inl ⟨_, rfl, HIj.out, HKj.out⟩⟩
end Go.Proofs.YtcojnigkgbmbmaaGreatDoor
namespace Go.Proofs.YtcojnigkgbmbmaaGreatDoor
open Go Go.RowKit
attribute [local go_sem] Oper.semAt_some
def OfP (k : Int) (pre : List Nat) (_ : Unit) : Prop := ∀ j ∈ pre, (j : Int) + 1 ≠ k
def OfL (h : Nat) (k : Int) : List CellF := [(h, 3, #[.int .i64 k]), (h + 1, 59, prt0.toArray), (h + 2, 30, #[.int .i64 0])]
def ofV (k : Int) : List Value := if inK k then partC k else prt0
def ofE (k : Int) : Int := if inK k then 0 else 18
theorem ofV_eq (k : Int) : ∃ a b c d e, ofV k = [.bool a, .bool b, .bool c, .bool d, .bool e] := by
  unfold ofV
  split
  · exact ⟨_, _, _, _, _, rfl⟩
  · exact ⟨_, _, _, _, _, rfl⟩
set_option maxRecDepth 100000 in
set_option maxHeartbeats 4000000 in
theorem kind_Of (k : Int) (w : World) : Calls Tryz.prog 47 #[.int .i64 k] w fun e w' => e = .returned (.tuple #[.agg (ofV k).toArray, .int .i64 (ofE k)]) ∧ Below w.heap.size w w' := by
  refine (callsIn_wide (n := 5)).1 ?_
  refine callsIn_of_wp_marks Tryz.func47 rfl trivial ?_ rfl
  simp only [Tryz.ntmps47, List.size_toArray, List.length_cons, List.length_nil, Nat.reduceAdd, Nat.reduceSub, Array.replicate_succ, Array.replicate_zero, List.push_toArray, List.append_toArray, List.nil_append, List.cons_append]
  refine wpIn_wide.2 ?_
  go_wp2_with (go_at_call 88; refine (kind_all _).mono ?_; rintro e w' ⟨rfl, rfl⟩)
  simp only [Nat.add_assoc, Nat.reduceAdd]
  refine (wpIn_wide (n := 5)).1 ?_
  refine wp_uF (α := Nat) (enc := encK) (I := ICons w (OfP k) (fun _ _ => OfL w.heap.size k) (fun _ _ => [])) (I2 := ICons w (OfP k) (fun _ _ => OfL w.heap.size k) (fun _ _ => [])) (S := fun xs => xs = List.range 10) (Sp := fun pre => pre <+: List.range 10)
    rfl (by decide) (gf := 123) (lb := #[]) rfl trivial (enters_of Tryz.func123 (by kernel_rfl) rfl)
    (kall_seq 4 (by decide) _ ic_below) (fun _ => rfl)
    (fun cd _ W => RetC w [(w.heap.size + 1, 59, (ofV k).toArray), (w.heap.size + 2, 30, #[.int .i64 (ofE k)])] cd W)
    (fun pre x g W => ICons w (OfP k) (fun _ _ => (g, 117, (rowK x).toArray) :: OfL w.heap.size k) (fun _ _ => []) pre W)
    (own_ic (by simp; omega) _ _ _) (own_ic (by simp; omega) _ _ _) (fun cd => own_retC (by simp; omega) _ _) (fun x g => own_ic (by simp; omega) _ _ _) ?start ?round ?done ?stop
  case start =>
    refine ⟨⟨(), (fun j hj => by cases hj), ?_, ?_, rowsAt_nil _⟩⟩
    · exact (((Below.refl _ _).alloc (Nat.le_refl _) _).alloc (by simp) _).alloc (by simp; omega) _
    · unfold OfL
      refine CellsAt.cons ?_ (CellsAt.cons ?_ (CellsAt.cons ?_ (cellsAt_nil _)))
      all_goals (repeat (first | (refine blkAt (Blk.new _ _ _) ?_; simp [World.size_alloc]; done) | refine Blk.alloc ?_ _))
  case round =>
    apply Exists.intro
    refine And.intro ?_ ?_
    · rintro lp pre x W ⟨⟨u, hu, hc⟩⟩ hsp
      have HU := Lib.hid hu; have HC := Lib.hid hc
      clear hu hc
      rw [encK_eq]
      gi_wp2
      obtain ⟨g0, hg0⟩ : ∃ g0, W.heap.size = g0 := ⟨_, rfl⟩
      have hcc := cons_cell (cons_alloc HC.out (.cells (rowK x).toArray 117)) (blkAt (Blk.new W 117 (rowK x).toArray) hg0)
      rw [hg0]
      exact ⟨⟨g0, rfl, ⟨u, HU.out, hcc⟩⟩, kf_alloc (KeepsFrom.refl _ _) _⟩
    · rintro lp pre x g W ⟨⟨u, hu, hc⟩⟩ hsp
      obtain ⟨hpr, hx, hxl⟩ := range_pre hsp
      obtain ⟨B0, hc0⟩ : Blk W g 117 (rowK x).toArray ∧ CellsAt (OfL w.heap.size k) W := ⟨hc.2.1.head, hc.2.1.tail⟩
      unfold OfL at hc0
      have x0 := hc0.head.cell 0
      have d1 : W.cell? ⟨g, 1, none⟩ = some (.bool (pI ((x : Int) + 1))) := by rw [B0.cell]; rfl
      have d2 : W.cell? ⟨g, 2, none⟩ = some (.bool (pQ ((x : Int) + 1))) := by rw [B0.cell]; rfl
      have d3 : W.cell? ⟨g, 3, none⟩ = some (.bool (pV ((x : Int) + 1))) := by rw [B0.cell]; rfl
      have d4 : W.cell? ⟨g, 4, none⟩ = some (.bool (pF ((x : Int) + 1))) := by rw [B0.cell]; rfl
      have d5 : W.cell? ⟨g, 5, none⟩ = some (.bool (pC ((x : Int) + 1))) := by rw [B0.cell]; rfl
      have b1 := hc0.tail.head
      have b2 := hc0.tail.tail.head
      dsimp only at b1 b2
      have e0 : W.cell? ⟨w.heap.size + 1, 0, none⟩ = some (.bool false) := by rw [b1.cell]; rfl
      have e1 : W.cell? ⟨w.heap.size + 1, 1, none⟩ = some (.bool false) := by rw [b1.cell]; rfl
      have e2 : W.cell? ⟨w.heap.size + 1, 2, none⟩ = some (.bool false) := by rw [b1.cell]; rfl
      have e3 : W.cell? ⟨w.heap.size + 1, 3, none⟩ = some (.bool false) := by rw [b1.cell]; rfl
      have e4 : W.cell? ⟨w.heap.size + 1, 4, none⟩ = some (.bool false) := by rw [b1.cell]; rfl
      have f0 := b1.frozen 0
      have f1 := b1.frozen 1
      have f2 := b1.frozen 2
      have f3 := b1.frozen 3
      have f4 := b1.frozen 4
      have h0 := b2.cell 0
      have h1 := b2.frozen 0
      have HC := Lib.hid hc; have HU := Lib.hid hu; have HB1 := Lib.hid b1; have HB2 := Lib.hid b2; have HXL := Lib.hid hxl; have HX := Lib.hid hx
      clear hc hu hc0 b1 b2 B0 hpr hx hxl hsp
      by_cases hk : (x : Int) + 1 = k
      · have hkb : ((x : Int) + 1 == k) = true := by simpa using hk
        have HKE := Lib.hid hk
        clear hk
        gi_wp2_with fail
        have hin : inK k = true := by have := HXL.out; have := HKE.out; have := HX.out; simp [inK]; omega
        have hc := HC.out
        refine ⟨?_, rfl, ?_, ?_, rowsAt_nil _⟩
        · exact kf_set (kf_set (kf_set (kf_set (kf_set (kf_set (KeepsFrom.refl _ _) _ _) _ _) _ _) _ _) _ _) _ _
        · exact (((((hc.1.setCell (p := ⟨w.heap.size + 1, 0, none⟩) (by show w.heap.size ≤ _; simp) _).setCell (p := ⟨w.heap.size + 1, 1, none⟩) (by show w.heap.size ≤ _; simp) _).setCell (p := ⟨w.heap.size + 1, 2, none⟩) (by show w.heap.size ≤ _; simp) _).setCell (p := ⟨w.heap.size + 1, 3, none⟩) (by show w.heap.size ≤ _; simp) _).setCell (p := ⟨w.heap.size + 1, 4, none⟩) (by show w.heap.size ≤ _; simp) _).setCell (p := ⟨w.heap.size + 2, 0, none⟩) (by show w.heap.size ≤ _; simp) _
        · unfold ofV ofE
          rw [if_pos hin, if_pos hin, ← HKE.out]
          refine CellsAt.cons ?_ (CellsAt.cons ?_ (cellsAt_nil _))
          · exact (((((HB1.out.set_ 0 _).set_ 1 _).set_ 2 _).set_ 3 _).set_ 4 _).far (p := ⟨w.heap.size + 2, 0, none⟩) (by simp) _
          · exact (((((HB2.out.far (p := ⟨w.heap.size + 1, 0, none⟩) (by simp) _).far (p := ⟨w.heap.size + 1, 1, none⟩) (by simp) _).far (p := ⟨w.heap.size + 1, 2, none⟩) (by simp) _).far (p := ⟨w.heap.size + 1, 3, none⟩) (by simp) _).far (p := ⟨w.heap.size + 1, 4, none⟩) (by simp) _).set_ 0 _
      · have hkb : ((x : Int) + 1 == k) = false := by simpa using hk
        have HKE := Lib.hid hk
        clear hk
        gi_wp2_with fail
        refine ⟨KeepsFrom.refl _ _, trivial, ⟨(), ?_, cons_drop HC.out⟩⟩
        intro j hj
        rcases List.mem_append.1 hj with hj | hj
        · exact HU.out j hj
        · rw [List.mem_singleton] at hj; rw [hj]; exact HKE.out
  case done =>
    rintro D xs W hD rfl ⟨u, hu, hc⟩ hK
    have hin : inK k = false := by
      cases h : inK k with
      | false => rfl
      | true =>
        simp [inK] at h
        exact absurd (by omega) (hu (k - 1).toNat (List.mem_range.2 (by omega)))
    have hcs := hc.2.1
    unfold OfL at hcs
    have b1 := hcs.tail.head
    have b2 := hcs.tail.tail.head
    dsimp only at b1 b2
    have e0 : W.cell? ⟨w.heap.size + 1, 0, none⟩ = some (.bool false) := by rw [b1.cell]; rfl
    have e1 : W.cell? ⟨w.heap.size + 1, 1, none⟩ = some (.bool false) := by rw [b1.cell]; rfl
    have e2 : W.cell? ⟨w.heap.size + 1, 2, none⟩ = some (.bool false) := by rw [b1.cell]; rfl
    have e3 : W.cell? ⟨w.heap.size + 1, 3, none⟩ = some (.bool false) := by rw [b1.cell]; rfl
    have e4 : W.cell? ⟨w.heap.size + 1, 4, none⟩ = some (.bool false) := by rw [b1.cell]; rfl
    have f0 := b1.frozen 0
    have f1 := b1.frozen 1
    have f2 := b1.frozen 2
    have f3 := b1.frozen 3
    have f4 := b1.frozen 4
    have h0 := b2.cell 0
    have h1 := b2.frozen 0
    have HIN := Lib.hid hin; have HK := Lib.hid hK; have HB1 := Lib.hid b1; have HB2 := Lib.hid b2; have HBe := Lib.hid hc.1
    clear hin hK b1 b2 hcs hc hu
    gi_wp2_with fail
    go_wp2_with fail
    have hDp : D ≠ w.heap.size + 1 ∧ D ≠ w.heap.size + 2 := by simp at hD; omega
    generalize hW2 : ((((((W.setCell ⟨w.heap.size + 1, 0, none⟩ (.bool false)).setCell ⟨w.heap.size + 1, 1, none⟩ (.bool false)).setCell ⟨w.heap.size + 1, 2, none⟩ (.bool false)).setCell ⟨w.heap.size + 1, 3, none⟩ (.bool false)).setCell ⟨w.heap.size + 1, 4, none⟩ (.bool false)).setCell ⟨w.heap.size + 2, 0, none⟩ (.int .i64 18)) = W2
    have hK2 : W2.heap[D]? = some (.deferred (some [])) := by
      rw [← hW2, Below.heap_setCell _ ⟨w.heap.size + 2, 0, none⟩ _ D hDp.2, Below.heap_setCell _ ⟨w.heap.size + 1, 4, none⟩ _ D hDp.1, Below.heap_setCell _ ⟨w.heap.size + 1, 3, none⟩ _ D hDp.1, Below.heap_setCell _ ⟨w.heap.size + 1, 2, none⟩ _ D hDp.1, Below.heap_setCell _ ⟨w.heap.size + 1, 1, none⟩ _ D hDp.1, Below.heap_setCell _ ⟨w.heap.size + 1, 0, none⟩ _ D hDp.1]
      exact HK.out
    have hc2 : CellsAt [(w.heap.size + 1, 59, (ofV k).toArray), (w.heap.size + 2, 30, #[.int .i64 (ofE k)])] W2 := by
      rw [← hW2]
      unfold ofV ofE
      rw [if_neg (by rw [HIN.out]; decide), if_neg (by rw [HIN.out]; decide)]
      refine CellsAt.cons ?_ (CellsAt.cons ?_ (cellsAt_nil _))
      · exact (((((HB1.out.set_ 0 _).set_ 1 _).set_ 2 _).set_ 3 _).set_ 4 _).far (p := ⟨w.heap.size + 2, 0, none⟩) (by simp) _
      · exact (((((HB2.out.far (p := ⟨w.heap.size + 1, 0, none⟩) (by simp) _).far (p := ⟨w.heap.size + 1, 1, none⟩) (by simp) _).far (p := ⟨w.heap.size + 1, 2, none⟩) (by simp) _).far (p := ⟨w.heap.size + 1, 3, none⟩) (by simp) _).far (p := ⟨w.heap.size + 1, 4, none⟩) (by simp) _).set_ 0 _
    have hb2 : Below w.heap.size w W2 := by
      rw [← hW2]
      exact (((((HBe.out.setCell (p := ⟨w.heap.size + 1, 0, none⟩) (by show w.heap.size ≤ _; simp) _).setCell (p := ⟨w.heap.size + 1, 1, none⟩) (by show w.heap.size ≤ _; simp) _).setCell (p := ⟨w.heap.size + 1, 2, none⟩) (by show w.heap.size ≤ _; simp) _).setCell (p := ⟨w.heap.size + 1, 3, none⟩) (by show w.heap.size ≤ _; simp) _).setCell (p := ⟨w.heap.size + 1, 4, none⟩) (by show w.heap.size ≤ _; simp) _).setCell (p := ⟨w.heap.size + 2, 0, none⟩) (by show w.heap.size ≤ _; simp) _
    clear hW2
    have hc4 := cells_put (o' := .deferred none) hc2 hK2 rfl
    have hb4 := below_put (o := .deferred none) hb2 (D := D) (by simp at hD; omega)
    obtain ⟨a, b, c, d, e, hv⟩ := ofV_eq k
    rw [hv] at hc4 ⊢
    have q0 := hc4.head.cell 0
    have q1 := hc4.head.cell 1
    have q2 := hc4.head.cell 2
    have q3 := hc4.head.cell 3
    have q4 := hc4.head.cell 4
    have q5 := hc4.tail.head.cell 0
    simp only [List.getElem?_toArray, List.getElem?_cons_zero, List.getElem?_cons_succ] at q0 q1 q2 q3 q4 q5
    refine retM hK2 (v := .tuple #[.agg #[.bool a, .bool b, .bool c, .bool d, .bool e], .int .i64 (ofE k)]) ?_ ?_
    · simp [results, Tryz.results47, go_sem, q0, q1, q2, q3, q4, q5]
    · exact ⟨rfl, hb4⟩
  case stop =>
    rintro D cd pre W hD hsp ⟨rfl, hbel, hcs, _⟩ hK
    have HBel := Lib.hid hbel; have HCS := Lib.hid hcs; have HK := Lib.hid hK
    clear hbel hcs hK hsp
    gi_wp2_with fail
    have hc4 := cells_put (o' := .deferred none) HCS.out HK.out rfl
    have hb4 := below_put (o := .deferred none) HBel.out (D := D) (by simp at hD; omega)
    obtain ⟨a, b, c, d, e, hv⟩ := ofV_eq k
    rw [hv] at hc4 ⊢
    have q0 := hc4.head.cell 0
    have q1 := hc4.head.cell 1
    have q2 := hc4.head.cell 2
    have q3 := hc4.head.cell 3
    have q4 := hc4.head.cell 4
    have q5 := hc4.tail.head.cell 0
    simp only [List.getElem?_toArray, List.getElem?_cons_zero, List.getElem?_cons_succ] at q0 q1 q2 q3 q4 q5
    refine retM HK.out (v := .tuple #[.agg #[.bool a, .bool b, .bool c, .bool d, .bool e], .int .i64 (ofE k)]) ?_ ?_
    · simp [results, Tryz.results47, go_sem, q0, q1, q2, q3, q4, q5]
    · exact ⟨rfl, hb4⟩
end Go.Proofs.YtcojnigkgbmbmaaGreatDoor
namespace Go.Proofs.YtcojnigkgbmbmaaGreatDoor
open Go Go.RowKit
attribute [local go_sem] Oper.semAt_some
theorem pt_put {w : World} {base T D many : Nat} {N : List Nd} {Dt : DataW Value} {o o' : Obj} (h : PTree w base T N Dt many) (hD : w.heap[D]? = some o) (hm : ∀ es c, o ≠ .map es c) (hc : o.isCells = false) : PTree (w.putObj D o') base T N Dt many := by
  obtain ⟨v, mb, h1, h2, h3, h4, h5⟩ := h
  have hg := grownBy_putObj' w D o'
  have hr : ∀ r, some D = some r → ∃ o : Obj, w.heap[r]? = some o ∧ o.isCells = false := fun r e => by cases e; exact ⟨o, hD, hc⟩
  refine ⟨v, mb, blk_grown' h1 hg hr, own_grown' h2 hg hr, ?_, h4, h5⟩
  obtain ⟨es, clock, hh, r⟩ := h3
  refine ⟨es, clock, (World.putObj_heap_other (fun e => ?_)).trans hh, r⟩
  rw [e, hD] at hh
  cases hh
  exact hm _ _ rfl
theorem kindC_snoc (j : Nat) (h : j < 10) : kindC.take (j + 1) = kindC.take j ++ [kindC.getD j []] := by revert j; decide +kernel
theorem kindN_snoc (j : Nat) (h : j < 10) : kindN.take (j + 1) = kindN.take j ++ [(j : Int) + 1] := by revert j; decide +kernel
set_option maxRecDepth 100000 in
set_option maxHeartbeats 4000000 in
theorem kind_tree (w : World) : Calls Tryz.prog 89 #[] w (TreePost kindC kindN w) := by
  refine (callsIn_wide (n := 5)).1 ?_
  refine callsIn_of_wp_marks Tryz.func89 rfl trivial ?_ rfl
  simp only [Tryz.ntmps89, List.size_toArray, List.length_cons, List.length_nil, Nat.reduceAdd, Nat.reduceSub, Array.replicate_succ, Array.replicate_zero, List.push_toArray, List.append_toArray, List.nil_append, List.cons_append]
  refine wpIn_wide.2 ?_
  go_wp2_with (go_at_call 88; refine (kind_all _).mono ?_; rintro e w' ⟨rfl, rfl⟩)
  refine (wpIn_wide (n := 5)).1 ?_
  refine wp_uF (α := Nat) (enc := encK) (I := ICons w (fun _ (v : Value × Value) => trP v.1 ∧ trP v.2) (fun _ v => trL w.heap.size v.1 v.2) (fun pre v => trR w.heap.size kindC kindN pre.length v.1 v.2)) (I2 := ICons w (fun _ (v : Value × Value) => trP v.1 ∧ trP v.2) (fun _ v => trL w.heap.size v.1 v.2) (fun pre v => trR w.heap.size kindC kindN pre.length v.1 v.2)) (S := fun xs => xs = List.range 10) (Sp := fun pre => pre <+: List.range 10)
    rfl (by decide) (gf := 123) (lb := #[]) rfl trivial (enters_of Tryz.func123 (by kernel_rfl) rfl)
    (kall_seq 4 (by decide) _ ic_below) (fun _ => rfl)
    (fun _ _ _ => False)
    (fun pre x g W => ICons w (fun _ (v : Value × Value) => trP v.1 ∧ trP v.2) (fun _ v => (g, 117, (rowK x).toArray) :: trL w.heap.size v.1 v.2) (fun pre v => trR w.heap.size kindC kindN pre.length v.1 v.2) pre W)
    (own_ic (by simp; omega) _ _ _) (own_ic (by simp; omega) _ _ _) (fun _ _ _ _ _ h _ _ => h) (fun x g => own_ic (by simp; omega) _ _ _) ?start ?round ?done ?stop
  case start =>
    refine ⟨⟨(.slice none 0 0, .slice none 0 0), ⟨⟨_, _, _, rfl⟩, ⟨_, _, _, rfl⟩⟩, ?_, ?_, ?_⟩⟩
    · exact ((Below.refl _ _).alloc (Nat.le_refl _) _).alloc (by simp) _
    · refine CellsAt.cons ?_ (CellsAt.cons ?_ (cellsAt_nil _))
      all_goals (repeat (first | (refine blkAt (Blk.new _ _ _) ?_; simp [World.size_alloc]; done) | refine Blk.alloc ?_ _))
    · exact RowsAt.cons (World.ownsRow_nil _ _ _ _) (RowsAt.cons (World.ownsRow_nil _ _ _ _) (rowsAt_nil _))
  case round =>
    apply Exists.intro
    refine And.intro ?_ ?_
    · rintro lp pre x W ⟨⟨u, hu, hc⟩⟩ hsp
      have HU := Lib.hid hu; have HC := Lib.hid hc
      clear hu hc
      rw [encK_eq]
      gi_wp2
      obtain ⟨g0, hg0⟩ : ∃ g0, W.heap.size = g0 := ⟨_, rfl⟩
      have hcc := cons_cell (cons_alloc HC.out (.cells (rowK x).toArray 117)) (blkAt (Blk.new W 117 (rowK x).toArray) hg0)
      rw [hg0]
      exact ⟨⟨g0, rfl, ⟨u, HU.out, hcc⟩⟩, kf_alloc (KeepsFrom.refl _ _) _⟩
    · rintro lp pre x g W ⟨⟨⟨v1, v2⟩, ⟨⟨A1, n1, c1, rfl⟩, ⟨A2, n2, c2, rfl⟩⟩, hc⟩⟩ hsp
      obtain ⟨hpr, hx, hxl⟩ := range_pre hsp
      unfold trL trR at hc
      dsimp only at hc
      have HC := Lib.hid hc; have HXL := Lib.hid hxl; have HX := Lib.hid hx
      have hl10 : pre.length ≤ 9 := by omega
      clear hc hpr hx hxl hsp
      obtain ⟨sc, hsc⟩ : ∃ sc, kindC.getD x [] = sc := ⟨_, rfl⟩
      gi_wp2_with fail
      refine wpIn_region_tree (fun w' => CellsAt [(g, 117, (rowK x).toArray), (w.heap.size, 89, #[.slice A1 n1 c1]), (w.heap.size + 1, 137, #[.slice A2 n2 c2])] w') 8 (.take 0 (.take 1 (.take 2 (.take 5 (.take 6 (.fork 3 (.fork 4 (.step 7 (.done)) 7 (.step 4 (.done))) 7 (.step 3 (.step 4 (.done))))))))) (by kernel_rfl) (by kernel_rfl) (by simp only [Pln.out, Array.getD_eq_getD_getElem?, List.getElem?_toArray, List.getElem?_cons_zero, List.getElem?_cons_succ, Option.getD_some]; rfl) (by simp only [List.map_cons, List.map_nil]; rfl) (HC.out.2.1) (fun PE hPE => ?_)
      iterate 5
        refine tree_take (v := ?_) rfl (by rfl) ?_ ?_
        rotate_left
        · intro _ hSw; (try dsimp only at hSw); have z1 := hSw.tail.head.cell 0; have z2 := hSw.tail.tail.head.cell 0; have z3 : _ = some (Value.string (bs (kindC.getD x []))) := hSw.head.cell 0; go_simp; (try with_reducible rfl)
        simp only [List.setIfInBounds_toArray, List.set_cons_zero, List.set_cons_succ]
      have HW := Lib.hid (cons_drew HC.out)
      refine ⟨?_, ?_⟩
      · refine tree_value (v := ?_) (w' := ?_) rfl (by rfl) ?_ ?_ ?_
        rotate_left 2
        · go_simp; (try (constructor <;> with_reducible rfl))
        · exact (cons_alloc HW.out _).2.1
        refine ⟨?_, ?_⟩
        · refine tree_appB etStr rfl rfl rfl rfl (cons_alloc HW.out (.cells #[strV (kindC.getD x [])] 9)) rfl (Blk.new _ _ _) (m := 1) (news := [strV (kindC.getD x [])]) rfl (strV1 _) (by omega) ⟨Nat.le_refl _, (cons_alloc HW.out (.cells #[strV (kindC.getD x [])] 9)).1.size⟩ (by simp) (by simp) (fun v' W5 hc5 hb5 hk5 => ⟨hc5.2.1, ?_⟩)
          obtain ⟨A5, c5, e5, _⟩ := own_sl hc5.2.2.head
          dsimp only at e5
          subst e5
          refine tree_value (v := ?_) (w' := ?_) rfl (by rfl) ?_ ?_ ?_
          rotate_left 2
          · go_simp; (try (constructor <;> with_reducible rfl))
          · exact hc5.2.1.alloc _
          have HCf := Lib.hid (cons_alloc hc5 (.cells #[intV ((x : Int) + 1)] 3))
          have HB7 := Lib.hid (Blk.new W5 3 #[intV ((x : Int) + 1)])
          have HKF := Lib.hid (fun B => kf_alloc (kf_then' (kf_alloc (kf_drew (KeepsFrom.refl B W)) (.cells #[strV (kindC.getD x [])] 9)) (hk5 B)) (.cells #[intV ((x : Int) + 1)] 3))
          refine hPE _ _ ?_
          clear hPE PE
          simp only [List.drop_succ_cons, List.drop_zero, List.drop_nil]
          go_wp2_with (refine wpList_appB etInt rfl rfl rfl (cons_swap HCf.out) rfl HB7.out (m := 1) (news := [intV ((x : Int) + 1)]) rfl (intV1 _) (by omega) ⟨Nat.le_refl _, HCf.out.1.size⟩ (by simp) (by simp) ?_; intro v2 W9 hc9 hb9 hk9; obtain ⟨A8, c8, e8, _⟩ := own_sl hc9.2.2.head; dsimp only at e8; subst e8; have HC9 := Lib.hid (cons_drop hc9); have HK9 := Lib.hid (fun B => kf_then' (HKF.out B) (hk9 B)); have y1 := hc9.2.1.tail.head.cell 0; have y2 := hc9.2.1.tail.tail.head.cell 0; have yf1 := hc9.2.1.tail.head.frozen 0; have yf2 := hc9.2.1.tail.tail.head.frozen 0; clear hc9 hb9 hk9)
          refine ⟨rfl, ?_⟩
          gi_wp2_with fail
          have hrd := fun B => tree_round HC9.out HK9.out B (by rw [HX.out]; exact kindC_snoc _ (by omega)) (by rw [HX.out]; exact kindN_snoc _ (by omega)) rfl
          refine ⟨(hrd _).1, trivial, ⟨⟨(.slice A5 (pre.length + 1) c5, .slice A8 (pre.length + 1) c8), ⟨⟨_, _, _, rfl⟩, ⟨_, _, _, rfl⟩⟩, ?_⟩⟩⟩
          rw [List.length_append]
          exact (hrd 0).2
        · refine tree_value (v := ?_) (w' := ?_) rfl (by rfl) ?_ ?_ ?_
          rotate_left 2
          · go_simp; (try (constructor <;> with_reducible rfl))
          · exact ((cons_alloc HW.out (.cells #[strV (kindC.getD x [])] 9)).2.1).alloc _
          refine tree_appB etStr rfl rfl rfl rfl (cons_alloc (cons_alloc HW.out (.cells #[strV (kindC.getD x [])] 9)) (.cells #[intV ((x : Int) + 1)] 3)) rfl ((Blk.new _ _ _).alloc _) (m := 1) (news := [strV (kindC.getD x [])]) rfl (strV1 _) (by omega) ⟨Nat.le_refl _, (cons_alloc (cons_alloc HW.out (.cells #[strV (kindC.getD x [])] 9)) (.cells #[intV ((x : Int) + 1)] 3)).1.size⟩ (by simp) (by simp) (fun v' W5 hc5 hb5 hk5 => ⟨hc5.2.1, ?_⟩)
          obtain ⟨A5, c5, e5, _⟩ := own_sl hc5.2.2.head
          dsimp only at e5
          subst e5
          have HCf := Lib.hid hc5
          have HB7 := Lib.hid (blkAt (g' := W.heap.size + 1) (hb5 _ _ _ (Blk.new ((World.drew W).alloc (.cells #[strV (kindC.getD x [])] 9)) 3 #[intV ((x : Int) + 1)]) (by decide)) (World.size_alloc _ _))
          have HKF := Lib.hid (fun B => kf_then' (kf_alloc (kf_alloc (kf_drew (KeepsFrom.refl B W)) (.cells #[strV (kindC.getD x [])] 9)) (.cells #[intV ((x : Int) + 1)] 3)) (hk5 B))
          refine hPE _ _ ?_
          clear hPE PE
          simp only [List.drop_succ_cons, List.drop_zero, List.drop_nil]
          go_wp2_with (refine wpList_appB etInt rfl rfl rfl (cons_swap HCf.out) rfl HB7.out (m := 1) (news := [intV ((x : Int) + 1)]) rfl (intV1 _) (by omega) ⟨Nat.le_refl _, HCf.out.1.size⟩ (by simp) (by simp) ?_; intro v2 W9 hc9 hb9 hk9; obtain ⟨A8, c8, e8, _⟩ := own_sl hc9.2.2.head; dsimp only at e8; subst e8; have HC9 := Lib.hid (cons_drop hc9); have HK9 := Lib.hid (fun B => kf_then' (HKF.out B) (hk9 B)); have y1 := hc9.2.1.tail.head.cell 0; have y2 := hc9.2.1.tail.tail.head.cell 0; have yf1 := hc9.2.1.tail.head.frozen 0; have yf2 := hc9.2.1.tail.tail.head.frozen 0; clear hc9 hb9 hk9)
          refine ⟨rfl, ?_⟩
          gi_wp2_with fail
          have hrd := fun B => tree_round HC9.out HK9.out B (by rw [HX.out]; exact kindC_snoc _ (by omega)) (by rw [HX.out]; exact kindN_snoc _ (by omega)) rfl
          refine ⟨(hrd _).1, trivial, ⟨⟨(.slice A5 (pre.length + 1) c5, .slice A8 (pre.length + 1) c8), ⟨⟨_, _, _, rfl⟩, ⟨_, _, _, rfl⟩⟩, ?_⟩⟩⟩
          rw [List.length_append]
          exact (hrd 0).2
      · refine tree_value (v := ?_) (w' := ?_) rfl (by rfl) ?_ ?_ ?_
        rotate_left 2
        · go_simp; (try (constructor <;> with_reducible rfl))
        · exact (cons_alloc HW.out _).2.1
        refine tree_value (v := ?_) (w' := ?_) rfl (by rfl) ?_ ?_ ?_
        rotate_left 2
        · go_simp; (try (constructor <;> with_reducible rfl))
        · exact ((cons_alloc HW.out (.cells #[intV ((x : Int) + 1)] 3)).2.1).alloc _
        refine tree_appB etStr rfl rfl rfl rfl (cons_alloc (cons_alloc HW.out (.cells #[intV ((x : Int) + 1)] 3)) (.cells #[strV (kindC.getD x [])] 9)) rfl (blkAt (Blk.new ((World.drew W).alloc (.cells #[intV ((x : Int) + 1)] 3)) _ _) (World.size_alloc _ _)) (m := 1) (news := [strV (kindC.getD x [])]) rfl (strV1 _) (by omega) ⟨Nat.le_refl _, (cons_alloc (cons_alloc HW.out (.cells #[intV ((x : Int) + 1)] 3)) (.cells #[strV (kindC.getD x [])] 9)).1.size⟩ (by simp) (by simp) (fun v' W5 hc5 hb5 hk5 => ⟨hc5.2.1, ?_⟩)
        obtain ⟨A5, c5, e5, _⟩ := own_sl hc5.2.2.head
        dsimp only at e5
        subst e5
        have HCf := Lib.hid hc5
        have HB7 := Lib.hid (blkAt (g' := W.heap.size) (hb5 _ _ _ ((Blk.new (World.drew W) 3 #[intV ((x : Int) + 1)]).alloc (.cells #[strV (kindC.getD x [])] 9)) (by decide)) rfl)
        have HKF := Lib.hid (fun B => kf_then' (kf_alloc (kf_alloc (kf_drew (KeepsFrom.refl B W)) (.cells #[intV ((x : Int) + 1)] 3)) (.cells #[strV (kindC.getD x [])] 9)) (hk5 B))
        refine hPE _ _ ?_
        clear hPE PE
        simp only [List.drop_succ_cons, List.drop_zero, List.drop_nil]
        go_wp2_with (refine wpList_appB etInt rfl rfl rfl (cons_swap HCf.out) rfl HB7.out (m := 1) (news := [intV ((x : Int) + 1)]) rfl (intV1 _) (by omega) ⟨Nat.le_refl _, HCf.out.1.size⟩ (by simp) (by simp) ?_; intro v2 W9 hc9 hb9 hk9; obtain ⟨A8, c8, e8, _⟩ := own_sl hc9.2.2.head; dsimp only at e8; subst e8; have HC9 := Lib.hid (cons_drop hc9); have HK9 := Lib.hid (fun B => kf_then' (HKF.out B) (hk9 B)); have y1 := hc9.2.1.tail.head.cell 0; have y2 := hc9.2.1.tail.tail.head.cell 0; have yf1 := hc9.2.1.tail.head.frozen 0; have yf2 := hc9.2.1.tail.tail.head.frozen 0; clear hc9 hb9 hk9)
        refine ⟨rfl, ?_⟩
        gi_wp2_with fail
        have hrd := fun B => tree_round HC9.out HK9.out B (by rw [HX.out]; exact kindC_snoc _ (by omega)) (by rw [HX.out]; exact kindN_snoc _ (by omega)) rfl
        refine ⟨(hrd _).1, trivial, ⟨⟨(.slice A5 (pre.length + 1) c5, .slice A8 (pre.length + 1) c8), ⟨⟨_, _, _, rfl⟩, ⟨_, _, _, rfl⟩⟩, ?_⟩⟩⟩
        rw [List.length_append]
        exact (hrd 0).2
  case done =>
    rintro D xs W hD hxs ⟨⟨⟨v1, v2⟩, _, hc⟩⟩ hK
    subst hxs
    unfold trL trR at hc
    dsimp only at hc
    rw [List.length_range, show kindC.take 10 = kindC by kernel_rfl, show kindN.take 10 = kindN by kernel_rfl] at hc
    obtain ⟨A, B, c, d, rfl, rfl, hA, hB, hb⟩ := two_get (W := W) (cs := kindC) (ns := kindN) ⟨hc.1, cellsAt_nil _, hc.2.2⟩ (by decide) (by kernel_rfl)
    have CM := Lib.hid (make_tree kind_codes A B c d W hA hB)
    have HB := Lib.hid hb
    have y1 := hc.2.1.head.cell 0
    have y2 := hc.2.1.tail.head.cell 0
    have HK := Lib.hid hK
    rw [kindC_len] at CM y1 y2
    clear hc hA hB hb hK
    gi_wp2_with fail
    go_wp2_with (go_at_call 125; refine CM.out.mono ?_; rintro e w' ⟨T, rfl, hpt⟩; have HPT := Lib.hid hpt; clear hpt)
    have hK2 : w'.heap[D]? = some (.deferred (some [])) := (HPT.out.2.block D (Array.getElem?_eq_some_iff.1 HK.out).1).trans HK.out
    refine retM hK2 (v := .pointer (some ⟨T, 0, none⟩)) (by simp [results, Tryz.results89, go_sem]) ?_
    have hs := HB.out.size
    have hDl := (Array.getElem?_eq_some_iff.1 HK.out).1
    refine ⟨W.heap.size, T, rfl, pt_put HPT.out.1 hK2 (fun _ _ h => by cases h) rfl, below_put (HB.out.trans (HPT.out.2.mono hs)) (by simp at hD; omega)⟩
  case stop =>
    rintro D cd pre W hD hsp h hK
    exact h.elim
theorem kind_Get (A : Option Addr) (n c : Nat) (l : List UInt8) (i : Int) (w : World) (hA : Sl w A (l.map byteV)) (hn : l.length = n) (hsz : n ≤ 2 ^ 47) (hi : -9223372036854775808 ≤ i ∧ i ≤ 9223372036854775807) :
    Calls Tryz.prog 109 #[.slice A n c, .int .i64 i] w fun e w' => e = .returned (.tuple #[.int .i64 (treeR kindC kindN l i).1, .int .i64 (treeR kindC kindN l i).2.1, .int .i64 (treeR kindC kindN l i).2.2]) ∧ Below w.heap.size w w' := by
  have HA := Lib.hid hA; have Hn := Lib.hid hn
  clear hA hn
  go_enter Tryz.func109, Tryz.ntmps109
  go_wp2_with (first
    | (go_at_call 89; refine (kind_tree _).mono ?_; rintro e w1 ⟨base, T, rfl, hpt, hb1⟩; have HPT := Lib.hid hpt; have HB1 := Lib.hid hb1; clear hpt hb1)
    | (go_at_call 141; refine (get_tree kind_codes _ base T HPT.out A n c l i (HA.out.below HB1.out) Hn.out hsz hi).mono ?_; rintro e w2 ⟨rfl, hb2⟩; have HB2 := Lib.hid hb2; clear hb2))
  go_ret3
  exact ⟨rfl, HB1.out.trans (HB2.out.mono HB1.out.size)⟩
theorem kindN_run : kindN = (List.range kindC.length).map fun i : Nat => 1 + (i : Int) := by
  unfold kindN
  rw [kindC_len]
  apply List.map_congr_left
  intro j _
  omega
theorem wf_small {k : Int} (h1 : -1000000 ≤ k) (h2 : k ≤ 1000000) : (Lit.int .i64 k).wf = true := by
  have e1 : IntKind.i64.min = -9223372036854775808 := by kernel_rfl
  have e2 : IntKind.i64.max = 9223372036854775807 := by kernel_rfl
  simp [Lit.wf, e1, e2]
  omega
theorem kind_codeF {k : Int} (h : inK k = true) : (codeF kindC kindN k).getD [] = kindP k ∧ (codeF kindC kindN k).isSome = true := by
  simp only [inK, Bool.and_eq_true, decide_eq_true_eq] at h
  rw [kindN_run, codeF_run]
  unfold kindP codeAt
  refine ⟨rfl, ?_⟩
  rw [if_neg (by omega), List.getElem?_eq_getElem (by rw [kindC_len]; omega)]
  rfl
theorem kind_Put (k : Int) (w : World) (h : inK k = true) : Calls Tryz.prog 48 #[.int .i64 k] w fun e w' => e = .returned (.tuple #[.string (bs (kindP k)), .int .i64 0]) ∧ Below w.heap.size w w' := by
  have hk := kind_codeF h
  simp only [inK, Bool.and_eq_true, decide_eq_true_eq] at h
  obtain ⟨h1, h2⟩ := h
  have CP := Lib.hid (fun W base T hT => put_tree kind_codes W base T hT k (wf_small (by omega) (by omega)))
  rw [hk.1, hk.2] at CP
  clear hk
  go_enter Tryz.func48, Tryz.ntmps48
  go_wp2_with (first
    | (go_at_call 89; refine (kind_tree _).mono ?_; rintro e w1 ⟨base, T, rfl, hpt, hb1⟩; have HPT := Lib.hid hpt; have HB1 := Lib.hid hb1; clear hpt hb1)
    | (go_at_call 90; refine (CP.out _ base T HPT.out).mono ?_; rintro e w2 ⟨rfl, hb2⟩; have HB2 := Lib.hid hb2; clear hb2))
  go_ret2
  exact ⟨rfl, HB1.out.trans (HB2.out.mono HB1.out.size)⟩
end Go.Proofs.YtcojnigkgbmbmaaGreatDoor
namespace Go.Proofs.YtcojnigkgbmbmaaGreatDoor
open Go Go.RowKit
def lastV (x : LastM) : Value := .agg #[.int .i64 x.ad, .bool x.had, .int .i64 x.x, .int .i64 x.y]
def macV (m : MacM) (A : Option Addr) (n c : Nat) : Value := .agg #[.int .i64 m.ad, .int .i64 m.kd, .int .i64 m.qu, .int .i64 m.x, .int .i64 m.y, .int .i64 m.pa, .slice A n c]
theorem macro_part (n : Int) (w : World) : Calls Tryz.prog 59 #[.int .i64 n] w fun e w' => e = .returned (.bool (partB n)) ∧ w = w' := by
  by_cases a : -15 ≤ n
  · have a1 : decide (-15 ≤ n) = true := decide_eq_true a
    by_cases b : n ≤ 15
    · have b1 : decide (n ≤ 15) = true := decide_eq_true b
      have hv : partB n = true := by simp [partB, a, b]
      rw [hv]; clear hv
      go_enter Tryz.func59, Tryz.ntmps59
      go_wp2
      go_ret
      exact ⟨rfl, rfl⟩
    · have b1 : decide (n ≤ 15) = false := decide_eq_false b
      have hv : partB n = false := by simp [partB]; omega
      rw [hv]; clear hv
      go_enter Tryz.func59, Tryz.ntmps59
      go_wp2
      go_ret
      exact ⟨rfl, rfl⟩
  · have a1 : decide (-15 ≤ n) = false := decide_eq_false a
    have hv : partB n = false := by simp [partB]; omega
    rw [hv]; clear hv
    go_enter Tryz.func59, Tryz.ntmps59
    go_wp2
    go_ret
    exact ⟨rfl, rfl⟩
set_option maxHeartbeats 2000000 in
theorem macro_ahead (x : LastM) (ad : Int) (w : World) : Calls Tryz.prog 32 #[lastV x, .int .i64 ad] w fun e w' => e = .returned (.bool (aheadB x ad)) ∧ Below w.heap.size w w' := by
  obtain ⟨a, had, p, q⟩ := x
  unfold aheadB lastV
  dsimp only
  cases d1 : decide (0 ≤ a) with
  | false =>
    simp only [Bool.false_and, Bool.and_false, Bool.true_and]
    go_enter Tryz.func32, Tryz.ntmps32
    go_wp2_with (go_at_call 59; refine (macro_part _ _).mono ?_; rintro e w' ⟨rfl, rfl⟩)
    go_ret
    exact ⟨rfl, (Below.refl _ _).alloc (Nat.le_refl _) _⟩
  | true =>
    cases d2 : decide (a < ad) with
    | false =>
      simp only [Bool.false_and, Bool.and_false, Bool.true_and]
      go_enter Tryz.func32, Tryz.ntmps32
      go_wp2_with (go_at_call 59; refine (macro_part _ _).mono ?_; rintro e w' ⟨rfl, rfl⟩)
      go_ret
      exact ⟨rfl, (Below.refl _ _).alloc (Nat.le_refl _) _⟩
    | true =>
      cases d3 : partB p with
      | false =>
        simp only [Bool.false_and, Bool.and_false, Bool.true_and]
        go_enter Tryz.func32, Tryz.ntmps32
        go_wp2_with (go_at_call 59; refine (macro_part _ _).mono ?_; rintro e w' ⟨rfl, rfl⟩)
        go_ret
        exact ⟨rfl, (Below.refl _ _).alloc (Nat.le_refl _) _⟩
      | true =>
        cases d4 : partB q with
        | false =>
          simp only [Bool.false_and, Bool.and_false, Bool.true_and]
          go_enter Tryz.func32, Tryz.ntmps32
          go_wp2_with (go_at_call 59; refine (macro_part _ _).mono ?_; rintro e w' ⟨rfl, rfl⟩)
          go_ret
          exact ⟨rfl, (Below.refl _ _).alloc (Nat.le_refl _) _⟩
        | true =>
          simp only [Bool.true_and]
          cases had with
          | true =>
            simp only [Bool.true_or]
            go_enter Tryz.func32, Tryz.ntmps32
            go_wp2_with (go_at_call 59; refine (macro_part _ _).mono ?_; rintro e w' ⟨rfl, rfl⟩)
            go_ret
            exact ⟨rfl, (Below.refl _ _).alloc (Nat.le_refl _) _⟩
          | false =>
            simp only [Bool.false_or]
            cases d6 : (p == 0) with
            | false =>
              simp only [Bool.false_and]
              go_enter Tryz.func32, Tryz.ntmps32
              go_wp2_with (go_at_call 59; refine (macro_part _ _).mono ?_; rintro e w' ⟨rfl, rfl⟩)
              go_ret
              exact ⟨rfl, (Below.refl _ _).alloc (Nat.le_refl _) _⟩
            | true =>
              cases d7 : (q == 0) with
              | false =>
                simp only [Bool.and_false]
                go_enter Tryz.func32, Tryz.ntmps32
                go_wp2_with (go_at_call 59; refine (macro_part _ _).mono ?_; rintro e w' ⟨rfl, rfl⟩)
                go_ret
                exact ⟨rfl, (Below.refl _ _).alloc (Nat.le_refl _) _⟩
              | true =>
                simp only [Bool.and_self]
                go_enter Tryz.func32, Tryz.ntmps32
                go_wp2_with (go_at_call 59; refine (macro_part _ _).mono ?_; rintro e w' ⟨rfl, rfl⟩)
                go_ret
                exact ⟨rfl, (Below.refl _ _).alloc (Nat.le_refl _) _⟩
theorem macro_predictor (x : LastM) (ad : Int) (w : World) (h : 0 ≤ x.ad) (h2 : x.ad < ad) (h3 : ad ≤ 100) : Calls Tryz.prog 33 #[lastV x, .int .i64 ad] w fun e w' => e = .returned (.tuple #[.int .i64 (predP ad (ad - x.ad) x.had x.x x.y).1, .int .i64 (predP ad (ad - x.ad) x.had x.x x.y).2]) ∧ Below w.heap.size w w' := by
  obtain ⟨a, had, p, q⟩ := x
  unfold lastV
  dsimp only at h h2 ⊢
  go_enter Tryz.func33, Tryz.ntmps33
  go_wp2_with (go_at_call 70; refine (vector_Predict _ _ _ _ _ _).mono ?_; rintro e w' ⟨rfl, rfl⟩)
  go_ret2
  exact ⟨rfl, (Below.refl _ _).alloc (Nat.le_refl _) _⟩
theorem macro_moved (fr to : Int) (w : World) (h1 : partB fr = true) (h2 : partB to = true) : Calls Tryz.prog 50 #[.int .i64 fr, .int .i64 to] w fun e w' => e = .returned (.string (bs (movP fr to))) ∧ w = w' := by
  have C1 := Lib.hid (fun W => vector_Diff fr to W h1 h2)
  have hd := diffP_range fr to
  have C2 := Lib.hid (fun W => vector_Put (diffP fr to) W hd.1 hd.2)
  unfold movP
  clear h1 h2 hd
  go_enter Tryz.func50, Tryz.ntmps50
  go_wp2_with (first
    | (go_at_call 92; refine (C1.out _).mono ?_; rintro e w' ⟨rfl, rfl⟩)
    | (go_at_call 93; refine (C2.out _).mono ?_; rintro e w' ⟨rfl, rfl⟩))
  go_ret
  exact ⟨rfl, rfl⟩
end Go.Proofs.YtcojnigkgbmbmaaGreatDoor
namespace Go.Proofs.YtcojnigkgbmbmaaGreatDoor
open Go Go.RowKit
attribute [local go_sem] Oper.semAt_some
theorem wpIn_scope {F : Fence} {n : Nat} {P : Program} {c : Code} {Q : Exit → Act → World → Prop} {a : Act} {w : World} (hro : F.round = none) (h : c.wpIn F n P (Exit.noGoto Q) a w) : (Code.scope c).wpIn F n P Q a w := by
  intro b k cs hb0 hb hr
  have hbn : b.roundOf = none := hb0.trans hro
  obtain ⟨e, a₁, w₁, hq, harr⟩ := h b (.inScope c :: k) cs hb0 hb hr
  have f1 : (lone (b.atR a (.code (.scope c) :: k)) cs w).fenced P F := fenced_calm hb hr rfl
  have s1 : step P (lone (b.atR a (.code (.scope c) :: k)) cs w) = .next (lone (b.atR a (.code c :: .inScope c :: k)) cs w) := by rw [Frame.atR_of_none hbn, Frame.atR_of_none hbn]; exact step_scope
  cases e with
  | normal =>
    have s2 : step P (lone (b.atR a₁ (.inScope c :: k)) cs w₁) = .next (lone (b.atR a₁ k) cs w₁) := by rw [Frame.atR_of_none hbn, Frame.atR_of_none hbn]; exact step_inScope
    exact ⟨.normal, a₁, w₁, hq, .head f1 s1 (StepsIn.trans harr (.one (fenced_calm hb hr rfl) s2))⟩
  | exit id => exact ⟨.exit id, a₁, w₁, hq, ⟨fun k' hk => .head f1 s1 (harr.1 k' (by simp [exitTo, hk])), fun h => by rw [hbn] at h; cases h⟩⟩
  | goto l => exact hq.elim
  | ret => exact ⟨_, a₁, w₁, hq, .of_steps (.one f1 s1) harr⟩
  | panic ch => exact ⟨_, a₁, w₁, hq, .of_steps (.one f1 s1) harr⟩
  | outgrown => exact ⟨_, a₁, w₁, hq, .of_steps (.one f1 s1) harr⟩
def zzX (d i : Nat) : Int := if d % 2 = 1 then 7 - (i : Int) else i
def zzY (d i : Nat) : Int := (d : Int) - zzX d i
def zzSkip (d i : Nat) : Bool := decide (7 < zzY d i) || decide (zzY d i < 0)
def zzStop (d i : Nat) : Bool := (d % 2 == 0 && zzY d i == 0) || (d % 2 == 1 && zzX d i == 0)
/-- the places of a diagonal, g steps ahead of its end. -/
def zzIn (d : Nat) : Nat → List Int
  | 0 => []
  | g + 1 => if zzSkip d (7 - g) then zzIn d g else (8 * zzY d (7 - g) + zzX d (7 - g)) :: (if zzStop d (7 - g) then [] else zzIn d g)
/-- the places of g diagonals, the last ones. -/
def zzD : Nat → List Int
  | 0 => []
  | g + 1 => zzIn (14 - g) 8 ++ zzD g
def zzL : List Int := zzD 15
theorem zzL_len : zzL.length = 64 := by kernel_rfl
theorem zzL_range : ∀ k ∈ zzL, 0 ≤ k ∧ k ≤ 63 := by decide +kernel
def ixZ : Value → Int
  | .int _ n => n
  | _ => 0
theorem zzIn_step (d i : Nat) (h : i < 8) : zzIn d (8 - i) = if zzSkip d i then zzIn d (8 - (i + 1)) else (8 * zzY d i + zzX d i) :: (if zzStop d i then [] else zzIn d (8 - (i + 1))) := by
  obtain ⟨g, hg⟩ : ∃ g, 8 - i = g + 1 := ⟨7 - i, by omega⟩
  rw [hg, zzIn, show 7 - g = i by omega, show 8 - (i + 1) = g by omega]
theorem zzD_step (d : Nat) (h : d < 15) : zzD (15 - d) = zzIn d 8 ++ zzD (15 - (d + 1)) := by
  obtain ⟨g, hg⟩ : ∃ g, 15 - d = g + 1 := ⟨14 - d, by omega⟩
  rw [hg, zzD, show 14 - g = d by omega, show 15 - (d + 1) = g by omega]
theorem scan_order (w : World) : Calls Tryz.prog 175 #[] w fun e w' => e = .returned (.func (.func 188) #[] #[]) ∧ w = w' := by
  go_enter Tryz.func175, Tryz.ntmps175
  go_wp2
  go_ret
  exact ⟨rfl, rfl⟩
set_option maxRecDepth 100000 in
set_option maxHeartbeats 4000000 in
theorem order_seq (n : Nat) (hn : 1 ≤ n) (I : List Int → World → Prop) :
    SeqU Fence.wide n Tryz.prog 188 #[] (fun x : Int => #[.int .i64 x]) I I (fun xs => xs = zzL) (fun pre => pre <+: zzL) := by
  intro lp K Jx W hK hY h0 hk0
  refine callsIn_of_wp Tryz.func188 rfl trivial ?_ rfl
  simp only [Tryz.ntmps188, List.size_toArray, List.length_cons, List.length_nil, Nat.reduceAdd, Nat.reduceSub, Array.replicate_succ, Array.replicate_zero, List.push_toArray, List.append_toArray, List.nil_append, List.cons_append]
  have HY := Lib.hid hY; have H0 := Lib.hid h0; have HK0 := Lib.hid hk0
  clear hY hK h0 hk0
  gi_wp2_with fail
  refine wpIn_scope rfl ?_
  gi_wp2_with fail
  refine wpIn_label ?_
  gi_wp2_with fail
  gi_loopw [6] (fun v6 wr => ∃ (d : Nat) (pre : List Int), v6 = .int .i64 (d : Int) ∧ d ≤ 15 ∧ Hid (zzL = pre ++ zzD (15 - d)) ∧ Hid (I pre wr) ∧ Hid (K wr)) (fun v6 _ => 15 - (ixZ v6).toNat)
  case atStart => exact ⟨0, [], rfl, by omega, Lib.hid rfl, H0, HK0⟩
  case round =>
    obtain ⟨d, pre0, rfl, hd, HD, HI0, HK1⟩ := hrel
    by_cases hdl : d < 15
    · have hdli : (d : Int) < 15 := by omega
      have HF0 := Lib.hid (show zzL = pre0 ++ (zzIn d (8 - 0) ++ zzD (15 - (d + 1))) by rw [HD.out, zzD_step d hdl])
      clear HD
      obtain ⟨wo, hwo⟩ : ∃ wo : World, wo = wr := ⟨_, rfl⟩
      rw [← hwo] at HI0 HK1 ⊢
      clear hwo
      gi_wp2_with fail
      gi_loopw [9] (fun v9 wr => ∃ (i : Nat) (pre : List Int), v9 = .int .i64 (i : Int) ∧ i ≤ 8 ∧ Hid (zzL = pre ++ (zzIn d (8 - i) ++ zzD (15 - (d + 1)))) ∧ Hid (I pre wr) ∧ Hid (K wr)) (fun v9 _ => 8 - (ixZ v9).toNat)
      case atStart => exact ⟨0, pre0, rfl, by omega, HF0, HI0, HK1⟩
      case round =>
        obtain ⟨i, pre, rfl, hi, HF, HIr, HKr⟩ := hrel
        by_cases hlt : i < 8
        · have hlti : (i : Int) < 8 := by omega
          have hdn : (0 : Int) ≤ (d : Int) := by omega
          by_cases hodd : d % 2 = 1
          · have hpar : ((d : Int) % 2 == 1) = true := by rw [beq_iff_eq]; omega
            have hpar0 : ((d : Int) % 2 == 0) = false := by rw [beq_eq_false_iff_ne]; omega
            have hX : zzX d i = (7 - (i : Int)) := by unfold zzX; rw [if_pos (by omega)]
            have hS : zzStop d i = ((7 - (i : Int)) == 0) := by unfold zzStop zzY; rw [hX]; simp [show d % 2 = 1 by omega]
            have HX := Lib.hid hX
            clear hX
            by_cases h7 : 7 < ((d : Int) - (7 - (i : Int)))
            · have d7 : decide (7 < ((d : Int) - (7 - (i : Int)))) = true := decide_eq_true h7
              have HSK := Lib.hid (show zzSkip d i = true by unfold zzSkip zzY; rw [HX.out, d7]; rfl)
              clear h7 hS
              gi_wp2_with fail
              refine ⟨⟨i + 1, pre, by simp, by omega, Lib.hid (by have h := HF.out; rw [zzIn_step d i hlt, HSK.out] at h; exact h), HIr, HKr⟩, ?_⟩
              show 8 - ((i : Int) + 1).toNat < 8 - (i : Int).toNat
              omega
            · have d7 : decide (7 < ((d : Int) - (7 - (i : Int)))) = false := decide_eq_false h7
              by_cases h0 : ((d : Int) - (7 - (i : Int))) < 0
              · have d0 : decide (((d : Int) - (7 - (i : Int))) < 0) = true := decide_eq_true h0
                have HSK := Lib.hid (show zzSkip d i = true by unfold zzSkip zzY; rw [HX.out, d7, d0]; rfl)
                clear h7 h0 hS
                gi_wp2_with fail
                refine ⟨⟨i + 1, pre, by simp, by omega, Lib.hid (by have h := HF.out; rw [zzIn_step d i hlt, HSK.out] at h; exact h), HIr, HKr⟩, ?_⟩
                show 8 - ((i : Int) + 1).toNat < 8 - (i : Int).toNat
                omega
              · have d0 : decide (((d : Int) - (7 - (i : Int))) < 0) = false := decide_eq_false h0
                have HSK := Lib.hid (show zzSkip d i = false by unfold zzSkip zzY; rw [HX.out, d7, d0]; rfl)
                have hy0 : 0 ≤ ((d : Int) - (7 - (i : Int))) := by omega
                have hy7 : ((d : Int) - (7 - (i : Int))) ≤ 7 := by omega
                have hsp : pre ++ [8 * ((d : Int) - (7 - (i : Int))) + (7 - (i : Int))] <+: zzL := by
                  have h := HF.out
                  rw [zzIn_step d i hlt, HSK.out, HX.out, show zzY d i = ((d : Int) - (7 - (i : Int))) by unfold zzY; rw [HX.out]] at h
                  rw [h]
                  exact ⟨(if zzStop d i = true then [] else zzIn d (8 - (i + 1))) ++ zzD (15 - (d + 1)), by simp⟩
                obtain ⟨fn, tmps, assign, body, hyy, hR⟩ := HY.out pre (8 * ((d : Int) - (7 - (i : Int))) + (7 - (i : Int))) wr HIr.out HKr.out hsp
                have HR := Lib.hid hR; have HSP := Lib.hid hsp; have HS := Lib.hid hS
                clear hR hsp h7 h0 hS
                gi_wp2_with fail
                refine HR.out.mono ?_
                rintro e W3 (⟨rfl, hI3, hk3⟩ | ⟨rfl, hJx3⟩)
                · have HI3 := Lib.hid hI3; have HK3 := Lib.hid hk3
                  clear hI3 hk3 hyy
                  by_cases hst : ((7 - (i : Int)) == 0) = true
                  · have HST := Lib.hid (HS.out.trans hst)
                    gi_wp2_with fail
                    refine ⟨⟨d + 1, pre ++ [8 * ((d : Int) - (7 - (i : Int))) + (7 - (i : Int))], by simp, by omega, Lib.hid ?_, HI3, HK3⟩, ?_⟩
                    · have h := HF.out
                      rw [zzIn_step d i hlt, HSK.out, HX.out, HST.out, show zzY d i = ((d : Int) - (7 - (i : Int))) by unfold zzY; rw [HX.out]] at h
                      rw [h]; simp
                    · show 15 - ((d : Int) + 1).toNat < 15 - (d : Int).toNat
                      omega
                  · have hst : ((7 - (i : Int)) == 0) = false := by simpa using hst
                    have HST := Lib.hid (HS.out.trans hst)
                    gi_wp2_with fail
                    refine ⟨⟨i + 1, pre ++ [8 * ((d : Int) - (7 - (i : Int))) + (7 - (i : Int))], by simp, by omega, Lib.hid ?_, HI3, HK3⟩, ?_⟩
                    · have h := HF.out
                      rw [zzIn_step d i hlt, HSK.out, HX.out, HST.out, show zzY d i = ((d : Int) - (7 - (i : Int))) by unfold zzY; rw [HX.out]] at h
                      rw [h]; simp
                    · show 8 - ((i : Int) + 1).toNat < 8 - (i : Int).toNat
                      omega
                · gi_wp2_with fail
                  rw [Exit.noGoto_ret]
                  refine bodyPost_ret (results_none rfl _ _ _) rfl ?_
                  exact ⟨⟨_, rfl⟩, .inr ⟨_, HSP.out, hJx3⟩⟩
          · have hpar : ((d : Int) % 2 == 1) = false := by rw [beq_eq_false_iff_ne]; omega
            have hpar0 : ((d : Int) % 2 == 0) = true := by rw [beq_iff_eq]; omega
            have hX : zzX d i = (i : Int) := by unfold zzX; rw [if_neg (by omega)]
            have hS : zzStop d i = ((d : Int) - (i : Int) == 0) := by unfold zzStop zzY; rw [hX]; simp [show d % 2 = 0 by omega]
            have HX := Lib.hid hX
            clear hX
            by_cases h7 : 7 < ((d : Int) - (i : Int))
            · have d7 : decide (7 < ((d : Int) - (i : Int))) = true := decide_eq_true h7
              have HSK := Lib.hid (show zzSkip d i = true by unfold zzSkip zzY; rw [HX.out, d7]; rfl)
              clear h7 hS
              gi_wp2_with fail
              refine ⟨⟨i + 1, pre, by simp, by omega, Lib.hid (by have h := HF.out; rw [zzIn_step d i hlt, HSK.out] at h; exact h), HIr, HKr⟩, ?_⟩
              show 8 - ((i : Int) + 1).toNat < 8 - (i : Int).toNat
              omega
            · have d7 : decide (7 < ((d : Int) - (i : Int))) = false := decide_eq_false h7
              by_cases h0 : ((d : Int) - (i : Int)) < 0
              · have d0 : decide (((d : Int) - (i : Int)) < 0) = true := decide_eq_true h0
                have HSK := Lib.hid (show zzSkip d i = true by unfold zzSkip zzY; rw [HX.out, d7, d0]; rfl)
                clear h7 h0 hS
                gi_wp2_with fail
                refine ⟨⟨i + 1, pre, by simp, by omega, Lib.hid (by have h := HF.out; rw [zzIn_step d i hlt, HSK.out] at h; exact h), HIr, HKr⟩, ?_⟩
                show 8 - ((i : Int) + 1).toNat < 8 - (i : Int).toNat
                omega
              · have d0 : decide (((d : Int) - (i : Int)) < 0) = false := decide_eq_false h0
                have HSK := Lib.hid (show zzSkip d i = false by unfold zzSkip zzY; rw [HX.out, d7, d0]; rfl)
                have hy0 : 0 ≤ ((d : Int) - (i : Int)) := by omega
                have hy7 : ((d : Int) - (i : Int)) ≤ 7 := by omega
                have hsp : pre ++ [8 * ((d : Int) - (i : Int)) + (i : Int)] <+: zzL := by
                  have h := HF.out
                  rw [zzIn_step d i hlt, HSK.out, HX.out, show zzY d i = ((d : Int) - (i : Int)) by unfold zzY; rw [HX.out]] at h
                  rw [h]
                  exact ⟨(if zzStop d i = true then [] else zzIn d (8 - (i + 1))) ++ zzD (15 - (d + 1)), by simp⟩
                obtain ⟨fn, tmps, assign, body, hyy, hR⟩ := HY.out pre (8 * ((d : Int) - (i : Int)) + (i : Int)) wr HIr.out HKr.out hsp
                have HR := Lib.hid hR; have HSP := Lib.hid hsp; have HS := Lib.hid hS
                clear hR hsp h7 h0 hS
                gi_wp2_with fail
                refine HR.out.mono ?_
                rintro e W3 (⟨rfl, hI3, hk3⟩ | ⟨rfl, hJx3⟩)
                · have HI3 := Lib.hid hI3; have HK3 := Lib.hid hk3
                  clear hI3 hk3 hyy
                  by_cases hst : ((d : Int) - (i : Int) == 0) = true
                  · have HST := Lib.hid (HS.out.trans hst)
                    gi_wp2_with fail
                    refine ⟨⟨d + 1, pre ++ [8 * ((d : Int) - (i : Int)) + (i : Int)], by simp, by omega, Lib.hid ?_, HI3, HK3⟩, ?_⟩
                    · have h := HF.out
                      rw [zzIn_step d i hlt, HSK.out, HX.out, HST.out, show zzY d i = ((d : Int) - (i : Int)) by unfold zzY; rw [HX.out]] at h
                      rw [h]; simp
                    · show 15 - ((d : Int) + 1).toNat < 15 - (d : Int).toNat
                      omega
                  · have hst : ((d : Int) - (i : Int) == 0) = false := by simpa using hst
                    have HST := Lib.hid (HS.out.trans hst)
                    gi_wp2_with fail
                    refine ⟨⟨i + 1, pre ++ [8 * ((d : Int) - (i : Int)) + (i : Int)], by simp, by omega, Lib.hid ?_, HI3, HK3⟩, ?_⟩
                    · have h := HF.out
                      rw [zzIn_step d i hlt, HSK.out, HX.out, HST.out, show zzY d i = ((d : Int) - (i : Int)) by unfold zzY; rw [HX.out]] at h
                      rw [h]; simp
                    · show 8 - ((i : Int) + 1).toNat < 8 - (i : Int).toNat
                      omega
                · gi_wp2_with fail
                  rw [Exit.noGoto_ret]
                  refine bodyPost_ret (results_none rfl _ _ _) rfl ?_
                  exact ⟨⟨_, rfl⟩, .inr ⟨_, HSP.out, hJx3⟩⟩
        · have hie : i = 8 := by omega
          subst hie
          gi_wp2_with fail
          refine ⟨⟨d + 1, pre, by simp, by omega, Lib.hid (by have h := HF.out; rw [show zzIn d (8 - 8) = [] from rfl] at h; simpa using h), HIr, HKr⟩, ?_⟩
          show 15 - ((d : Int) + 1).toNat < 15 - (d : Int).toNat
          omega
    · have hde : d = 15 := by omega
      subst hde
      gi_wp2_with fail
      rw [Exit.noGoto_normal]
      refine bodyPost_end (results_none rfl _ _ _) rfl ?_
      have he : zzL = pre0 := by have h := HD.out; rw [show zzD (15 - 15) = [] from rfl] at h; simpa using h
      exact ⟨⟨_, rfl⟩, .inl (by first | exact ⟨_, he.symm, HI0.out, HK1.out⟩ | exact ⟨by rw [he]; exact HI0.out, HK1.out⟩)⟩
end Go.Proofs.YtcojnigkgbmbmaaGreatDoor
namespace Go.Proofs.YtcojnigkgbmbmaaGreatDoor
open Go Go.RowKit
attribute [local go_sem] Oper.semAt_some
def arrZ (pre : List Int) : List Value := pre.map intV ++ List.replicate (64 - pre.length) (intV 0)
theorem arrZ_len {pre : List Int} (h : pre.length ≤ 64) : (arrZ pre).length = 64 := by simp [arrZ]; omega
theorem arrZ_set {pre : List Int} (h : pre.length < 64) (x : Int) : (arrZ pre).set pre.length (intV x) = arrZ (pre ++ [x]) := by
  unfold arrZ
  obtain ⟨g, hg⟩ : ∃ g, 64 - pre.length = g + 1 := ⟨63 - pre.length, by omega⟩
  rw [hg, List.replicate_succ, List.set_append_right _ _ (by simp)]
  simp [show 64 - (pre.length + 1) = g by omega]
def csZ : Array Value := (zzL.map intV).toArray
theorem csZ_size : csZ.size = 64 := by simp [csZ, zzL_len]
theorem csZ_one : csZ.all (·.oneCell') = true := by
  rw [Array.all_eq_true]
  intro i hi
  simp [csZ, intV, Value.oneCell']
theorem csZ_get (k : Nat) (h : k < 64) : csZ[k]? = some (.int .i64 (zzL[k]'(by rw [zzL_len]; exact h))) := by
  simp [csZ, zzL_len, h, intV]
theorem scan_level (n : Int) (w : World) : Calls Tryz.prog 163 #[.int .i64 n] w fun e w' => e = .returned (.bool (decide (-127 ≤ n) && decide (n ≤ 127))) ∧ w = w' := by
  cases a : decide (-127 ≤ n) with
  | false =>
    simp only [Bool.false_and]
    go_enter Tryz.func163, Tryz.ntmps163
    go_wp2
    go_ret
    exact ⟨rfl, rfl⟩
  | true =>
    cases b : decide (n ≤ 127) with
    | false =>
      simp only [Bool.and_false]
      go_enter Tryz.func163, Tryz.ntmps163
      go_wp2
      go_ret
      exact ⟨rfl, rfl⟩
    | true =>
      simp only [Bool.and_self]
      go_enter Tryz.func163, Tryz.ntmps163
      go_wp2
      go_ret
      exact ⟨rfl, rfl⟩
set_option maxRecDepth 100000 in
set_option maxHeartbeats 4000000 in
theorem scan_places (w : World) : Calls Tryz.prog 162 #[] w fun e w' => e = .returned (.agg csZ) ∧ Below w.heap.size w w' := by
  obtain ⟨CS, hcs⟩ : ∃ CS, CS = csZ := ⟨_, rfl⟩
  rw [← hcs]
  have HCS := Lib.hid hcs
  clear hcs
  refine (callsIn_wide (n := 5)).1 ?_
  refine callsIn_of_wp_marks Tryz.func162 rfl trivial ?_ rfl
  simp only [Tryz.ntmps162, List.size_toArray, List.length_cons, List.length_nil, Nat.reduceAdd, Nat.reduceSub, Array.replicate_succ, Array.replicate_zero, List.push_toArray, List.append_toArray, List.nil_append, List.cons_append]
  refine wpIn_wide.2 ?_
  go_wp2_with (go_at_call 175; refine (scan_order _).mono ?_; rintro e w' ⟨rfl, rfl⟩)
  refine (wpIn_wide (n := 5)).1 ?_
  refine wp_uF (α := Int) (enc := fun x => #[.int .i64 x]) (I := ICons w (fun (pre : List Int) (_ : Unit) => pre.length ≤ 64) (fun pre _ => [(w.heap.size, 195, (arrZ pre).toArray), (w.heap.size + 1, 3, #[.int .i64 (pre.length : Int)])]) (fun _ _ => [])) (I2 := ICons w (fun (pre : List Int) (_ : Unit) => pre.length ≤ 64) (fun pre _ => [(w.heap.size, 195, (arrZ pre).toArray), (w.heap.size + 1, 3, #[.int .i64 (pre.length : Int)])]) (fun _ _ => [])) (S := fun xs => xs = zzL) (Sp := fun pre => pre <+: zzL)
    rfl (by decide) (gf := 188) (lb := #[]) rfl trivial (enters_of Tryz.func188 (by kernel_rfl) rfl)
    (order_seq 4 (by decide) _) (fun _ => rfl)
    (fun _ _ _ => False)
    (fun pre _ _ W => ICons w (fun (pre : List Int) (_ : Unit) => pre.length ≤ 64) (fun pre _ => [(w.heap.size, 195, (arrZ pre).toArray), (w.heap.size + 1, 3, #[.int .i64 (pre.length : Int)])]) (fun _ _ => []) pre W)
    (own_ic (by simp; omega) _ _ _) (own_ic (by simp; omega) _ _ _) (fun _ _ _ _ _ h _ _ => h) (fun x g => own_ic (by simp; omega) _ _ _) ?start ?round ?done ?stop
  case start =>
    refine ⟨⟨(), by simp, ?_, ?_, rowsAt_nil _⟩⟩
    · exact ((Below.refl _ _).alloc (Nat.le_refl _) _).alloc (by simp) _
    · refine CellsAt.cons ?_ (CellsAt.cons ?_ (cellsAt_nil _))
      · exact (Blk.new w 195 _).alloc _
      · (repeat (first | (refine blkAt (Blk.new _ _ _) ?_; simp [World.size_alloc]; done) | refine Blk.alloc ?_ _))
  case round =>
    apply Exists.intro
    refine And.intro ?_ ?_
    · rintro lp pre x W hI hsp
      clear hsp
      gi_wp2
      obtain ⟨g0, _⟩ : ∃ g0 : Nat, g0 = 0 := ⟨_, rfl⟩
      exact ⟨⟨g0, rfl, hI⟩, KeepsFrom.refl _ _⟩
    · rintro lp pre x g W ⟨⟨_, hu, hc⟩⟩ hsp
      have hl : pre.length < 64 := by have := hsp.length_le; rw [zzL_len] at this; simp at this; omega
      have hli : (pre.length : Int) < 64 := by omega
      have hl0 : ¬ ((pre.length : Int) < 0) := by omega
      have hw1 : IntKind.i64.wrap ((pre.length : Int) + 1) = (pre.length : Int) + 1 := by rw [IntKind.wrap_i64]; omega
      have b0 := hc.2.1.head
      have b1 := hc.2.1.tail.head
      dsimp only at b0 b1
      have x1 := b1.cell 0
      have f1 := b1.frozen 0
      obtain ⟨v0, x0⟩ : ∃ v0, W.cell? ⟨w.heap.size, pre.length, none⟩ = some v0 := by rw [b0.cell, List.getElem?_toArray]; exact ⟨_, List.getElem?_eq_getElem (by rw [arrZ_len hu]; exact hl)⟩
      have f0 := b0.frozen pre.length
      have HC := Lib.hid hc; have HL := Lib.hid hl; have HSET := Lib.hid (arrZ_set hl x)
      clear hc b0 b1 hsp hu
      gi_wp2_with fail
      refine ⟨kf_set (kf_set (KeepsFrom.refl _ _) _ _) _ _, trivial, ⟨⟨(), ?_, ?_⟩⟩⟩
      · have := HL.out; rw [List.length_append]; simp; omega
      · have h1 := cons_set HC.out (Nat.le_refl _) pre.length (.int .i64 x) (by simp) (by simp)
        have h2 := cons_set (cons_cswap h1) (Nat.le_succ _) 0 (.int .i64 ((pre.length : Int) + 1)) (by simp) (by simp)
        have h3 := cons_cswap h2
        rw [List.setIfInBounds_toArray, show (arrZ pre).set pre.length (Value.int .i64 x) = arrZ (pre ++ [x]) from HSET.out] at h3
        rw [List.length_append]
        exact h3
  case done =>
    rintro D xs W hD rfl ⟨⟨_, hu, hc⟩⟩ hK
    have hb : Blk W w.heap.size 195 CS := by
      rw [HCS.out]
      have h := hc.2.1.head
      dsimp only at h
      rw [show arrZ zzL = zzL.map intV by simp [arrZ, zzL_len]] at h
      exact h
    have hsz : CS.size = 64 := by rw [HCS.out]; exact csZ_size
    have hone : CS.all (·.oneCell') = true := by rw [HCS.out]; exact csZ_one
    have hinf : (Tryz.prog.info? 195).map (·.size) = some CS.size := by rw [hsz]; kernel_rfl
    have HB := Lib.hid hb; have HBe := Lib.hid hc.1; have HK := Lib.hid hK; have HI := Lib.hid hinf; have HO := Lib.hid hone
    clear hc hu hb hsz hone hinf hK
    gi_wp2_with fail
    go_wp2_with (first
      | (refine wpList_load_row rfl 195 _ rfl w.heap.size rfl 195 CS (0, 0) _ HB.out Tryz.underlying195 rfl HI.out ?_)
      | (refine wpList_store_rowTo rfl 195 _ _ rfl rfl w.heap.size CS rfl rfl 195 CS HB.out HI.out rfl HO.out ?_))
    rw [setRow_self _ _ CS 195 (0, 0) HB.out]
    have hb4 : Blk (W.putObj D (.deferred none)) w.heap.size 195 CS := (cells_put (L := [(w.heap.size, 195, CS)]) (o' := .deferred none) (CellsAt.cons HB.out (cellsAt_nil _)) HK.out rfl).head
    simp only [Act.put]
    exact retM HK.out (results_cell_row rfl _ _ w.heap.size 195 CS (0, 0) _ rfl hb4 Tryz.underlying195 rfl HI.out) ⟨rfl, below_put HBe.out (by simp at hD; omega)⟩
  case stop =>
    rintro D cd pre W hD hsp h hK
    exact h.elim
end Go.Proofs.YtcojnigkgbmbmaaGreatDoor
namespace Go.Proofs.YtcojnigkgbmbmaaGreatDoor
open Go Go.RowKit
attribute [local go_sem] Oper.semAt_some
def pairC (p : Int × Int) : List Value := [.int .i64 p.1, .int .i64 p.2]
theorem pairC_len (p : Int × Int) : (pairC p).length = 2 := rfl
theorem sl_pair {w : World} {A : Option Addr} {l : List (Int × Int)} (h : Sl w A (rowC pairC l)) (i : Nat) (hi : i < l.length) : ∃ ad, A = some ad ∧ ad.block < w.heap.size ∧ w.cell? (ad.add (i * 2)) = some (.int .i64 l[i].1) ∧ w.cell? ⟨(ad.add (i * 2)).block, (ad.add (i * 2)).off + 1, none⟩ = some (.int .i64 l[i].2) := by
  have h0 := rowC_get pairC_len l i hi 0 (by decide)
  have h1 := rowC_get pairC_len l i hi 1 (by decide)
  rw [Nat.add_zero] at h0
  obtain ⟨ad, rfl, hl, c0⟩ := h _ _ (h0.trans rfl)
  obtain ⟨ad', e, _, c1⟩ := h _ _ (h1.trans rfl)
  cases e
  rw [← addr_add_add] at c1
  exact ⟨ad, rfl, hl, c0, c1⟩
def zzAt (k : Nat) : Int := zzL.getD k 0
theorem zzAt_range (k : Nat) (h : k < 64) : 0 ≤ zzAt k ∧ zzAt k ≤ 63 := by
  have hm : zzAt k ∈ zzL := by unfold zzAt; rw [List.getD_eq_getElem?_getD, List.getElem?_eq_getElem (by rw [zzL_len]; exact h)]; exact List.getElem_mem _
  exact zzL_range _ hm
theorem csZ_at (k : Nat) (h : k < 64) : csZ[k]? = some (.int .i64 (zzAt k)) := by
  rw [csZ_get k h]; unfold zzAt; rw [List.getD_eq_getElem?_getD, List.getElem?_eq_getElem (by rw [zzL_len]; exact h)]; rfl
/-- the block that pairs are spread to. -/
def spreadB : List Int → List (Int × Int) → Int → List Int
  | B, [], _ => B
  | B, p :: l, a => spreadB (B.set (zzAt (a + p.1).toNat).toNat p.2) l (a + p.1 + 1)
def zeros64 : List Int := List.replicate 64 0
def spreadL (l : List (Int × Int)) (fr : Int) : List Int := spreadB zeros64 l fr
theorem spread_cons (p : Int × Int) (l : List (Int × Int)) (a : Int) : spreadP (p :: l) a = if p.2 == 0 || !(decide (-127 ≤ p.2) && decide (p.2 ≤ 127)) then 10 else if decide (p.1 < 0) || decide (63 - a < p.1) then 11 else spreadP l (a + p.1 + 1) := rfl
def SprPost (l : List (Int × Int)) (fr : Int) (w : World) (e : Ending) (w' : World) : Prop := ∃ v, e = .returned (.tuple #[v, .int .i64 (spreadP l fr)]) ∧ Below w.heap.size w w' ∧
  (spreadP l fr = 0 → ∃ b, v = .slice (some ⟨b, 0, none⟩) 64 64 ∧ Blk w' b 195 ((spreadL l fr).map intV).toArray) ∧ (spreadP l fr ≠ 0 → v = .slice none 0 0)
set_option maxRecDepth 100000 in
set_option maxHeartbeats 4000000 in
theorem scan_Spread (l : List (Int × Int)) (A : Option Addr) (n c : Nat) (fr : Int) (hfr : fr = 0 ∨ fr = 1) (w : World) (hS : Sl w A (rowC pairC l)) (hn : l.length = n) (hsz : n ≤ 1099511627776) :
    Calls Tryz.prog 138 #[.slice A n c, .int .i64 fr] w (SprPost l fr w) := by
  obtain ⟨E, hE⟩ : ∃ E, spreadP l fr = E := ⟨_, rfl⟩
  obtain ⟨BL, hBL⟩ : ∃ B, spreadL l fr = B := ⟨_, rfl⟩
  unfold SprPost
  rw [hE, hBL]
  have HE := Lib.hid hE; have HBL := Lib.hid hBL; have HS := Lib.hid hS; have HN := Lib.hid hn
  clear hE hBL hS hn
  obtain ⟨CS, hcs⟩ : ∃ CS, CS = csZ := ⟨_, rfl⟩
  have CP := Lib.hid (fun W => scan_places W)
  rw [← hcs] at CP
  have hsz2 : CS.size = 64 := by rw [hcs]; exact csZ_size
  have hinf : (Tryz.prog.info? 195).map (·.size) = some CS.size := by rw [hsz2]; kernel_rfl
  have HI := Lib.hid hinf
  have HO := Lib.hid (show CS.all (·.oneCell') = true by rw [hcs]; exact csZ_one)
  have HSZ := Lib.hid hsz2
  have HCS := Lib.hid hcs
  clear hsz2 hinf hcs
  have hz : Blk (w.alloc (.cells (zeros64.map intV).toArray 195)) w.heap.size 195 (zeros64.map intV).toArray := Blk.new _ _ _
  have HZ := Lib.hid hz
  clear hz
  rcases hfr with rfl | rfl
  all_goals
    go_enter Tryz.func138, Tryz.ntmps138
    go_wp2_with (first
      | (go_at_call 162; refine (CP.out _).mono ?_; rintro e w2 ⟨rfl, hb2⟩; have HB2 := Lib.hid hb2; have HZ2 := Lib.hid (HZ.out.below hb2 HZ.out.lt); clear hb2)
      | (refine wpList_store_rowTo rfl 195 _ _ rfl rfl w2.heap.size CS rfl rfl 195 (zeros64.map intV).toArray (heap_alloc_new w2 _) HI.out (by rw [HSZ.out]; rfl) HO.out ?_))
    have hW0 : ((w2.alloc (.cells #[.int .i64 0, .int .i64 0, .int .i64 0, .int .i64 0, .int .i64 0, .int .i64 0, .int .i64 0, .int .i64 0, .int .i64 0, .int .i64 0, .int .i64 0, .int .i64 0, .int .i64 0, .int .i64 0, .int .i64 0, .int .i64 0, .int .i64 0, .int .i64 0, .int .i64 0, .int .i64 0, .int .i64 0, .int .i64 0, .int .i64 0, .int .i64 0, .int .i64 0, .int .i64 0, .int .i64 0, .int .i64 0, .int .i64 0, .int .i64 0, .int .i64 0, .int .i64 0, .int .i64 0, .int .i64 0, .int .i64 0, .int .i64 0, .int .i64 0, .int .i64 0, .int .i64 0, .int .i64 0, .int .i64 0, .int .i64 0, .int .i64 0, .int .i64 0, .int .i64 0, .int .i64 0, .int .i64 0, .int .i64 0, .int .i64 0, .int .i64 0, .int .i64 0, .int .i64 0, .int .i64 0, .int .i64 0, .int .i64 0, .int .i64 0, .int .i64 0, .int .i64 0, .int .i64 0, .int .i64 0, .int .i64 0, .int .i64 0, .int .i64 0, .int .i64 0] 195)).setRow w2.heap.size CS).heap[w2.heap.size]? = some (.cells CS 195 (0, 0)) := setRow_heap _ w2.heap.size (zeros64.map intV).toArray CS 195 (0, 0) (heap_alloc_new w2 _)
    have hB0 : Below w2.heap.size w2 ((w2.alloc (.cells #[.int .i64 0, .int .i64 0, .int .i64 0, .int .i64 0, .int .i64 0, .int .i64 0, .int .i64 0, .int .i64 0, .int .i64 0, .int .i64 0, .int .i64 0, .int .i64 0, .int .i64 0, .int .i64 0, .int .i64 0, .int .i64 0, .int .i64 0, .int .i64 0, .int .i64 0, .int .i64 0, .int .i64 0, .int .i64 0, .int .i64 0, .int .i64 0, .int .i64 0, .int .i64 0, .int .i64 0, .int .i64 0, .int .i64 0, .int .i64 0, .int .i64 0, .int .i64 0, .int .i64 0, .int .i64 0, .int .i64 0, .int .i64 0, .int .i64 0, .int .i64 0, .int .i64 0, .int .i64 0, .int .i64 0, .int .i64 0, .int .i64 0, .int .i64 0, .int .i64 0, .int .i64 0, .int .i64 0, .int .i64 0, .int .i64 0, .int .i64 0, .int .i64 0, .int .i64 0, .int .i64 0, .int .i64 0, .int .i64 0, .int .i64 0, .int .i64 0, .int .i64 0, .int .i64 0, .int .i64 0, .int .i64 0, .int .i64 0, .int .i64 0, .int .i64 0] 195)).setRow w2.heap.size CS) := below_setRow' ((Below.refl _ _).alloc (Nat.le_refl _) _) (Nat.le_refl _) CS
    have hZ0 := HZ2.out.below hB0 HZ2.out.lt
    have hT0 : Below w.heap.size w ((w2.alloc (.cells #[.int .i64 0, .int .i64 0, .int .i64 0, .int .i64 0, .int .i64 0, .int .i64 0, .int .i64 0, .int .i64 0, .int .i64 0, .int .i64 0, .int .i64 0, .int .i64 0, .int .i64 0, .int .i64 0, .int .i64 0, .int .i64 0, .int .i64 0, .int .i64 0, .int .i64 0, .int .i64 0, .int .i64 0, .int .i64 0, .int .i64 0, .int .i64 0, .int .i64 0, .int .i64 0, .int .i64 0, .int .i64 0, .int .i64 0, .int .i64 0, .int .i64 0, .int .i64 0, .int .i64 0, .int .i64 0, .int .i64 0, .int .i64 0, .int .i64 0, .int .i64 0, .int .i64 0, .int .i64 0, .int .i64 0, .int .i64 0, .int .i64 0, .int .i64 0, .int .i64 0, .int .i64 0, .int .i64 0, .int .i64 0, .int .i64 0, .int .i64 0, .int .i64 0, .int .i64 0, .int .i64 0, .int .i64 0, .int .i64 0, .int .i64 0, .int .i64 0, .int .i64 0, .int .i64 0, .int .i64 0, .int .i64 0, .int .i64 0, .int .i64 0, .int .i64 0] 195)).setRow w2.heap.size CS) := ((((Below.refl _ w).alloc (Nat.le_refl _) (.cells (zeros64.map intV).toArray 195)).trans (HB2.out.mono (by simp)))).trans (hB0.mono (by have := HB2.out.size; simp at this; omega))
    generalize ((w2.alloc (.cells #[.int .i64 0, .int .i64 0, .int .i64 0, .int .i64 0, .int .i64 0, .int .i64 0, .int .i64 0, .int .i64 0, .int .i64 0, .int .i64 0, .int .i64 0, .int .i64 0, .int .i64 0, .int .i64 0, .int .i64 0, .int .i64 0, .int .i64 0, .int .i64 0, .int .i64 0, .int .i64 0, .int .i64 0, .int .i64 0, .int .i64 0, .int .i64 0, .int .i64 0, .int .i64 0, .int .i64 0, .int .i64 0, .int .i64 0, .int .i64 0, .int .i64 0, .int .i64 0, .int .i64 0, .int .i64 0, .int .i64 0, .int .i64 0, .int .i64 0, .int .i64 0, .int .i64 0, .int .i64 0, .int .i64 0, .int .i64 0, .int .i64 0, .int .i64 0, .int .i64 0, .int .i64 0, .int .i64 0, .int .i64 0, .int .i64 0, .int .i64 0, .int .i64 0, .int .i64 0, .int .i64 0, .int .i64 0, .int .i64 0, .int .i64 0, .int .i64 0, .int .i64 0, .int .i64 0, .int .i64 0, .int .i64 0, .int .i64 0, .int .i64 0, .int .i64 0] 195)).setRow w2.heap.size CS) = W0 at hW0 hB0 hZ0 hT0 ⊢
    have hlt2 : w.heap.size < w2.heap.size := HZ2.out.lt
    have HC0 : Hid (Cons w [(w.heap.size, 195, (zeros64.map intV).toArray), (w2.heap.size, 195, CS)] [] W0) := Lib.hid ⟨hT0, CellsAt.cons hZ0 (CellsAt.cons hW0 (cellsAt_nil _)), rowsAt_nil _⟩
    have HLT2 := Lib.hid hlt2
    clear hW0 hB0 hZ0 hT0 HZ2 HB2 CP HZ hlt2
    generalize w2.heap.size = b8 at HC0 HLT2 ⊢
    go_loopg [7, 21] n (fun g v7 v21 => fun wr => ∃ (j a : Nat) (B : List Int), j + g = n ∧ v7 = .int .i64 (a : Int) ∧ v21 = .int .i64 (j : Int) ∧ a ≤ 64 ∧ B.length = 64 ∧ Hid (spreadP (l.drop j) (a : Int) = E) ∧ Hid (spreadB B (l.drop j) (a : Int) = BL) ∧ Hid (Cons w [(w.heap.size, 195, (B.map intV).toArray), (b8, 195, CS)] [] wr))
    case atStart => exact ⟨0, _, zeros64, by omega, rfl, rfl, by decide, by decide, HE, HBL, HC0⟩
    case round =>
      obtain ⟨j, a, B, hj, rfl, rfl, ha, hBl, HP, HQ, HC⟩ := hrel
      cases gk with
      | zero =>
        have hjn : j = n := by omega
        have hlt : ¬ ((j : Int) < (n : Int)) := by omega
        have hp := HP.out
        have hq := HQ.out
        rw [List.drop_eq_nil_of_le (by rw [HN.out]; omega)] at hp hq
        have HP2 := Lib.hid (show (0 : Int) = E from hp)
        have HQ2 := Lib.hid (show B = BL from hq)
        clear hp hq
        go_wp2_with fail
        go_ret2
        refine ⟨_, by rw [← HP2.out]; rfl, HC.out.1, fun _ => ⟨w.heap.size, rfl, by rw [← HQ2.out]; exact HC.out.2.1.head⟩, fun h => absurd HP2.out.symm h⟩
      | succ g =>
        have hlt : ((j : Int) < (n : Int)) := by omega
        have hjl : j < l.length := by rw [HN.out]; omega
        obtain ⟨ad, rfl, hab, c0, c1⟩ := sl_pair (HS.out.below HC.out.1) j hjl
        have hp := HP.out
        have hq := HQ.out
        rw [List.drop_eq_getElem_cons hjl] at hp hq
        obtain ⟨⟨p1, p2⟩, hpe⟩ : ∃ p, l[j] = p := ⟨_, rfl⟩
        rw [hpe] at c0 c1 hp hq
        rw [spread_cons] at hp
        dsimp only at c0 c1 hp
        have hq : spreadB (B.set (zzAt ((a : Int) + p1).toNat).toNat p2) (l.drop (j + 1)) ((a : Int) + p1 + 1) = BL := hq
        have HPP := Lib.hid hp; have HQQ := Lib.hid hq; have HBl := Lib.hid hBl
        have hw1 : IntKind.i64.wrap ((j : Int) + 1) = (j : Int) + 1 := by rw [IntKind.wrap_i64]; omega
        clear hp hq hpe hjl hBl
        cases hz : (p2 == 0) with
        | true =>
          have HEE := Lib.hid (show (10 : Int) = E by have h := HPP.out; rw [hz] at h; exact h)
          go_wp2_with (go_at_call 163; refine (scan_level _ _).mono ?_; rintro e w' ⟨rfl, rfl⟩)
          go_ret2
          exact ⟨_, by rw [← HEE.out]; rfl, HC.out.1.alloc HC.out.1.size _, fun h => absurd (HEE.out.trans h) (by decide), fun _ => rfl⟩
        | false =>
          cases hl : (decide (-127 ≤ p2) && decide (p2 ≤ 127)) with
          | false =>
            have HEE := Lib.hid (show (10 : Int) = E by have h := HPP.out; rw [hz, hl] at h; exact h)
            go_wp2_with (go_at_call 163; refine (scan_level _ _).mono ?_; rintro e w' ⟨rfl, rfl⟩)
            go_ret2
            exact ⟨_, by rw [← HEE.out]; rfl, HC.out.1.alloc HC.out.1.size _, fun h => absurd (HEE.out.trans h) (by decide), fun _ => rfl⟩
          | true =>
            by_cases hr0 : p1 < 0
            · have d0 : decide (p1 < 0) = true := decide_eq_true hr0
              have HEE := Lib.hid (show (11 : Int) = E by have h := HPP.out; rw [hz, hl, d0] at h; exact h)
              clear hr0
              go_wp2_with (go_at_call 163; refine (scan_level _ _).mono ?_; rintro e w' ⟨rfl, rfl⟩)
              go_ret2
              exact ⟨_, by rw [← HEE.out]; rfl, HC.out.1.alloc HC.out.1.size _, fun h => absurd (HEE.out.trans h) (by decide), fun _ => rfl⟩
            · have d0 : decide (p1 < 0) = false := decide_eq_false hr0
              by_cases hr1 : 63 - (a : Int) < p1
              · have d1 : decide (63 - (a : Int) < p1) = true := decide_eq_true hr1
                have HEE := Lib.hid (show (11 : Int) = E by have h := HPP.out; rw [hz, hl, d0, d1] at h; exact h)
                clear hr0 hr1
                go_wp2_with (go_at_call 163; refine (scan_level _ _).mono ?_; rintro e w' ⟨rfl, rfl⟩)
                go_ret2
                exact ⟨_, by rw [← HEE.out]; rfl, HC.out.1.alloc HC.out.1.size _, fun h => absurd (HEE.out.trans h) (by decide), fun _ => rfl⟩
              · have d1 : decide (63 - (a : Int) < p1) = false := decide_eq_false hr1
                have HEE := Lib.hid (show spreadP (l.drop (j + 1)) ((a : Int) + p1 + 1) = E by have h := HPP.out; rw [hz, hl, d0, d1] at h; exact h)
                obtain ⟨r, rfl⟩ := Int.eq_ofNat_of_zero_le (by omega : 0 ≤ p1)
                obtain ⟨q, hqd⟩ : ∃ q, q = a + r := ⟨_, rfl⟩
                have hq63 : q ≤ 63 := by omega
                obtain ⟨z, hze⟩ : ∃ z : Nat, zzAt q = (z : Int) := ⟨(zzAt q).toNat, by have := zzAt_range q (by omega); omega⟩
                have hz63 : z ≤ 63 := by have := zzAt_range q (by omega); omega
                have hqi : (a : Int) + (r : Int) = (q : Int) := by omega
                have HQ3 := Lib.hid (show spreadB (B.set z p2) (l.drop (j + 1)) ((q : Int) + 1) = BL by have h := HQQ.out; rw [hqi, Int.toNat_natCast, hze, Int.toNat_natCast] at h; exact h)
                rw [hqi] at HEE
                have HCA := Lib.hid (cons_alloc HC.out (.cells #[.int .i64 (r : Int), .int .i64 p2] 109))
                have x8 : (wr.alloc (.cells #[.int .i64 (r : Int), .int .i64 p2] 109)).cell? ⟨b8, q, none⟩ = some (.int .i64 (z : Int)) := by
                  have h := HCA.out.2.1.tail.head
                  dsimp only at h
                  rw [h.cell, HCS.out, csZ_at q (by omega), hze]
                have xp := (Blk.new wr 109 #[.int .i64 (r : Int), .int .i64 p2]).cell 1
                have fz := HCA.out.2.1.head.frozen z
                obtain ⟨vz, xz⟩ : ∃ vz, (wr.alloc (.cells #[.int .i64 (r : Int), .int .i64 p2] 109)).cell? ⟨w.heap.size, z, none⟩ = some vz := by
                  have h := HCA.out.2.1.head
                  dsimp only at h
                  rw [h.cell, List.getElem?_toArray]
                  exact ⟨_, List.getElem?_eq_getElem (by rw [List.length_map, HBl.out]; omega)⟩
                have hqn : ¬ ((q : Int) < 0) := by omega
                have hq64 : (q : Int) < 64 := by omega
                have hzn : ¬ ((z : Int) < 0) := by omega
                have hz64 : (z : Int) < 64 := by omega
                have hw2 : IntKind.i64.wrap ((q : Int) + 1) = (q : Int) + 1 := by rw [IntKind.wrap_i64]; omega
                have hw3 : IntKind.i64.wrap ((a : Int) + (r : Int)) = (q : Int) := by rw [hqi, IntKind.wrap_i64]; omega
                have hne : b8 ≠ w.heap.size := by have := HLT2.out; omega
                have HQD := Lib.hid hqd
                clear hr0 hr1 hze hqd HPP HQQ
                go_wp2_with (go_at_call 163; refine (scan_level _ _).mono ?_; rintro e w' ⟨rfl, rfl⟩)
                refine wp_region_treeN (fun w' => w'.cell? ⟨b8, q, none⟩ = some (.int .i64 (z : Int)) ∧ w'.cell? ⟨wr.heap.size, 1, none⟩ = some (.int .i64 p2)) 5 (.take 0 (.take 1 (.take 2 (.take 3 (.take 4 .done))))) (by kernel_rfl) (by kernel_rfl) (by simp only [Pln.out, Array.getD_eq_getD_getElem?, List.getElem?_toArray, List.getElem?_cons_zero, List.getElem?_cons_succ, Option.getD_some]; rfl) (by simp only [List.map_cons, List.map_nil]; rfl) (⟨x8, xp⟩) (fun PE hPE => ?_)
                iterate 5
                  refine tree_take (v := ?_) rfl (by rfl) ?_ ?_
                  rotate_left
                  · intro _ hSw; (try dsimp only at hSw); obtain ⟨s0, s1⟩ := hSw; go_simp; (try with_reducible rfl)
                  simp only [List.setIfInBounds_toArray, List.set_cons_zero, List.set_cons_succ]
                refine hPE _ _ ?_
                clear hPE PE
                simp only [List.drop_succ_cons, List.drop_zero, List.drop_nil]
                go_wp2_with fail
                refine ⟨rfl, ?_⟩
                go_wp2_with fail
                go_roundg g
                case measure => omega
                case rel =>
                  refine ⟨j + 1, q + 1, B.set z p2, by omega, by simp, by simp, by omega, by rw [List.length_set]; exact HBl.out, HEE, HQ3, Lib.hid ?_⟩
                  have h := cons_drew (cons_set HCA.out (Nat.le_refl _) z (.int .i64 p2) (by simpa using hne) (by simp))
                  rw [List.setIfInBounds_toArray, show ((B.map intV).set z (Value.int .i64 p2)) = (B.set z p2).map intV by rw [List.map_set]; rfl] at h
                  exact h
end Go.Proofs.YtcojnigkgbmbmaaGreatDoor
