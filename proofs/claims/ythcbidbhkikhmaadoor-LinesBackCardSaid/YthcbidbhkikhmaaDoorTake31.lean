/- The readers of a word's parts: the closures, and what makes them. -/
import Derived.Test.YthcbidbhkikhmaaDoorSplit31
namespace Go.Proofs.YthcbidbhkikhmaaDoor
open Go Go.RowKit
theorem lines_to (p : Option Addr) (w : World) : Calls Tryd.prog 46 #[.pointer p] w fun e w' => e = .returned (.func (.func 47) #[] #[.pointer (some ⟨w.heap.size, 0, none⟩)]) ∧ w' = w.alloc (.cells #[.pointer p] 84) := by
  go_enter Tryd.func46, Tryd.ntmps46
  go_wp2_with fail
  go_ret
  exact ⟨rfl, rfl⟩
theorem blk_ne {w : World} {g g' : Nat} {t t' : TypeId} {cs cs' : Array Value} (h : Blk w g t cs) (h' : Blk w g' t' cs') (hne : t ≠ t') : g ≠ g' := fun e => by
  subst e
  unfold Blk at h h'
  rw [h] at h'
  injection h' with h'
  injection h' with _ ht
  exact hne ht
/-- one block has turned, to cs; all others are as they were -/
def Turned (g : Nat) (t : TypeId) (cs : Array Value) (w w' : World) : Prop := w.grownBy w' (some g) ∧ Blk w' g t cs
theorem Turned.set {w : World} {g : Nat} {t : TypeId} {cs : Array Value} (h : Blk w g t cs) (k : Nat) (v : Value) : Turned g t (cs.setIfInBounds k v) w (w.setCell ⟨g, k, none⟩ v) :=
  ⟨⟨rfl, rfl, rfl, by simp, fun i _ hi => Below.heap_setCell w _ v i (by show i ≠ g; exact fun e => hi (by rw [e]))⟩, h.set_ k v⟩
set_option maxRecDepth 100000 in
set_option maxHeartbeats 2000000 in
theorem lines_readnum (s : List UInt8) (g bop off : Nat) (cs : Array Value) (w : World) (hsz : s.length ≤ 10000) (hg : Blk w g 84 #[.pointer (some ⟨bop, off, none⟩)]) (hb : Blk w bop 24 cs) (k0 : IntKind) (z0 : Int) (hc : cs[off]? = some (.int k0 z0)) :
    Calls Tryd.prog 47 #[.string (bs s), .pointer (some ⟨g, 0, none⟩)] w fun e w' => e = .returned (.bool (numR s).2) ∧ Turned bop 24 (cs.setIfInBounds off (.int .i64 ((numR s).1 : Nat))) w w' := by
  obtain ⟨nv, nb, hn⟩ : ∃ nv nb, numR s = (nv, nb) := ⟨_, _, rfl⟩
  have C1 := Lib.hid (fun W => lines_reads s W hsz)
  rw [hn] at C1 ⊢
  have x0 := hg.cell 0
  have y0 : w.cell? ⟨bop, off, none⟩ = some (.int k0 z0) := (hb.cell off).trans hc
  have f0 := hb.frozen off
  have hgb : g ≠ bop := blk_ne hg hb (by decide)
  have HX := Lib.hid (hg.drew'.far (p := ⟨bop, off, none⟩) hgb (.int .i64 (nv : Int)))
  have hts := Turned.set hb.drew' off (.int .i64 (nv : Int))
  have HT := Lib.hid (show Turned bop 24 (cs.setIfInBounds off (.int .i64 (nv : Int))) w (w.drew.setCell ⟨bop, off, none⟩ (.int .i64 (nv : Int))) from ⟨⟨hts.1.os, hts.1.tape, hts.1.output, hts.1.size, hts.1.block⟩, hts.2⟩)
  clear hts
  clear hn hg hb hc
  go_enter Tryd.func47, Tryd.ntmps47
  go_wp2_with fail
  refine wp_region_tree (fun w' => w'.cell? ⟨g, 0, none⟩ = some (.pointer (some ⟨bop, off, none⟩))) 8 (.take 0 (.take 1 (.step 2 (.take 3 (.take 4 (.take 5 (.take 6 (.step 7 (.done)))))))))
    (by kernel_rfl) (by kernel_rfl) (fun _ _ d _ _ h => by cases d <;> exact h) (by simp only [Pln.out, Array.getD_eq_getD_getElem?, List.getElem?_toArray, List.getElem?_cons_zero, List.getElem?_cons_succ, Option.getD_some]; rfl) (by simp only [List.map_cons, List.map_nil]; rfl) x0 (fun PE hPE => ?_)
  refine tree_take (v := ?_) rfl (by rfl) ?_ ?_
  rotate_left
  · intro _ hSw; (try dsimp only at hSw); go_simp; (try with_reducible rfl)
  simp only [List.setIfInBounds_toArray, List.set_cons_zero, List.set_cons_succ]
  refine tree_take (v := ?_) rfl (by rfl) ?_ ?_
  rotate_left
  · intro _ hSw; (try dsimp only at hSw); go_simp; (try with_reducible rfl)
  simp only [List.setIfInBounds_toArray, List.set_cons_zero, List.set_cons_succ]
  refine tree_call rfl (by rfl) (by first | (go_simp; done) | (go_simp; rfl)) (C1.out _) ?_
  rintro e w1 ⟨rfl, rfl⟩
  refine ⟨_, rfl, _, fun _ h => h, x0, ?_⟩
  simp only [List.setIfInBounds_toArray, List.set_cons_zero, List.set_cons_succ]
  refine tree_take (v := ?_) rfl (by rfl) ?_ ?_
  rotate_left
  · intro _ hSw; (try dsimp only at hSw); go_simp; (try with_reducible rfl)
  simp only [List.setIfInBounds_toArray, List.set_cons_zero, List.set_cons_succ]
  refine tree_take (v := ?_) rfl (by rfl) ?_ ?_
  rotate_left
  · intro _ hSw; (try dsimp only at hSw); go_simp; (try with_reducible rfl)
  simp only [List.setIfInBounds_toArray, List.set_cons_zero, List.set_cons_succ]
  refine tree_take (v := ?_) rfl (by rfl) ?_ ?_
  rotate_left
  · intro _ hSw; (try dsimp only at hSw); go_simp; (try with_reducible rfl)
  simp only [List.setIfInBounds_toArray, List.set_cons_zero, List.set_cons_succ]
  refine tree_take (v := ?_) rfl (by rfl) ?_ ?_
  rotate_left
  · intro _ hSw; (try dsimp only at hSw); go_simp; (try with_reducible rfl)
  simp only [List.setIfInBounds_toArray, List.set_cons_zero, List.set_cons_succ]
  refine tree_skip _ (w' := ?_) rfl (by rfl) ?_ ?_ ?_
  rotate_left 1
  · go_simp; (first | (with_reducible rfl) | (constructor <;> with_reducible rfl) | skip)
  · exact HX.out.cell 0
  refine hPE _ _ ?_
  simp only [List.drop_succ_cons, List.drop_zero]
  clear hPE PE
  go_wp2_with fail
  go_ret
  exact ⟨rfl, HT.out⟩
def ReadPost (bop : Nat) (cs : Array Value) (r : List UInt8 × Bool) (w : World) (e : Ending) (w' : World) : Prop :=
  ∃ v, e = .returned (.bool r.2) ∧ w'.ownsRow w.heap.size 5 1 v r.1.length (r.1.map byteV) ∧ Turned bop 24 (cs.setIfInBounds 3 v) w w'
set_option maxRecDepth 100000 in
set_option maxHeartbeats 2000000 in
theorem lines_readbytes (s : List UInt8) (g bop : Nat) (cs : Array Value) (w : World) (hsz : s.length ≤ 10000) (hg : Blk w g 69 #[.pointer (some ⟨bop, 0, none⟩)]) (hb : Blk w bop 24 cs) (A0 : Option Addr) (n0 c0 : Nat) (hc : cs[3]? = some (.slice A0 n0 c0)) :
    Calls Tryd.prog 49 #[.string (bs s), .pointer (some ⟨g, 0, none⟩)] w (ReadPost bop cs (bytesR s) w) := by
  obtain ⟨bl, bb, hn⟩ : ∃ bl bb, bytesR s = (bl, bb) := ⟨_, _, rfl⟩
  have C1 := Lib.hid (fun W => lines_unhex s W hsz)
  rw [hn] at C1 ⊢
  have x0 := hg.cell 0
  have HG := Lib.hid hg
  have HBb := Lib.hid hb
  clear hn hg hb
  go_enter Tryd.func49, Tryd.ntmps49
  go_wp2_with fail
  refine wp_region_tree (fun w' => w'.cell? ⟨g, 0, none⟩ = some (.pointer (some ⟨bop, 0, none⟩))) 9 (.take 0 (.take 1 (.step 2 (.take 3 (.take 4 (.take 5 (.take 6 (.take 7 (.step 8 (.done))))))))))
    (by kernel_rfl) (by kernel_rfl) (fun _ _ d _ _ h => by cases d <;> exact h) (by simp only [Pln.out, Array.getD_eq_getD_getElem?, List.getElem?_toArray, List.getElem?_cons_zero, List.getElem?_cons_succ, Option.getD_some]; rfl) (by simp only [List.map_cons, List.map_nil]; rfl) x0 (fun PE hPE => ?_)
  refine tree_take (v := ?_) rfl (by rfl) ?_ ?_
  rotate_left
  · intro _ hSw; (try dsimp only at hSw); go_simp; (try with_reducible rfl)
  simp only [List.setIfInBounds_toArray, List.set_cons_zero, List.set_cons_succ]
  refine tree_take (v := ?_) rfl (by rfl) ?_ ?_
  rotate_left
  · intro _ hSw; (try dsimp only at hSw); go_simp; (try with_reducible rfl)
  simp only [List.setIfInBounds_toArray, List.set_cons_zero, List.set_cons_succ]
  refine tree_call rfl (by rfl) (by first | (go_simp; done) | (go_simp; rfl)) (C1.out _) ?_
  rintro e w1 ⟨v, rfl, ho, hb1⟩
  have hG1 := HG.out.drew'.below hb1 HG.out.lt
  have hB1 := HBb.out.drew'.below hb1 HBb.out.lt
  have y0 : w1.cell? ⟨bop, 3, none⟩ = some (.slice A0 n0 c0) := (hB1.cell 3).trans hc
  have f0 := hB1.frozen 3
  obtain ⟨A2, c2, rfl, _⟩ := own_sl ho
  have hne := own_blk_ne ho hB1 (by decide)
  have HO := Lib.hid (own_set ho ⟨bop, 3, none⟩ (.slice A2 bl.length c2) hne)
  have hts := Turned.set hB1 3 (.slice A2 bl.length c2)
  have HT := Lib.hid (show Turned bop 24 (cs.setIfInBounds 3 (.slice A2 bl.length c2)) w (w1.setCell ⟨bop, 3, none⟩ (.slice A2 bl.length c2)) from
    ⟨⟨hts.1.os.trans hb1.os, hts.1.tape.trans hb1.tape, hts.1.output.trans hb1.output, Nat.le_trans hb1.size hts.1.size, fun k hk hne => (hts.1.block k (Nat.lt_of_lt_of_le hk hb1.size) hne).trans (hb1.block k hk)⟩, hts.2⟩)
  have hgb : g ≠ bop := blk_ne HG.out HBb.out (by decide)
  have HX := Lib.hid (hG1.far (p := ⟨bop, 3, none⟩) hgb (.slice A2 bl.length c2))
  refine ⟨_, rfl, _, fun _ h => h, hG1.cell 0, ?_⟩
  clear hts ho hne
  simp only [List.setIfInBounds_toArray, List.set_cons_zero, List.set_cons_succ]
  refine tree_take (v := ?_) rfl (by rfl) ?_ ?_
  rotate_left
  · intro _ hSw; (try dsimp only at hSw); go_simp; (try with_reducible rfl)
  simp only [List.setIfInBounds_toArray, List.set_cons_zero, List.set_cons_succ]
  refine tree_take (v := ?_) rfl (by rfl) ?_ ?_
  rotate_left
  · intro _ hSw; (try dsimp only at hSw); go_simp; (try with_reducible rfl)
  simp only [List.setIfInBounds_toArray, List.set_cons_zero, List.set_cons_succ]
  refine tree_take (v := ?_) rfl (by rfl) ?_ ?_
  rotate_left
  · intro _ hSw; (try dsimp only at hSw); go_simp; (try with_reducible rfl)
  simp only [List.setIfInBounds_toArray, List.set_cons_zero, List.set_cons_succ]
  refine tree_take (v := ?_) rfl (by rfl) ?_ ?_
  rotate_left
  · intro _ hSw; (try dsimp only at hSw); go_simp; (try with_reducible rfl)
  simp only [List.setIfInBounds_toArray, List.set_cons_zero, List.set_cons_succ]
  refine tree_take (v := ?_) rfl (by rfl) ?_ ?_
  rotate_left
  · intro _ hSw; (try dsimp only at hSw); go_simp; (try with_reducible rfl)
  simp only [List.setIfInBounds_toArray, List.set_cons_zero, List.set_cons_succ]
  refine tree_skip _ (w' := ?_) rfl (by rfl) ?_ ?_ ?_
  rotate_left 1
  · go_simp; (first | (with_reducible rfl) | (constructor <;> with_reducible rfl) | skip)
  · exact HX.out.cell 0
  refine hPE _ _ ?_
  simp only [List.drop_succ_cons, List.drop_zero]
  clear hPE PE
  go_wp2_with fail
  go_ret
  exact ⟨_, rfl, HO.out, HT.out⟩
end Go.Proofs.YthcbidbhkikhmaaDoor
