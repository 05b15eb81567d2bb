/- BGet, Rd, Pen, PenW, PenP2 -/
import Derived.Test.YtcojnigkgbmbmaaGreatDoorR24
import Derived.Test.YtcojnigkgbmbmaaGreatDoorR18
import Derived.Test.YtcojnigkgbmbmaaGreatDoorR17
import Derived.Test.YtcojnigkgbmbmaaGreatDoorR16
import Derived.Test.YtcojnigkgbmbmaaGreatDoorR21
import Derived.Test.YtcojnigkgbmbmaaGreatDoorR02
import Derived.Test.YtcojnigkgbmbmaaGreatDoorR10
import Derived.Laws.BitsAllLaws
namespace Go.Proofs.YtcojnigkgbmbmaaGreatDoor
open Go Go.RowKit
attribute [local go_sem] Oper.semAt_some
def remP (l : List UInt8) (i : Int) (first : Bool) (k : Nat) (left : Int) : List (Int × Int) × Int × Int := bpairs l (66 - k) (posn l i first k) (flg first k) left
structure InvP (l : List UInt8) (i : Int) (first : Bool) (left0 : Int) (pre : List PEl) (left : Int) : Prop where
  pos : 0 ≤ left
  sum : (pre.length : Int) + left ≤ 64
  zero : ∀ x ∈ pre, x.2 = 0
  eq : bpairs l 66 i first left0 = (pre.map (·.1) ++ (remP l i first pre.length left).1, (remP l i first pre.length left).2)
theorem inv_start (l : List UInt8) (i : Int) (first : Bool) {left0 : Int} (h0 : 0 ≤ left0) (h1 : left0 ≤ 64) : InvP l i first left0 [] left0 := by
  refine ⟨h0, by simpa using h1, (fun x hx => by cases hx), ?_⟩
  have e : flg first 0 = first := by cases first <;> rfl
  unfold remP
  show _ = (bpairs l (66 - 0) i (flg first 0) left0)
  rw [e]
theorem flg_succ (first : Bool) (k : Nat) : flg first (k + 1) = false := by cases first <;> rfl
theorem rem_succ (l : List UInt8) (i : Int) (first : Bool) (k : Nat) (left : Int) (hk : k ≤ 65) : remP l i first k left =
    if (gK l i first k).2.1 then ([], posn l i first (k + 1), 0) else if (gK l i first k).2.2.2 != 0 then ([], 0, (gK l i first k).2.2.2) else
    if left - ((gK l i first k).1.1 + 1) < 0 then ([], 0, 11) else
    ((gK l i first k).1 :: (remP l i first (k + 1) (left - ((gK l i first k).1.1 + 1))).1, (remP l i first (k + 1) (left - ((gK l i first k).1.1 + 1))).2.1, (remP l i first (k + 1) (left - ((gK l i first k).1.1 + 1))).2.2) := by
  unfold remP
  rw [flg_succ, show 66 - k = (66 - (k + 1)) + 1 by omega]
  rfl
theorem spg_last {l : List UInt8} {i : Int} {first : Bool} {pre : List PEl} {x : PEl} (h : SpG l i first (pre ++ [x])) : x = ((gK l i first pre.length).1, (gK l i first pre.length).2.2.2) ∧ (gK l i first pre.length).2.1 = false := h pre.length x (by simp)
section
variable {l : List UInt8} {i : Int} {first : Bool} {left0 : Int} {pre : List PEl} {left : Int} {x : PEl}
theorem InvP.len (h : InvP l i first left0 pre left) : pre.length ≤ 64 := by have := h.pos; have := h.sum; omega
theorem InvP.err (h : InvP l i first left0 pre left) (hs : SpG l i first (pre ++ [x])) (he : x.2 ≠ 0) : (bpairs l 66 i first left0).2.2 = x.2 := by
  obtain ⟨hx, hend⟩ := spg_last hs
  have hx2 : (gK l i first pre.length).2.2.2 = x.2 := by rw [hx]
  rw [h.eq, rem_succ _ _ _ _ _ (by have := h.len; omega), hend, if_neg (by decide), hx2, if_pos (by simpa using he)]
theorem InvP.run (h : InvP l i first left0 pre left) (hs : SpG l i first (pre ++ [x])) (he : x.2 = 0) (hl : left - (x.1.1 + 1) < 0) : (bpairs l 66 i first left0).2.2 = 11 := by
  obtain ⟨hx, hend⟩ := spg_last hs
  have hx2 : (gK l i first pre.length).2.2.2 = x.2 := by rw [hx]
  have hx1 : (gK l i first pre.length).1 = x.1 := by rw [hx]
  rw [h.eq, rem_succ _ _ _ _ _ (by have := h.len; omega), hend, if_neg (by decide), hx2, hx1, he, if_neg (by decide), if_pos hl]
theorem InvP.next (h : InvP l i first left0 pre left) (hs : SpG l i first (pre ++ [x])) (he : x.2 = 0) (hl : 0 ≤ left - (x.1.1 + 1)) (hr : 0 ≤ x.1.1) : InvP l i first left0 (pre ++ [x]) (left - (x.1.1 + 1)) := by
  obtain ⟨hx, hend⟩ := spg_last hs
  have hx2 : (gK l i first pre.length).2.2.2 = x.2 := by rw [hx]
  have hx1 : (gK l i first pre.length).1 = x.1 := by rw [hx]
  refine ⟨hl, by have := h.sum; simp only [List.length_append, List.length_cons, List.length_nil]; omega, fun y hy => ?_, ?_⟩
  · rcases List.mem_append.1 hy with hy | hy
    · exact h.zero y hy
    · rw [List.mem_singleton] at hy; rw [hy]; exact he
  · rw [h.eq, rem_succ _ _ _ _ _ (by have := h.len; omega), hend, if_neg (by decide), hx2, hx1, he, if_neg (by decide), if_neg (by omega)]
    simp
theorem InvP.fin (h : InvP l i first left0 pre left) (he : (gK l i first pre.length).2.1 = true) : bpairs l 66 i first left0 = (pre.map (·.1), posn l i first (pre.length + 1), 0) := by
  rw [h.eq, rem_succ _ _ _ _ _ (by have := h.len; omega), he, if_pos rfl]
  simp
end
def BtL (h : Nat) (dc : Int) (v : Value) (n e : Int) : List CellF := [(h, 81, #[.int .i64 dc, v]), (h + 1, 3, #[.int .i64 n]), (h + 2, 30, #[.int .i64 e])]
def BGPost (r : BlkM × Int × Int) (w : World) (e : Ending) (w' : World) : Prop := ∃ v, e = .returned (.tuple #[.agg #[.int .i64 r.1.dc, v], .int .i64 r.2.1, .int .i64 r.2.2]) ∧ Below w.heap.size w w' ∧ w'.ownsRow w.heap.size 109 2 v r.1.l.length (rowC pairC r.1.l)
theorem etPair : ElemT Tryz.prog 79 109 2 16 := .mk' (z := .agg #[.int .i64 0, .int .i64 0]) (by kernel_rfl) (by kernel_rfl) rfl (by decide) (by decide)
theorem bget_res (h : Nat) (dc : Int) (v : Value) (n e : Int) (tmps : Array Value) (W : World) (hc : CellsAt (BtL h dc v n e) W) (t6 : tmps.getD 6 undef = .pointer (some ⟨h, 0, none⟩)) (t7 : tmps.getD 7 undef = .pointer (some ⟨h + 1, 0, none⟩))
    (t8 : tmps.getD 8 undef = .pointer (some ⟨h + 2, 0, none⟩)) : (results Tryz.f115 tmps).run Tryz.prog W = .ok (.tuple #[.agg #[.int .i64 dc, v], .int .i64 n, .int .i64 e]) W := by
  unfold BtL at hc
  have h6 : W.cell? ⟨h, 0, none⟩ = some (.int .i64 dc) := hc.head.cell 0
  have h6' : W.cell? ⟨h, 1, none⟩ = some v := hc.head.cell 1
  have h7 : W.cell? ⟨h + 1, 0, none⟩ = some (.int .i64 n) := hc.tail.head.cell 0
  have h8 : W.cell? ⟨h + 2, 0, none⟩ = some (.int .i64 e) := hc.tail.tail.head.cell 0
  have t6' : tmps[6]?.getD undef = .pointer (some ⟨h, 0, none⟩) := by simpa using t6
  have t7' : tmps[7]?.getD undef = .pointer (some ⟨h + 1, 0, none⟩) := by simpa using t7
  have t8' : tmps[8]?.getD undef = .pointer (some ⟨h + 2, 0, none⟩) := by simpa using t8
  simp [results, Tryz.results115, t6', t7', t8', asAddr, h6, h6', h7, h8, go_sem]
theorem block_cpairs (gc : Nat) (first : Bool) (w : World) : Calls Tryz.prog 145 #[.pointer (some ⟨gc, 0, none⟩), .bool first] w fun e w' => e = .returned (.func (.func 165) #[] #[.pointer (some ⟨w.heap.size, 0, none⟩), .pointer (some ⟨w.heap.size + 1, 0, none⟩)]) ∧ w' = (w.alloc (.cells #[.pointer (some ⟨gc, 0, none⟩)] 172)).alloc (.cells #[.bool first] 4) := by
  go_enter Tryz.func145, Tryz.ntmps145
  go_wp2_with fail
  go_ret
  exact ⟨by simp, rfl⟩
theorem own_slN {w : World} {base e size n : Nat} {v : Value} {xs : List Value} (h : w.ownsRow base e size v n xs) : ∃ A c, v = .slice A n c := by
  rcases h.2 with ⟨rfl, rfl⟩ | ⟨g, cap, cur, rfl, _⟩
  · exact ⟨none, 0, rfl⟩
  · exact ⟨_, cap, rfl⟩
def setL (g i : Nat) (u : Value) (L : List CellF) : List CellF := L.map fun c => if c.1 = g then (c.1, c.2.1, c.2.2.setIfInBounds i u) else c
theorem cells_set {L : List CellF} {W : World} (h : CellsAt L W) (g i : Nat) (u : Value) : CellsAt (setL g i u L) (W.setCell ⟨g, i, none⟩ u) := by
  intro p hp
  unfold setL at hp
  obtain ⟨c, hc, rfl⟩ := List.mem_map.1 hp
  have hb := h c hc
  by_cases he : c.1 = g
  · rw [if_pos he]
    dsimp only
    subst he
    exact hb.set_ i u
  · rw [if_neg he]
    exact hb.far (p := ⟨g, i, none⟩) he u
/-- a store into a cell of a block of the list. -/
theorem cons_store {w W : World} {L : List CellF} {R : List RowF} (hc : Cons w L R W) {g : Nat} (hg : w.heap.size ≤ g) (i : Nat) (u : Value) (c : CellF) (hm : c ∈ L) (hcg : c.1 = g) (hR : ∀ r ∈ R, r.e ≠ c.2.1) : Cons w (setL g i u L) R (W.setCell ⟨g, i, none⟩ u) := by
  subst hcg
  exact ⟨hc.1.setCell (p := ⟨c.1, i, none⟩) hg u, cells_set hc.2.1 _ i u, fun r hr => own_set (hc.2.2 r hr) ⟨c.1, i, none⟩ u (own_blk_ne (hc.2.2 r hr) (hc.2.1 c hm) (hR r hr))⟩
theorem blk_eq {W : World} {g : Nat} {t t' : TypeId} {cs cs' : Array Value} (h : Blk W g t cs) (h' : Blk W g t' cs') : cs = cs' := by
  have h2 : Blk W g t cs = (W.heap[g]? = some (.cells cs t (0, 0))) := rfl
  rw [h2] at h
  have h3 : Blk W g t' cs' = (W.heap[g]? = some (.cells cs' t' (0, 0))) := rfl
  rw [h3, h] at h'
  simpa using (congrArg (fun o => match o with | some (Obj.cells c _ _) => c | _ => #[]) h')
theorem blk_ne {W : World} {g g' : Nat} {t t' : TypeId} {cs cs' : Array Value} (h : Blk W g t cs) (h' : Blk W g' t' cs') (hne : t ≠ t') : g ≠ g' := by
  rintro rfl
  have h2 : Blk W g t cs = (W.heap[g]? = some (.cells cs t (0, 0))) := rfl
  rw [h2] at h
  have h3 : Blk W g t' cs' = (W.heap[g]? = some (.cells cs' t' (0, 0))) := rfl
  rw [h3, h] at h'
  exact hne (by simpa using (congrArg (fun o => match o with | some (Obj.cells _ t _) => t | _ => 0) h'))
def BgC (h : Nat) (A : Option Addr) (n c : Nat) (intra : Bool) (dc left : Int) (v u1 u2 : Value) : List CellF :=
  (h + 4, 135, #[.int .i64 dc, v, .bool intra]) :: (h + 5, 3, #[.int .i64 left]) :: (h + 6, 172, #[.pointer (some ⟨h + 3, 0, none⟩)]) :: (h + 3, 174, #[.slice A n c, u1]) :: (h + 7, 4, #[u2]) :: BtL h 0 (.slice none 0 0) 0 0
abbrev BgK : Type := Int × Value × Value × Value
def BgI (w : World) (A : Option Addr) (n c : Nat) (intra : Bool) (dc : Int) (l : List UInt8) (i : Int) (first : Bool) (left0 : Int) : List PEl → World → Prop :=
  ICons w (fun pre (k : BgK) => InvP l i first left0 pre k.1) (fun _ k => BgC w.heap.size A n c intra dc k.1 k.2.1 k.2.2.1 k.2.2.2) (fun pre k => [⟨w.heap.size, 109, 2, k.2.1, pre.length, rowC pairC (pre.map (·.1))⟩])
def BgJ (w : World) (A : Option Addr) (n c : Nat) (intra : Bool) (dc : Int) (l : List UInt8) (i : Int) (first : Bool) (left0 : Int) (x : PEl) (g : Nat) : List PEl → World → Prop :=
  ICons w (fun pre (k : BgK) => InvP l i first left0 pre k.1) (fun _ k => (g, 109, #[.int .i64 x.1.1, .int .i64 x.1.2]) :: BgC w.heap.size A n c intra dc k.1 k.2.1 k.2.2.1 k.2.2.2) (fun pre k => [⟨w.heap.size, 109, 2, k.2.1, pre.length, rowC pairC (pre.map (·.1))⟩])
section
variable {w W : World} {A : Option Addr} {n c : Nat} {intra : Bool} {dc : Int} {l : List UInt8} {i : Int} {first : Bool} {left0 : Int} {pre : List PEl}
theorem bg_set1 (v : Value) (h : BgI w A n c intra dc l i first left0 pre W) : BgI w A n c intra dc l i first left0 pre (W.setCell ⟨w.heap.size + 3, 1, none⟩ v) := by
  obtain ⟨⟨⟨left, v1, u1, u2⟩, hp, hc⟩⟩ := h
  refine ⟨⟨(left, v1, v, u2), hp, ?_⟩⟩
  have h2 := cons_store hc (g := w.heap.size + 3) (by omega) 1 v (w.heap.size + 3, 174, #[.slice A n c, u1]) (by simp [BgC]) rfl (by simp)
  simpa [setL, BgC, BtL] using h2
theorem bg_set2 (v : Value) (h : BgI w A n c intra dc l i first left0 pre W) : BgI w A n c intra dc l i first left0 pre (W.setCell ⟨w.heap.size + 7, 0, none⟩ v) := by
  obtain ⟨⟨⟨left, v1, u1, u2⟩, hp, hc⟩⟩ := h
  refine ⟨⟨(left, v1, u1, v), hp, ?_⟩⟩
  have h2 := cons_store hc (g := w.heap.size + 7) (by omega) 0 v (w.heap.size + 7, 4, #[u2]) (by simp [BgC]) rfl (by simp)
  simpa [setL, BgC, BtL] using h2
theorem bg_u (h : BgI w A n c intra dc l i first left0 pre W) {a : Int} {f : Bool} (h1 : Blk W (w.heap.size + 3) 174 #[.slice A n c, .int .i64 a]) (h2 : Blk W (w.heap.size + 7) 4 #[.bool f]) :
    ∃ left v, InvP l i first left0 pre left ∧ Cons w (BgC w.heap.size A n c intra dc left v (.int .i64 a) (.bool f)) [⟨w.heap.size, 109, 2, v, pre.length, rowC pairC (pre.map (·.1))⟩] W := by
  obtain ⟨⟨⟨left, v1, u1, u2⟩, hp, hc⟩⟩ := h
  refine ⟨left, v1, hp, ?_⟩
  have hx := hc.2.1
  unfold BgC at hx
  have e1 := blk_eq hx.tail.tail.tail.head h1
  have e2 := blk_eq hx.tail.tail.tail.tail.head h2
  simp at e1 e2
  dsimp only at hc
  rw [e1, e2] at hc
  exact hc
theorem bgj_u {x : PEl} {g : Nat} (h : BgJ w A n c intra dc l i first left0 x g pre W) {a : Int} {f : Bool} (h1 : Blk W (w.heap.size + 3) 174 #[.slice A n c, .int .i64 a]) (h2 : Blk W (w.heap.size + 7) 4 #[.bool f]) :
    ∃ left v, InvP l i first left0 pre left ∧ Cons w ((g, 109, #[.int .i64 x.1.1, .int .i64 x.1.2]) :: BgC w.heap.size A n c intra dc left v (.int .i64 a) (.bool f)) [⟨w.heap.size, 109, 2, v, pre.length, rowC pairC (pre.map (·.1))⟩] W := by
  obtain ⟨⟨⟨left, v1, u1, u2⟩, hp, hc⟩⟩ := h
  refine ⟨left, v1, hp, ?_⟩
  have hx := hc.2.1
  unfold BgC at hx
  have e1 := blk_eq hx.tail.tail.tail.tail.head h1
  have e2 := blk_eq hx.tail.tail.tail.tail.tail.head h2
  simp at e1 e2
  dsimp only at hc
  rw [e1, e2] at hc
  exact hc
theorem bg_put {left : Int} {v u1 u2 : Value} (hp : InvP l i first left0 pre left) (hc : Cons w (BgC w.heap.size A n c intra dc left v u1 u2) [⟨w.heap.size, 109, 2, v, pre.length, rowC pairC (pre.map (·.1))⟩] W) :
    BgI w A n c intra dc l i first left0 pre W ∧ Blk W (w.heap.size + 3) 174 #[.slice A n c, u1] ∧ Blk W (w.heap.size + 7) 4 #[u2] := by
  have hx := hc.2.1
  unfold BgC at hx
  exact ⟨⟨⟨(left, v, u1, u2), hp, hc⟩⟩, hx.tail.tail.tail.head, hx.tail.tail.tail.tail.head⟩
theorem bg_drop {left : Int} {v u1 u2 : Value} {R : List RowF} (hc : Cons w (BgC w.heap.size A n c intra dc left v u1 u2) R W) : Cons w (BtL w.heap.size 0 (.slice none 0 0) 0 0) R W := cons_drop (cons_drop (cons_drop (cons_drop (cons_drop hc))))
theorem cons_norow {L : List CellF} {R : List RowF} (hc : Cons w L R W) : Cons w L [] W := ⟨hc.1, hc.2.1, rowsAt_nil _⟩
theorem bg_start {W6 : World} {at0 : Int} {first : Bool} (hc : Cons w ((w.heap.size + 4, 135, #[.int .i64 dc, .slice none 0 0, .bool intra]) :: (w.heap.size + 5, 3, #[.int .i64 left0]) :: (w.heap.size + 3, 174, #[.slice A n c, .int .i64 at0]) :: BtL w.heap.size 0 (.slice none 0 0) 0 0) [] W6) (hs : W6.heap.size = w.heap.size + 6) (h0 : 0 ≤ left0) (h1 : left0 ≤ 64) :
    BgI w A n c intra dc l i first left0 [] ((W6.alloc (.cells #[.pointer (some ⟨w.heap.size + 3, 0, none⟩)] 172)).alloc (.cells #[.bool first] 4)) ∧ Blk ((W6.alloc (.cells #[.pointer (some ⟨w.heap.size + 3, 0, none⟩)] 172)).alloc (.cells #[.bool first] 4)) (w.heap.size + 3) 174 #[.slice A n c, .int .i64 at0] ∧ Blk ((W6.alloc (.cells #[.pointer (some ⟨w.heap.size + 3, 0, none⟩)] 172)).alloc (.cells #[.bool first] 4)) (w.heap.size + 7) 4 #[.bool first] := by
  have h2 := cons_alloc (cons_alloc hc (.cells #[.pointer (some ⟨w.heap.size + 3, 0, none⟩)] 172)) (.cells #[.bool first] 4)
  have b6 : Blk ((W6.alloc (.cells #[.pointer (some ⟨w.heap.size + 3, 0, none⟩)] 172)).alloc (.cells #[.bool first] 4)) (w.heap.size + 6) 172 #[.pointer (some ⟨w.heap.size + 3, 0, none⟩)] := (blkAt (Blk.new _ _ _) hs).alloc _
  have b7 : Blk ((W6.alloc (.cells #[.pointer (some ⟨w.heap.size + 3, 0, none⟩)] 172)).alloc (.cells #[.bool first] 4)) (w.heap.size + 7) 4 #[.bool first] := blkAt (Blk.new _ _ _) (by rw [World.size_alloc, hs])
  have hx := h2.2.1
  refine bg_put (left := left0) (v := .slice none 0 0) (inv_start l i first h0 h1) ⟨h2.1, ?_, RowsAt.cons (World.ownsRow_nil _ _ _ _) (rowsAt_nil _)⟩
  unfold BgC
  exact CellsAt.cons hx.head (CellsAt.cons hx.tail.head (CellsAt.cons b6 (CellsAt.cons hx.tail.tail.head (CellsAt.cons b7 hx.tail.tail.tail))))
theorem bget_setR {dc0 : Int} {v0 : Value} {n0 e0 : Int} {R : List RowF} (dc : Int) (v : Value) (nn e : Int) (hc : Cons w (BtL w.heap.size dc0 v0 n0 e0) R W) (hR : ∀ r ∈ R, r.e = 109) : Cons w (BtL w.heap.size dc v nn e) R ((((W.setCell ⟨w.heap.size, 0, none⟩ (.int .i64 dc)).setCell ⟨w.heap.size, 1, none⟩ v).setCell ⟨w.heap.size + 1, 0, none⟩ (.int .i64 nn)).setCell ⟨w.heap.size + 2, 0, none⟩ (.int .i64 e)) := by
  unfold BtL at hc ⊢
  have h1 := cons_store hc (g := w.heap.size) (Nat.le_refl _) 0 (.int .i64 dc) (w.heap.size, 81, #[.int .i64 dc0, v0]) (by simp) rfl (fun r hr => by rw [hR r hr]; simp)
  simp [setL] at h1
  have h2 := cons_store h1 (g := w.heap.size) (Nat.le_refl _) 1 v (w.heap.size, 81, #[.int .i64 dc, v0]) (by simp) rfl (fun r hr => by rw [hR r hr]; simp)
  simp [setL] at h2
  have h3 := cons_store h2 (g := w.heap.size + 1) (by omega) 0 (.int .i64 nn) (w.heap.size + 1, 3, #[.int .i64 n0]) (by simp) rfl (fun r hr => by rw [hR r hr]; simp)
  simp [setL] at h3
  have h4 := cons_store h3 (g := w.heap.size + 2) (by omega) 0 (.int .i64 e) (w.heap.size + 2, 30, #[.int .i64 e0]) (by simp) rfl (fun r hr => by rw [hR r hr]; simp)
  simp [setL] at h4
  exact h4
end
set_option maxRecDepth 100000 in
set_option maxHeartbeats 40000000 in
theorem block_Get (A : Option Addr) (n c : Nat) (l : List UInt8) (i : Int) (intra : Bool) (w : World) (hA : Sl w A (l.map byteV)) (hn : l.length = n) (hsz : n ≤ 2 ^ 47) (hT : Ts w) :
    Calls Tryz.prog 115 #[.slice A n c, .int .i64 i, .bool intra] w (BGPost (bgetP l i intra) w) := by
  obtain ⟨r, hr⟩ : ∃ r, bgetP l i intra = r := ⟨_, rfl⟩
  rw [hr]
  unfold bgetP at hr
  rw [hn] at hr
  have HA := Lib.hid hA; have HN := Lib.hid hn; have HT := Lib.hid hT
  clear hA hn hT
  by_cases hi0 : i < 0
  · rw [if_pos hi0] at hr
    subst hr
    refine (callsIn_wide (n := 5)).1 ?_
    refine callsIn_of_wp_marks Tryz.func115 rfl trivial ?_ rfl
    simp only [Tryz.ntmps115, List.size_toArray, List.length_cons, List.length_nil, Nat.reduceAdd, Nat.reduceSub, Array.replicate_succ, Array.replicate_zero, List.push_toArray, List.append_toArray, List.nil_append, List.cons_append]
    refine wpIn_wide.2 ?_
    go_wp2_with fail
    simp only [Nat.add_assoc, Nat.reduceAdd]
    refine retN (bget_res w.heap.size 0 (.slice none 0 0) 0 3 _ _ ?_ rfl rfl rfl) ⟨.slice none 0 0, rfl, ?_, World.ownsRow_nil _ _ _ _⟩
    · unfold BtL
      refine CellsAt.cons ?_ (CellsAt.cons ?_ (CellsAt.cons ?_ (cellsAt_nil _)))
      all_goals (repeat (first | (refine blkAt (Blk.new _ _ _) ?_; simp [World.size_alloc]; done) | refine Blk.alloc ?_ _))
    · exact (((Below.refl _ _).alloc (Nat.le_refl _) _).alloc (by simp) _).alloc (by simp; omega) _
  rw [if_neg hi0] at hr
  by_cases hi1 : 8 * (n : Int) < i
  · rw [if_pos hi1] at hr
    subst hr
    refine (callsIn_wide (n := 5)).1 ?_
    refine callsIn_of_wp_marks Tryz.func115 rfl trivial ?_ rfl
    simp only [Tryz.ntmps115, List.size_toArray, List.length_cons, List.length_nil, Nat.reduceAdd, Nat.reduceSub, Array.replicate_succ, Array.replicate_zero, List.push_toArray, List.append_toArray, List.nil_append, List.cons_append]
    refine wpIn_wide.2 ?_
    go_wp2_with (go_at_call 142; refine (bits_Count A n c _ hsz).mono ?_; rintro e w' ⟨rfl, rfl⟩)
    simp only [Nat.add_assoc, Nat.reduceAdd]
    refine retN (bget_res w.heap.size 0 (.slice none 0 0) 0 5 _ _ ?_ rfl rfl rfl) ⟨.slice none 0 0, rfl, ?_, World.ownsRow_nil _ _ _ _⟩
    · unfold BtL
      refine CellsAt.cons ?_ (CellsAt.cons ?_ (CellsAt.cons ?_ (cellsAt_nil _)))
      all_goals (repeat (first | (refine blkAt (Blk.new _ _ _) ?_; simp [World.size_alloc]; done) | refine Blk.alloc ?_ _))
    · exact (((Below.refl _ _).alloc (Nat.le_refl _) _).alloc (by simp) _).alloc (by simp; omega) _
  rw [if_neg hi1] at hr
  obtain ⟨k, rfl⟩ : ∃ k : Nat, i = (k : Int) := ⟨i.toNat, by omega⟩
  rw [Int.toNat_natCast] at hr
  have hk : k ≤ 8 * n := by omega
  cases intra with
  | false =>
    refine (callsIn_wide (n := 5)).1 ?_
    refine callsIn_of_wp_marks Tryz.func115 rfl trivial ?_ rfl
    simp only [Tryz.ntmps115, List.size_toArray, List.length_cons, List.length_nil, Nat.reduceAdd, Nat.reduceSub, Array.replicate_succ, Array.replicate_zero, List.push_toArray, List.append_toArray, List.nil_append, List.cons_append]
    refine wpIn_wide.2 ?_
    go_wp2_with (first | (go_at_call 142; refine (bits_Count A n c _ hsz).mono ?_; rintro e w' ⟨rfl, rfl⟩) | (go_at_call 145; refine (block_cpairs _ _ _).mono ?_; rintro e w' ⟨rfl, rfl⟩))
    rw [if_neg (show ¬ (false = true) by decide)] at hr
    have hc6 : Cons w ((w.heap.size + 4, 135, #[.int .i64 0, .slice none 0 0, .bool false]) :: (w.heap.size + 5, 3, #[.int .i64 64]) :: (w.heap.size + 3, 174, #[.slice A n c, .int .i64 (k : Int)]) :: BtL w.heap.size 0 (.slice none 0 0) 0 0) [] ((((((w.alloc (.cells #[.int .i64 0, .slice none 0 0] 81)).alloc (.cells #[.int .i64 0] 3)).alloc (.cells #[.int .i64 0] 30)).alloc (.cells #[.slice A n c, .int .i64 (k : Int)] 174)).alloc (.cells #[.int .i64 0, .slice none 0 0, .bool false] 135)).alloc (.cells #[.int .i64 64] 3)) := by
      refine ⟨(((((((Below.refl _ _).alloc (Nat.le_refl _) _).alloc (by simp) _).alloc (by simp; omega) _).alloc (by simp; omega) _).alloc (by simp; omega) _).alloc (by simp; omega) _), ?_, rowsAt_nil _⟩
      unfold BtL
      refine CellsAt.cons ?_ (CellsAt.cons ?_ (CellsAt.cons ?_ (CellsAt.cons ?_ (CellsAt.cons ?_ (CellsAt.cons ?_ (cellsAt_nil _))))))
      all_goals (repeat (first | (refine blkAt (Blk.new _ _ _) ?_; simp [World.size_alloc]; done) | refine Blk.alloc ?_ _))
    have hs6 : ((((((w.alloc (.cells #[.int .i64 0, .slice none 0 0] 81)).alloc (.cells #[.int .i64 0] 3)).alloc (.cells #[.int .i64 0] 30)).alloc (.cells #[.slice A n c, .int .i64 (k : Int)] 174)).alloc (.cells #[.int .i64 0, .slice none 0 0, .bool false] 135)).alloc (.cells #[.int .i64 64] 3)).heap.size = w.heap.size + 6 := by simp
    simp only [Nat.add_assoc, Nat.reduceAdd]
    generalize (((((w.alloc (.cells #[.int .i64 0, .slice none 0 0] 81)).alloc (.cells #[.int .i64 0] 3)).alloc (.cells #[.int .i64 0] 30)).alloc (.cells #[.slice A n c, .int .i64 (k : Int)] 174)).alloc (.cells #[.int .i64 0, .slice none 0 0, .bool false] 135)).alloc (.cells #[.int .i64 64] 3) = W6 at hc6 hs6 ⊢
    obtain ⟨q, hq⟩ : ∃ q, bpairs l 66 (k : Int) true 64 = q := ⟨_, rfl⟩
    rw [hq] at hr
    have HR := Lib.hid hr; have HQ := Lib.hid hq
    clear hr hq
    obtain ⟨hI0, hbc, hbf⟩ := bg_start (A := A) (n := n) (c := c) (intra := false) (dc := 0) (l := l) (i := (k : Int)) (left0 := 64) (first := true) hc6 hs6 (by decide) (by decide)
    have hs8 : ((W6.alloc (.cells #[.pointer (some ⟨w.heap.size + 3, 0, none⟩)] 172)).alloc (.cells #[.bool true] 4)).heap.size = w.heap.size + 8 := by simp [hs6]
    generalize (W6.alloc (.cells #[.pointer (some ⟨w.heap.size + 3, 0, none⟩)] 172)).alloc (.cells #[.bool true] 4) = W at hI0 hbc hbf hs8 ⊢
    have HI0 := Lib.hid hI0; have HBC := Lib.hid hbc; have HBF := Lib.hid hbf; have HS8 := Lib.hid hs8
    clear hI0 hbc hbf hs8 hc6 hs6
    have HB8 : Hid (w.heap.size ≤ W.heap.size) := Lib.hid (by rw [HS8.out]; omega)
    refine (wpIn_wide (n := 5)).1 ?_
    refine wp_wF (α := PEl) (enc := fun x : PEl => #[.agg #[.int .i64 x.1.1, .int .i64 x.1.2], .int .i64 x.2])
      (IS := fun pre W => BgI w A n c false 0 l (k : Int) true 64 pre W ∧ Blk W (w.heap.size + 3) 174 #[.slice A n c, .int .i64 (k : Int)] ∧ Blk W (w.heap.size + 7) 4 #[.bool true])
      (I := fun pre W => BgI w A n c false 0 l (k : Int) true 64 pre W ∧ Blk W (w.heap.size + 3) 174 #[.slice A n c, .int .i64 (posn l (k : Int) true (pre.length + 1))] ∧ Blk W (w.heap.size + 7) 4 #[.bool false])
      (I2 := fun pre W => BgI w A n c false 0 l (k : Int) true 64 pre W ∧ Blk W (w.heap.size + 3) 174 #[.slice A n c, .int .i64 (posn l (k : Int) true pre.length)] ∧ Blk W (w.heap.size + 7) 4 #[.bool false])
      (IE := fun pre W => BgI w A n c false 0 l (k : Int) true 64 pre W ∧ Blk W (w.heap.size + 3) 174 #[.slice A n c, .int .i64 (posn l (k : Int) true (pre.length + 1))] ∧ Blk W (w.heap.size + 7) 4 #[.bool false])
      (S := fun xs => SpG l (k : Int) true xs ∧ (gK l (k : Int) true xs.length).2.1 = true) (Sp := SpG l (k : Int) true)
      rfl (by decide) (gf := 165) (lb := #[.pointer (some ⟨w.heap.size + 6, 0, none⟩), .pointer (some ⟨w.heap.size + 7, 0, none⟩)]) rfl trivial (enters_of Tryz.func165 (by kernel_rfl) rfl)
      (pairs_seq 4 (by decide) (w.heap.size + 3) (w.heap.size + 6) (w.heap.size + 7) A n c l (k : Int) true HN.out hsz (by omega) (by rw [HN.out]; omega) (by omega) _ (fun pre W v h => bg_set1 v h) (fun pre W v h => bg_set2 v h) (fun pre A B h hb => ic_below pre A B h hb) ?hC0 ?hCs) (fun _ => rfl)
      (fun cd _ W => RetC w (BtL w.heap.size 0 (.slice none 0 0) 0 q.2.2) cd W ∧ q.2.2 ≠ 0)
      (fun pre x g W => BgJ w A n c false 0 l (k : Int) true 64 x g pre W ∧ Blk W (w.heap.size + 3) 174 #[.slice A n c, .int .i64 (posn l (k : Int) true (pre.length + 1))] ∧ Blk W (w.heap.size + 7) 4 #[.bool false])
      (OwnFrom.and (own_ic HB8.out _ _ _) (OwnFrom.and (own_blkF _ _ _) (own_blkF _ _ _))) (OwnFrom.and (own_ic HB8.out _ _ _) (OwnFrom.and (own_blkF _ _ _) (own_blkF _ _ _))) (OwnFrom.and (own_ic HB8.out _ _ _) (OwnFrom.and (own_blkF _ _ _) (own_blkF _ _ _)))
      (fun cd => OwnFrom.and (own_retC HB8.out _ _) (ownFrom_pure _ _)) (fun x g => OwnFrom.and (own_ic HB8.out _ _ _) (OwnFrom.and (own_blkF _ _ _) (own_blkF _ _ _))) ⟨HI0.out, HBC.out, HBF.out⟩ ?round ?done ?stop
    case hC0 =>
      rintro pre W' ⟨⟨k', hp, _⟩⟩
      exact hp.zero
    case hCs =>
      rintro pre W' ⟨⟨k', hp, hc⟩⟩
      have hx := hc.2.1
      unfold BgC at hx
      exact ⟨hx.tail.tail.head, HA.out.below hc.1, HT.out.below hc.1⟩
    case round =>
      apply Exists.intro
      refine And.intro ?_ ?_
      · rintro lp pre x W' ⟨⟨⟨k', hp, hc⟩⟩, hb1, hb2⟩ hsp
        have HP := Lib.hid hp; have HC := Lib.hid hc; have HB1 := Lib.hid hb1; have HB2 := Lib.hid hb2
        clear hp hc hb1 hb2 hsp
        dsimp only
        gi_wp2
        obtain ⟨g0, hg0⟩ : ∃ g0, W'.heap.size = g0 := ⟨_, rfl⟩
        have hcc := cons_cell (cons_alloc HC.out (.cells #[.int .i64 x.1.1, .int .i64 x.1.2] 109)) (blkAt (Blk.new W' 109 #[.int .i64 x.1.1, .int .i64 x.1.2]) hg0)
        rw [hg0]
        exact ⟨⟨g0, rfl, ⟨⟨k', HP.out, hcc⟩⟩, HB1.out.alloc _, HB2.out.alloc _⟩, kf_alloc (KeepsFrom.refl _ _) _⟩
      · rintro lp pre x g W' ⟨hJ, hb1, hb2⟩ hsp
        obtain ⟨left, v, hp, hc⟩ := bgj_u hJ hb1 hb2
        clear hJ hb1 hb2
        have hlast := spg_last hsp
        obtain ⟨⟨q1, q2⟩, er⟩ := x
        dsimp only at hc
        obtain ⟨A2, c2, hv2⟩ := own_slN hc.2.2.head
        dsimp only at hv2
        subst hv2
        have HP := Lib.hid hp; have HC := Lib.hid hc; have HSP := Lib.hid hsp; have HLA := Lib.hid hlast
        have hx := hc.2.1
        clear hp hc hsp hlast
        unfold BgC BtL at hx
        have hgn : g ≠ w.heap.size + 5 := blk_ne hx.head hx.tail.tail.head (by simp)
        have hgn' : w.heap.size + 5 ≠ g := fun h => hgn h.symm
        have p0 := hx.head.cell 0; have p1 := hx.head.cell 1
        have k0 := hx.tail.head.cell 0; have k1 := hx.tail.head.cell 1; have k2 := hx.tail.head.cell 2; have kf1 := hx.tail.head.frozen 1
        have l0 := hx.tail.tail.head.cell 0; have lf := hx.tail.tail.head.frozen 0
        have b0 := hx.tail.tail.tail.tail.tail.tail.head.cell 0; have b1 := hx.tail.tail.tail.tail.tail.tail.head.cell 1; have b2 := hx.tail.tail.tail.tail.tail.tail.tail.head.cell 0; have b3 := hx.tail.tail.tail.tail.tail.tail.tail.tail.head.cell 0
        have bf0 := hx.tail.tail.tail.tail.tail.tail.head.frozen 0; have bf1 := hx.tail.tail.tail.tail.tail.tail.head.frozen 1; have bf2 := hx.tail.tail.tail.tail.tail.tail.tail.head.frozen 0; have bf3 := hx.tail.tail.tail.tail.tail.tail.tail.tail.head.frozen 0
        dsimp only at p0 p1 k0 k1 k2 kf1 l0 lf b0 b1 b2 b3 bf0 bf1 bf2 bf3
        clear hx
        cases he : (er != 0) with
        | true =>
          have hne : er ≠ 0 := by simpa using he
          have HNE := Lib.hid hne
          clear hne
          have hq2 : q.2.2 = er := by rw [← HQ.out]; exact HP.out.err HSP.out HNE.out
          have HQ2 := Lib.hid hq2
          clear hq2
          gi_wp2_with fail
          refine ⟨kf_set (kf_set (kf_set (kf_set (KeepsFrom.refl _ _) _ _) _ _) _ _) _ _, ⟨rfl, ?_⟩, by rw [HQ2.out]; exact HNE.out⟩
          rw [HQ2.out]
          exact bget_setR 0 (.slice none 0 0) 0 er (cons_norow (bg_drop (cons_drop HC.out))) (by simp)
        | false =>
          have he0 : er = 0 := by simpa using he
          subst he0
          have hgk := HLA.out
          obtain ⟨hg1, hg2⟩ := hgk
          have hok := cget_ok l (posn l (k : Int) true pre.length) (flg true pre.length) (posn_ok l (k : Int) true (by omega) (by rw [HN.out]; omega) _).1 (posn_ok l (k : Int) true (by omega) (by rw [HN.out]; omega) _).2
          have hq1 : 0 ≤ q1 ∧ q1 ≤ 63 := by
            have h1 := (Prod.mk.inj hg1).1
            have h2 := (Prod.mk.inj hg1).2
            have h3 := hok.2.2.2.1 h2.symm hg2
            have h4 : (cgetP l (posn l (k : Int) true pre.length) (flg true pre.length)).1 = (q1, q2) := h1.symm
            rw [h4] at h3
            exact ⟨h3.1, h3.2.1⟩
          obtain ⟨hq0, hq63⟩ := hq1
          clear hok hg1 hg2
          have hl0 := HP.out.pos
          have hls := HP.out.sum
          have hw1 : IntKind.i64.wrap (q1 + 1) = q1 + 1 := by rw [IntKind.wrap_i64]; omega
          have hw2 : IntKind.i64.wrap (left - (q1 + 1)) = left - (q1 + 1) := by rw [IntKind.wrap_i64]; omega
          have HLL := Lib.hid hls; have HL0 := Lib.hid hl0
          clear hls hl0
          obtain ⟨lv, hlv⟩ : ∃ lv, left - (q1 + 1) = lv := ⟨_, rfl⟩
          rw [hlv] at hw2
          have hw3 : IntKind.i64.wrap lv = lv := hw2
          have HLV := Lib.hid hlv
          have HCa : Hid (Cons w (BgC w.heap.size A n c false 0 lv (.slice A2 pre.length c2) (.int .i64 (posn l (k : Int) true (pre.length + 1))) (.bool false)) [⟨w.heap.size, 109, 2, .slice A2 pre.length c2, pre.length, rowC pairC (pre.map (·.1))⟩] (W'.setCell ⟨w.heap.size + 5, 0, none⟩ (.int .i64 lv))) := Lib.hid (by
            have h2 := cons_store (cons_drop HC.out) (g := w.heap.size + 5) (by omega) 0 (.int .i64 lv) (w.heap.size + 5, 3, #[.int .i64 left]) (by simp [BgC]) rfl (by simp)
            simpa [setL, BgC, BtL] using h2)
          by_cases hneg : lv < 0
          · have hq2 : q.2.2 = 11 := by rw [← HQ.out]; exact HP.out.run HSP.out rfl (by show left - (q1 + 1) < 0; omega)
            have HQ2 := Lib.hid hq2
            clear hq2
            gi_wp2_with fail
            refine ⟨kf_set (kf_set (kf_set (kf_set (kf_set (KeepsFrom.refl _ _) _ _) _ _) _ _) _ _) _ _, ⟨rfl, ?_⟩, by rw [HQ2.out]; decide⟩
            rw [HQ2.out]
            exact bget_setR 0 (.slice none 0 0) 0 11 (cons_norow (bg_drop HCa.out)) (by simp)
          · have HLE := Lib.hid (show pre.length ≤ 64 from HP.out.len)
            gi_wp2_with (gi_at_builtin; refine wpListIn_appC etPair rfl rfl 1 [.int .i64 q1, .int .i64 q2] rfl HCa.out (by rw [World.size_setCell]; rfl) rfl (by intro u hu; simp at hu; rcases hu with rfl | rfl <;> rfl) (by have := HLE.out; omega) ⟨Nat.le_refl _, HCa.out.1.size⟩ (by simp [BgC, BtL]) (by simp) ?_; intro v5 W5 hc5 hg5; obtain ⟨A5, c5, e5⟩ := own_slN hc5.2.2.head; dsimp only at e5; subst e5; have HC5 := Lib.hid hc5; have HG5 := Lib.hid hg5; have hy := hc5.2.1; clear hc5 hg5; unfold BgC at hy; have y0 := hy.head.cell 0; have y1 := hy.head.cell 1; have y2 := hy.head.cell 2; have yf := hy.head.frozen 1; dsimp only at y0 y1 y2 yf; clear hy)
            have hln : (pre ++ [(((q1, q2), 0) : PEl)]).length = pre.length + 1 := by simp
            have HCb : Cons w (BgC w.heap.size A n c false 0 lv (.slice A5 (pre.length + 1) c5) (.int .i64 (posn l (k : Int) true (pre.length + 1))) (.bool false)) [⟨w.heap.size, 109, 2, .slice A5 (pre.length + 1) c5, (pre ++ [(((q1, q2), 0) : PEl)]).length, rowC pairC ((pre ++ [(((q1, q2), 0) : PEl)]).map (·.1))⟩] (W5.setCell ⟨w.heap.size + 4, 1, none⟩ (.slice A5 (pre.length + 1) c5)) := by
              have h2 := cons_store HC5.out (g := w.heap.size + 4) (by omega) 1 (.slice A5 (pre.length + 1) c5) (w.heap.size + 4, 135, #[.int .i64 0, .slice A2 pre.length c2, .bool false]) (by simp [BgC]) rfl (by simp)
              rw [hln, List.map_append, rowC_app]
              simpa [setL, BgC, BtL, rowC_one, pairC] using h2
            have h9 := bg_put (pre := pre ++ [(((q1, q2), 0) : PEl)]) (HP.out.next HSP.out rfl (by show 0 ≤ left - (q1 + 1); have := HLV.out; omega) (by show 0 ≤ q1; omega)) (by show Cons w (BgC w.heap.size A n c false 0 (left - (q1 + 1)) _ _ _) _ _; rw [HLV.out]; exact HCb)
            refine ⟨kf_set (kf_then' (kf_set (KeepsFrom.refl _ _) _ _) (kf_grown (KeepsFrom.refl _ _) HG5.out (own_cells HCa.out.2.2.head))) _ _, trivial, h9.1, ?_, h9.2.2⟩
            rw [hln]
            exact h9.2.1
    case done =>
      rintro D xs W2 hD ⟨hS, hend⟩ ⟨hI, hb1, hb2⟩ hK
      obtain ⟨left, v, hp, hc⟩ := bg_u hI hb1 hb2
      have hq2 := hp.fin hend
      have hpo := posn_ok l (k : Int) true (by omega) (by rw [HN.out]; omega) (xs.length + 1)
      rw [HN.out] at hpo
      rw [HQ.out] at hq2
      have HQ2 := Lib.hid hq2
      clear hI hb1 hb2 hS hend hp hq2
      obtain ⟨A2, c2, hv2⟩ := own_slN hc.2.2.head
      dsimp only at hv2
      subst hv2
      obtain ⟨pz, hpz⟩ : ∃ pz, posn l (k : Int) true (xs.length + 1) = pz := ⟨_, rfl⟩
      rw [hpz] at hc HQ2 hpo
      obtain ⟨hpo1, hpo2⟩ := hpo
      have hwz : IntKind.i64.wrap (pz - (k : Int)) = pz - (k : Int) := by rw [IntKind.wrap_i64]; omega
      have HC := Lib.hid hc; have HK := Lib.hid hK; have HD := Lib.hid hD
      have HCd := Lib.hid (cons_drew hc)
      have hx := hc.2.1
      have hxd := HCd.out.2.1
      clear hc hK hpz hD
      unfold BgC BtL at hx
      unfold BgC at hxd
      have HKI := Lib.hid hxd.head; have HCU := Lib.hid hxd.tail.tail.tail.head
      clear hxd
      have b0 := hx.tail.tail.tail.tail.tail.head.cell 0; have b1 := hx.tail.tail.tail.tail.tail.head.cell 1; have b2 := hx.tail.tail.tail.tail.tail.tail.head.cell 0; have b3 := hx.tail.tail.tail.tail.tail.tail.tail.head.cell 0
      have bf0 := hx.tail.tail.tail.tail.tail.head.frozen 0; have bf1 := hx.tail.tail.tail.tail.tail.head.frozen 1; have bf2 := hx.tail.tail.tail.tail.tail.tail.head.frozen 0; have bf3 := hx.tail.tail.tail.tail.tail.tail.tail.head.frozen 0
      dsimp only at b0 b1 b2 b3 bf0 bf1 bf2 bf3
      clear hx
      gi_wp2_with fail
      go_wp2_with fail
      refine wp_region_treeN (fun w' => CellsAt [(w.heap.size + 4, 135, #[.int .i64 0, .slice A2 xs.length c2, .bool false]), (w.heap.size + 3, 174, #[.slice A n c, .int .i64 pz])] w') 9 (.take 0 (.take 1 (.take 2 (.take 3 (.take 4 (.take 5 (.take 6 (.take 7 (.step 8 .done))))))))) (by kernel_rfl) (by kernel_rfl) (by simp only [Pln.out, Array.getD_eq_getD_getElem?, List.getElem?_toArray, List.getElem?_cons_zero, List.getElem?_cons_succ, Option.getD_some]; rfl) (by simp only [List.map_cons, List.map_nil]; rfl) (CellsAt.cons HKI.out (CellsAt.cons HCU.out (cellsAt_nil _))) (fun PE hPE => ?_)
      iterate 8
        refine tree_take (v := ?_) rfl (by rfl) ?_ ?_
        rotate_left
        · intro _ hSw; (try dsimp only at hSw); have z0 := hSw.head.cell 0; have z1 := hSw.head.cell 1; have z2 := hSw.tail.head.cell 0; have z3 := hSw.tail.head.cell 1; dsimp only at z0 z1 z2 z3; go_simp; (try with_reducible rfl)
        simp only [List.setIfInBounds_toArray, List.set_cons_zero, List.set_cons_succ]
      refine tree_skip _ (w' := ?_) rfl (by rfl) ?_ ?_ ?_
      rotate_left 1
      · go_simp; (first | (with_reducible rfl) | (constructor <;> with_reducible rfl) | skip)
      · exact CellsAt.cons ((HKI.out.far (p := ⟨w.heap.size, 0, none⟩) (by simp) (.int .i64 0)).far (p := ⟨w.heap.size, 1, none⟩) (by simp) (.slice A2 xs.length c2)) (CellsAt.cons ((HCU.out.far (p := ⟨w.heap.size, 0, none⟩) (by simp) (.int .i64 0)).far (p := ⟨w.heap.size, 1, none⟩) (by simp) (.slice A2 xs.length c2)) (cellsAt_nil _))
      refine hPE _ _ ?_
      clear hPE PE
      simp only [List.drop_succ_cons, List.drop_zero, List.drop_nil]
      go_wp2_with fail
      refine ⟨rfl, ?_⟩
      go_wp2_with fail
      have hc5 := cons_drew (bget_setR 0 (.slice A2 xs.length c2) (pz - (k : Int)) 0 (bg_drop HC.out) (by simp))
      have hhD : w.heap.size + 8 ≤ D := by have := HD.out; rw [HS8.out] at this; exact this
      have hK5 : (World.drew ((((W2.setCell ⟨w.heap.size, 0, none⟩ (.int .i64 0)).setCell ⟨w.heap.size, 1, none⟩ (.slice A2 xs.length c2)).setCell ⟨w.heap.size + 1, 0, none⟩ (.int .i64 (pz - (k : Int)))).setCell ⟨w.heap.size + 2, 0, none⟩ (.int .i64 0))).heap[D]? = some (.deferred (some [])) := by
        show (World.setCell _ _ _).heap[D]? = _
        rw [Below.heap_setCell _ _ _ D (by show D ≠ w.heap.size + 2; omega), Below.heap_setCell _ _ _ D (by show D ≠ w.heap.size + 1; omega), Below.heap_setCell _ _ _ D (by show D ≠ w.heap.size; omega), Below.heap_setCell _ _ _ D (by show D ≠ w.heap.size; omega)]
        exact HK.out
      have hc6 := cons_put (o' := .deferred none) hc5 hK5 rfl (by omega)
      have hrr : r = (⟨0, xs.map (·.1)⟩, pz - (k : Int), 0) := by
        have h := HR.out
        rw [HQ2.out] at h
        exact h.symm.trans (if_neg (by simp))
      rw [hrr]
      exact retM hK5 (bget_res w.heap.size 0 (.slice A2 xs.length c2) (pz - (k : Int)) 0 _ _ hc6.2.1 rfl rfl rfl) ⟨.slice A2 xs.length c2, rfl, hc6.1, by show World.ownsRow _ _ _ _ _ (xs.map (·.1)).length _; rw [List.length_map]; exact hc6.2.2.head⟩
    case stop =>
      rintro D cd pre W2 hD hsp ⟨⟨rfl, hbel, hcs, _⟩, hne⟩ hK
      have HBel := Lib.hid hbel; have HCS := Lib.hid hcs; have HK := Lib.hid hK; have HD := Lib.hid hD; have HNE := Lib.hid hne
      clear hbel hcs hK hsp hD hne
      have hrr : r = (⟨0, []⟩, 0, q.2.2) := by
        have h := HR.out
        rw [if_pos (by simpa using HNE.out)] at h
        exact h.symm
      have HRR := Lib.hid hrr
      clear hrr
      gi_wp2_with fail
      rw [HRR.out]
      exact retM HK.out (bget_res w.heap.size 0 (.slice none 0 0) 0 q.2.2 _ _ (cells_put (o' := .deferred none) HCS.out HK.out rfl) rfl rfl rfl) ⟨.slice none 0 0, rfl, below_put HBel.out (Nat.le_trans HB8.out HD.out), World.ownsRow_nil _ _ _ _⟩
  | true =>
    rw [if_pos (show true = true from rfl)] at hr
    by_cases hmore : 8 * (n : Int) < (k : Int) + 8
    · rw [if_pos hmore] at hr
      subst hr
      have Rd := Lib.hid (fun W => bits_Read_more A n c (k : Int) 8 W (by omega) (by decide) (by decide) (by omega) hsz)
      clear hmore
      refine (callsIn_wide (n := 5)).1 ?_
      refine callsIn_of_wp_marks Tryz.func115 rfl trivial ?_ rfl
      simp only [Tryz.ntmps115, List.size_toArray, List.length_cons, List.length_nil, Nat.reduceAdd, Nat.reduceSub, Array.replicate_succ, Array.replicate_zero, List.push_toArray, List.append_toArray, List.nil_append, List.cons_append]
      refine wpIn_wide.2 ?_
      go_wp2_with (first | (go_at_call 142; refine (bits_Count A n c _ hsz).mono ?_; rintro e w' ⟨rfl, rfl⟩) | (go_at_call 110; refine (Rd.out _).mono ?_; rintro e w' ⟨rfl, rfl⟩))
      simp only [Nat.add_assoc, Nat.reduceAdd]
      refine retN (bget_res w.heap.size 0 (.slice none 0 0) 0 5 _ _ ?_ rfl rfl rfl) ⟨.slice none 0 0, rfl, ?_, World.ownsRow_nil _ _ _ _⟩
      · unfold BtL
        refine CellsAt.cons ?_ (CellsAt.cons ?_ (CellsAt.cons ?_ (cellsAt_nil _)))
        all_goals (repeat (first | (refine blkAt (Blk.new _ _ _) ?_; simp [World.size_alloc]; done) | refine Blk.alloc ?_ _))
      · exact ((((((Below.refl _ _).alloc (Nat.le_refl _) _).alloc (by simp) _).alloc (by simp; omega) _).alloc (by simp; omega) _).alloc (by simp; omega) _).alloc (by simp; omega) _
    · rw [if_neg hmore] at hr
      have hk8 : k + 8 ≤ 8 * n := by omega
      obtain ⟨nb, hnb⟩ : ∃ nb, numN l k 8 = nb := ⟨_, rfl⟩
      dsimp only at hr
      rw [hnb] at hr
      have Rd := Lib.hid (fun W h => bits_Read_v (nb : Int) A n c l (k : Int) 8 W (by rw [Int.toNat_natCast]; show ((numN l k 8 : Nat) : Int) = _; rw [hnb]) h HN.out (by omega) (by decide) (by decide) (by omega) hsz)
      clear hmore hnb
      cases hz : ((nb == 0) || (nb == 128)) with
      | true =>
        rw [hz, if_pos rfl] at hr
        subst hr
        have hz2 : nb = 0 ∨ nb = 128 := by simpa using hz
        clear hz
        rcases hz2 with rfl | rfl
        · skip
          refine (callsIn_wide (n := 5)).1 ?_
          refine callsIn_of_wp_marks Tryz.func115 rfl trivial ?_ rfl
          simp only [Tryz.ntmps115, List.size_toArray, List.length_cons, List.length_nil, Nat.reduceAdd, Nat.reduceSub, Array.replicate_succ, Array.replicate_zero, List.push_toArray, List.append_toArray, List.nil_append, List.cons_append]
          refine wpIn_wide.2 ?_
          go_wp2_with (first | (go_at_call 142; refine (bits_Count A n c _ hsz).mono ?_; rintro e w' ⟨rfl, rfl⟩) | (go_at_call 110; refine (Rd.out _ (HA.out.below (((((((Below.refl _ _).alloc (Nat.le_refl _) _).alloc (by simp) _).alloc (by simp; omega) _).alloc (by simp; omega) _).alloc (by simp; omega) _).alloc (by simp; omega) _))).mono ?_; rintro e w' ⟨rfl, rfl⟩))
          simp only [Nat.add_assoc, Nat.reduceAdd]
          refine retN (bget_res w.heap.size 0 (.slice none 0 0) 0 10 _ _ ?_ rfl rfl rfl) ⟨.slice none 0 0, rfl, ?_, World.ownsRow_nil _ _ _ _⟩
          · unfold BtL
            refine CellsAt.cons ?_ (CellsAt.cons ?_ (CellsAt.cons ?_ (cellsAt_nil _)))
            all_goals (repeat (first | (refine blkAt (Blk.new _ _ _) ?_; simp [World.size_alloc]; done) | refine Blk.alloc ?_ _))
          · exact ((((((Below.refl _ _).alloc (Nat.le_refl _) _).alloc (by simp) _).alloc (by simp; omega) _).alloc (by simp; omega) _).alloc (by simp; omega) _).alloc (by simp; omega) _
        · skip
          refine (callsIn_wide (n := 5)).1 ?_
          refine callsIn_of_wp_marks Tryz.func115 rfl trivial ?_ rfl
          simp only [Tryz.ntmps115, List.size_toArray, List.length_cons, List.length_nil, Nat.reduceAdd, Nat.reduceSub, Array.replicate_succ, Array.replicate_zero, List.push_toArray, List.append_toArray, List.nil_append, List.cons_append]
          refine wpIn_wide.2 ?_
          go_wp2_with (first | (go_at_call 142; refine (bits_Count A n c _ hsz).mono ?_; rintro e w' ⟨rfl, rfl⟩) | (go_at_call 110; refine (Rd.out _ (HA.out.below (((((((Below.refl _ _).alloc (Nat.le_refl _) _).alloc (by simp) _).alloc (by simp; omega) _).alloc (by simp; omega) _).alloc (by simp; omega) _).alloc (by simp; omega) _))).mono ?_; rintro e w' ⟨rfl, rfl⟩))
          simp only [Nat.add_assoc, Nat.reduceAdd]
          refine retN (bget_res w.heap.size 0 (.slice none 0 0) 0 10 _ _ ?_ rfl rfl rfl) ⟨.slice none 0 0, rfl, ?_, World.ownsRow_nil _ _ _ _⟩
          · unfold BtL
            refine CellsAt.cons ?_ (CellsAt.cons ?_ (CellsAt.cons ?_ (cellsAt_nil _)))
            all_goals (repeat (first | (refine blkAt (Blk.new _ _ _) ?_; simp [World.size_alloc]; done) | refine Blk.alloc ?_ _))
          · exact ((((((Below.refl _ _).alloc (Nat.le_refl _) _).alloc (by simp) _).alloc (by simp; omega) _).alloc (by simp; omega) _).alloc (by simp; omega) _).alloc (by simp; omega) _
      | false =>
        rw [hz, if_neg (by decide)] at hr
        have hz0 : ((nb : Int) == 0) = false := by simp at hz ⊢; omega
        have hz1 : ((nb : Int) == 128) = false := by simp at hz ⊢; omega
        have hwk : IntKind.i64.wrap ((k : Int) + 8) = (k : Int) + 8 := by rw [IntKind.wrap_i64]; omega
        clear hz
        refine (callsIn_wide (n := 5)).1 ?_
        refine callsIn_of_wp_marks Tryz.func115 rfl trivial ?_ rfl
        simp only [Tryz.ntmps115, List.size_toArray, List.length_cons, List.length_nil, Nat.reduceAdd, Nat.reduceSub, Array.replicate_succ, Array.replicate_zero, List.push_toArray, List.append_toArray, List.nil_append, List.cons_append]
        refine wpIn_wide.2 ?_
        go_wp2_with (first | (go_at_call 142; refine (bits_Count A n c _ hsz).mono ?_; rintro e w' ⟨rfl, rfl⟩) | (go_at_call 110; refine (Rd.out _ (HA.out.below (((((((Below.refl _ _).alloc (Nat.le_refl _) _).alloc (by simp) _).alloc (by simp; omega) _).alloc (by simp; omega) _).alloc (by simp; omega) _).alloc (by simp; omega) _))).mono ?_; rintro e w' ⟨rfl, rfl⟩) | (go_at_call 145; refine (block_cpairs _ _ _).mono ?_; rintro e w' ⟨rfl, rfl⟩))
        have hc6 : Cons w ((w.heap.size + 4, 135, #[.int .i64 (nb : Int), .slice none 0 0, .bool true]) :: (w.heap.size + 5, 3, #[.int .i64 63]) :: (w.heap.size + 3, 174, #[.slice A n c, .int .i64 ((k : Int) + 8)]) :: BtL w.heap.size 0 (.slice none 0 0) 0 0) [] ((((((w.alloc (.cells #[.int .i64 0, .slice none 0 0] 81)).alloc (.cells #[.int .i64 0] 3)).alloc (.cells #[.int .i64 0] 30)).alloc (.cells #[.slice A n c, .int .i64 ((k : Int) + 8)] 174)).alloc (.cells #[.int .i64 (nb : Int), .slice none 0 0, .bool true] 135)).alloc (.cells #[.int .i64 63] 3)) := by
          refine ⟨(((((((Below.refl _ _).alloc (Nat.le_refl _) _).alloc (by simp) _).alloc (by simp; omega) _).alloc (by simp; omega) _).alloc (by simp; omega) _).alloc (by simp; omega) _), ?_, rowsAt_nil _⟩
          unfold BtL
          refine CellsAt.cons ?_ (CellsAt.cons ?_ (CellsAt.cons ?_ (CellsAt.cons ?_ (CellsAt.cons ?_ (CellsAt.cons ?_ (cellsAt_nil _))))))
          all_goals (repeat (first | (refine blkAt (Blk.new _ _ _) ?_; simp [World.size_alloc]; done) | refine Blk.alloc ?_ _))
        have hs6 : ((((((w.alloc (.cells #[.int .i64 0, .slice none 0 0] 81)).alloc (.cells #[.int .i64 0] 3)).alloc (.cells #[.int .i64 0] 30)).alloc (.cells #[.slice A n c, .int .i64 ((k : Int) + 8)] 174)).alloc (.cells #[.int .i64 (nb : Int), .slice none 0 0, .bool true] 135)).alloc (.cells #[.int .i64 63] 3)).heap.size = w.heap.size + 6 := by simp
        simp only [Nat.add_assoc, Nat.reduceAdd]
        generalize (((((w.alloc (.cells #[.int .i64 0, .slice none 0 0] 81)).alloc (.cells #[.int .i64 0] 3)).alloc (.cells #[.int .i64 0] 30)).alloc (.cells #[.slice A n c, .int .i64 ((k : Int) + 8)] 174)).alloc (.cells #[.int .i64 (nb : Int), .slice none 0 0, .bool true] 135)).alloc (.cells #[.int .i64 63] 3) = W6 at hc6 hs6 ⊢
        obtain ⟨q, hq⟩ : ∃ q, bpairs l 66 ((k : Int) + 8) false 63 = q := ⟨_, rfl⟩
        rw [hq] at hr
        have HR := Lib.hid hr; have HQ := Lib.hid hq
        clear hr hq
        obtain ⟨hI0, hbc, hbf⟩ := bg_start (A := A) (n := n) (c := c) (intra := true) (dc := (nb : Int)) (l := l) (i := ((k : Int) + 8)) (left0 := 63) (first := false) hc6 hs6 (by decide) (by decide)
        have hs8 : ((W6.alloc (.cells #[.pointer (some ⟨w.heap.size + 3, 0, none⟩)] 172)).alloc (.cells #[.bool false] 4)).heap.size = w.heap.size + 8 := by simp [hs6]
        generalize (W6.alloc (.cells #[.pointer (some ⟨w.heap.size + 3, 0, none⟩)] 172)).alloc (.cells #[.bool false] 4) = W at hI0 hbc hbf hs8 ⊢
        have HI0 := Lib.hid hI0; have HBC := Lib.hid hbc; have HBF := Lib.hid hbf; have HS8 := Lib.hid hs8
        clear hI0 hbc hbf hs8 hc6 hs6
        have HB8 : Hid (w.heap.size ≤ W.heap.size) := Lib.hid (by rw [HS8.out]; omega)
        refine (wpIn_wide (n := 5)).1 ?_
        refine wp_wF (α := PEl) (enc := fun x : PEl => #[.agg #[.int .i64 x.1.1, .int .i64 x.1.2], .int .i64 x.2])
          (IS := fun pre W => BgI w A n c true (nb : Int) l ((k : Int) + 8) false 63 pre W ∧ Blk W (w.heap.size + 3) 174 #[.slice A n c, .int .i64 ((k : Int) + 8)] ∧ Blk W (w.heap.size + 7) 4 #[.bool false])
          (I := fun pre W => BgI w A n c true (nb : Int) l ((k : Int) + 8) false 63 pre W ∧ Blk W (w.heap.size + 3) 174 #[.slice A n c, .int .i64 (posn l ((k : Int) + 8) false (pre.length + 1))] ∧ Blk W (w.heap.size + 7) 4 #[.bool false])
          (I2 := fun pre W => BgI w A n c true (nb : Int) l ((k : Int) + 8) false 63 pre W ∧ Blk W (w.heap.size + 3) 174 #[.slice A n c, .int .i64 (posn l ((k : Int) + 8) false pre.length)] ∧ Blk W (w.heap.size + 7) 4 #[.bool false])
          (IE := fun pre W => BgI w A n c true (nb : Int) l ((k : Int) + 8) false 63 pre W ∧ Blk W (w.heap.size + 3) 174 #[.slice A n c, .int .i64 (posn l ((k : Int) + 8) false (pre.length + 1))] ∧ Blk W (w.heap.size + 7) 4 #[.bool false])
          (S := fun xs => SpG l ((k : Int) + 8) false xs ∧ (gK l ((k : Int) + 8) false xs.length).2.1 = true) (Sp := SpG l ((k : Int) + 8) false)
          rfl (by decide) (gf := 165) (lb := #[.pointer (some ⟨w.heap.size + 6, 0, none⟩), .pointer (some ⟨w.heap.size + 7, 0, none⟩)]) rfl trivial (enters_of Tryz.func165 (by kernel_rfl) rfl)
          (pairs_seq 4 (by decide) (w.heap.size + 3) (w.heap.size + 6) (w.heap.size + 7) A n c l ((k : Int) + 8) false HN.out hsz (by omega) (by rw [HN.out]; omega) (by omega) _ (fun pre W v h => bg_set1 v h) (fun pre W v h => bg_set2 v h) (fun pre A B h hb => ic_below pre A B h hb) ?hC0 ?hCs) (fun _ => rfl)
          (fun cd _ W => RetC w (BtL w.heap.size 0 (.slice none 0 0) 0 q.2.2) cd W ∧ q.2.2 ≠ 0)
          (fun pre x g W => BgJ w A n c true (nb : Int) l ((k : Int) + 8) false 63 x g pre W ∧ Blk W (w.heap.size + 3) 174 #[.slice A n c, .int .i64 (posn l ((k : Int) + 8) false (pre.length + 1))] ∧ Blk W (w.heap.size + 7) 4 #[.bool false])
          (OwnFrom.and (own_ic HB8.out _ _ _) (OwnFrom.and (own_blkF _ _ _) (own_blkF _ _ _))) (OwnFrom.and (own_ic HB8.out _ _ _) (OwnFrom.and (own_blkF _ _ _) (own_blkF _ _ _))) (OwnFrom.and (own_ic HB8.out _ _ _) (OwnFrom.and (own_blkF _ _ _) (own_blkF _ _ _)))
          (fun cd => OwnFrom.and (own_retC HB8.out _ _) (ownFrom_pure _ _)) (fun x g => OwnFrom.and (own_ic HB8.out _ _ _) (OwnFrom.and (own_blkF _ _ _) (own_blkF _ _ _))) ⟨HI0.out, HBC.out, HBF.out⟩ ?round ?done ?stop
        case hC0 =>
          rintro pre W' ⟨⟨k', hp, _⟩⟩
          exact hp.zero
        case hCs =>
          rintro pre W' ⟨⟨k', hp, hc⟩⟩
          have hx := hc.2.1
          unfold BgC at hx
          exact ⟨hx.tail.tail.head, HA.out.below hc.1, HT.out.below hc.1⟩
        case round =>
          apply Exists.intro
          refine And.intro ?_ ?_
          · rintro lp pre x W' ⟨⟨⟨k', hp, hc⟩⟩, hb1, hb2⟩ hsp
            have HP := Lib.hid hp; have HC := Lib.hid hc; have HB1 := Lib.hid hb1; have HB2 := Lib.hid hb2
            clear hp hc hb1 hb2 hsp
            dsimp only
            gi_wp2
            obtain ⟨g0, hg0⟩ : ∃ g0, W'.heap.size = g0 := ⟨_, rfl⟩
            have hcc := cons_cell (cons_alloc HC.out (.cells #[.int .i64 x.1.1, .int .i64 x.1.2] 109)) (blkAt (Blk.new W' 109 #[.int .i64 x.1.1, .int .i64 x.1.2]) hg0)
            rw [hg0]
            exact ⟨⟨g0, rfl, ⟨⟨k', HP.out, hcc⟩⟩, HB1.out.alloc _, HB2.out.alloc _⟩, kf_alloc (KeepsFrom.refl _ _) _⟩
          · rintro lp pre x g W' ⟨hJ, hb1, hb2⟩ hsp
            obtain ⟨left, v, hp, hc⟩ := bgj_u hJ hb1 hb2
            clear hJ hb1 hb2
            have hlast := spg_last hsp
            obtain ⟨⟨q1, q2⟩, er⟩ := x
            dsimp only at hc
            obtain ⟨A2, c2, hv2⟩ := own_slN hc.2.2.head
            dsimp only at hv2
            subst hv2
            have HP := Lib.hid hp; have HC := Lib.hid hc; have HSP := Lib.hid hsp; have HLA := Lib.hid hlast
            have hx := hc.2.1
            clear hp hc hsp hlast
            unfold BgC BtL at hx
            have hgn : g ≠ w.heap.size + 5 := blk_ne hx.head hx.tail.tail.head (by simp)
            have hgn' : w.heap.size + 5 ≠ g := fun h => hgn h.symm
            have p0 := hx.head.cell 0; have p1 := hx.head.cell 1
            have k0 := hx.tail.head.cell 0; have k1 := hx.tail.head.cell 1; have k2 := hx.tail.head.cell 2; have kf1 := hx.tail.head.frozen 1
            have l0 := hx.tail.tail.head.cell 0; have lf := hx.tail.tail.head.frozen 0
            have b0 := hx.tail.tail.tail.tail.tail.tail.head.cell 0; have b1 := hx.tail.tail.tail.tail.tail.tail.head.cell 1; have b2 := hx.tail.tail.tail.tail.tail.tail.tail.head.cell 0; have b3 := hx.tail.tail.tail.tail.tail.tail.tail.tail.head.cell 0
            have bf0 := hx.tail.tail.tail.tail.tail.tail.head.frozen 0; have bf1 := hx.tail.tail.tail.tail.tail.tail.head.frozen 1; have bf2 := hx.tail.tail.tail.tail.tail.tail.tail.head.frozen 0; have bf3 := hx.tail.tail.tail.tail.tail.tail.tail.tail.head.frozen 0
            dsimp only at p0 p1 k0 k1 k2 kf1 l0 lf b0 b1 b2 b3 bf0 bf1 bf2 bf3
            clear hx
            cases he : (er != 0) with
            | true =>
              have hne : er ≠ 0 := by simpa using he
              have HNE := Lib.hid hne
              clear hne
              have hq2 : q.2.2 = er := by rw [← HQ.out]; exact HP.out.err HSP.out HNE.out
              have HQ2 := Lib.hid hq2
              clear hq2
              gi_wp2_with fail
              refine ⟨kf_set (kf_set (kf_set (kf_set (KeepsFrom.refl _ _) _ _) _ _) _ _) _ _, ⟨rfl, ?_⟩, by rw [HQ2.out]; exact HNE.out⟩
              rw [HQ2.out]
              exact bget_setR 0 (.slice none 0 0) 0 er (cons_norow (bg_drop (cons_drop HC.out))) (by simp)
            | false =>
              have he0 : er = 0 := by simpa using he
              subst he0
              have hgk := HLA.out
              obtain ⟨hg1, hg2⟩ := hgk
              have hok := cget_ok l (posn l ((k : Int) + 8) false pre.length) (flg false pre.length) (posn_ok l ((k : Int) + 8) false (by omega) (by rw [HN.out]; omega) _).1 (posn_ok l ((k : Int) + 8) false (by omega) (by rw [HN.out]; omega) _).2
              have hq1 : 0 ≤ q1 ∧ q1 ≤ 63 := by
                have h1 := (Prod.mk.inj hg1).1
                have h2 := (Prod.mk.inj hg1).2
                have h3 := hok.2.2.2.1 h2.symm hg2
                have h4 : (cgetP l (posn l ((k : Int) + 8) false pre.length) (flg false pre.length)).1 = (q1, q2) := h1.symm
                rw [h4] at h3
                exact ⟨h3.1, h3.2.1⟩
              obtain ⟨hq0, hq63⟩ := hq1
              clear hok hg1 hg2
              have hl0 := HP.out.pos
              have hls := HP.out.sum
              have hw1 : IntKind.i64.wrap (q1 + 1) = q1 + 1 := by rw [IntKind.wrap_i64]; omega
              have hw2 : IntKind.i64.wrap (left - (q1 + 1)) = left - (q1 + 1) := by rw [IntKind.wrap_i64]; omega
              have HLL := Lib.hid hls; have HL0 := Lib.hid hl0
              clear hls hl0
              obtain ⟨lv, hlv⟩ : ∃ lv, left - (q1 + 1) = lv := ⟨_, rfl⟩
              rw [hlv] at hw2
              have hw3 : IntKind.i64.wrap lv = lv := hw2
              have HLV := Lib.hid hlv
              have HCa : Hid (Cons w (BgC w.heap.size A n c true (nb : Int) lv (.slice A2 pre.length c2) (.int .i64 (posn l ((k : Int) + 8) false (pre.length + 1))) (.bool false)) [⟨w.heap.size, 109, 2, .slice A2 pre.length c2, pre.length, rowC pairC (pre.map (·.1))⟩] (W'.setCell ⟨w.heap.size + 5, 0, none⟩ (.int .i64 lv))) := Lib.hid (by
                have h2 := cons_store (cons_drop HC.out) (g := w.heap.size + 5) (by omega) 0 (.int .i64 lv) (w.heap.size + 5, 3, #[.int .i64 left]) (by simp [BgC]) rfl (by simp)
                simpa [setL, BgC, BtL] using h2)
              by_cases hneg : lv < 0
              · have hq2 : q.2.2 = 11 := by rw [← HQ.out]; exact HP.out.run HSP.out rfl (by show left - (q1 + 1) < 0; omega)
                have HQ2 := Lib.hid hq2
                clear hq2
                gi_wp2_with fail
                refine ⟨kf_set (kf_set (kf_set (kf_set (kf_set (KeepsFrom.refl _ _) _ _) _ _) _ _) _ _) _ _, ⟨rfl, ?_⟩, by rw [HQ2.out]; decide⟩
                rw [HQ2.out]
                exact bget_setR 0 (.slice none 0 0) 0 11 (cons_norow (bg_drop HCa.out)) (by simp)
              · have HLE := Lib.hid (show pre.length ≤ 64 from HP.out.len)
                gi_wp2_with (gi_at_builtin; refine wpListIn_appC etPair rfl rfl 1 [.int .i64 q1, .int .i64 q2] rfl HCa.out (by rw [World.size_setCell]; rfl) rfl (by intro u hu; simp at hu; rcases hu with rfl | rfl <;> rfl) (by have := HLE.out; omega) ⟨Nat.le_refl _, HCa.out.1.size⟩ (by simp [BgC, BtL]) (by simp) ?_; intro v5 W5 hc5 hg5; obtain ⟨A5, c5, e5⟩ := own_slN hc5.2.2.head; dsimp only at e5; subst e5; have HC5 := Lib.hid hc5; have HG5 := Lib.hid hg5; have hy := hc5.2.1; clear hc5 hg5; unfold BgC at hy; have y0 := hy.head.cell 0; have y1 := hy.head.cell 1; have y2 := hy.head.cell 2; have yf := hy.head.frozen 1; dsimp only at y0 y1 y2 yf; clear hy)
                have hln : (pre ++ [(((q1, q2), 0) : PEl)]).length = pre.length + 1 := by simp
                have HCb : Cons w (BgC w.heap.size A n c true (nb : Int) lv (.slice A5 (pre.length + 1) c5) (.int .i64 (posn l ((k : Int) + 8) false (pre.length + 1))) (.bool false)) [⟨w.heap.size, 109, 2, .slice A5 (pre.length + 1) c5, (pre ++ [(((q1, q2), 0) : PEl)]).length, rowC pairC ((pre ++ [(((q1, q2), 0) : PEl)]).map (·.1))⟩] (W5.setCell ⟨w.heap.size + 4, 1, none⟩ (.slice A5 (pre.length + 1) c5)) := by
                  have h2 := cons_store HC5.out (g := w.heap.size + 4) (by omega) 1 (.slice A5 (pre.length + 1) c5) (w.heap.size + 4, 135, #[.int .i64 (nb : Int), .slice A2 pre.length c2, .bool true]) (by simp [BgC]) rfl (by simp)
                  rw [hln, List.map_append, rowC_app]
                  simpa [setL, BgC, BtL, rowC_one, pairC] using h2
                have h9 := bg_put (pre := pre ++ [(((q1, q2), 0) : PEl)]) (HP.out.next HSP.out rfl (by show 0 ≤ left - (q1 + 1); have := HLV.out; omega) (by show 0 ≤ q1; omega)) (by show Cons w (BgC w.heap.size A n c true (nb : Int) (left - (q1 + 1)) _ _ _) _ _; rw [HLV.out]; exact HCb)
                refine ⟨kf_set (kf_then' (kf_set (KeepsFrom.refl _ _) _ _) (kf_grown (KeepsFrom.refl _ _) HG5.out (own_cells HCa.out.2.2.head))) _ _, trivial, h9.1, ?_, h9.2.2⟩
                rw [hln]
                exact h9.2.1
        case done =>
          rintro D xs W2 hD ⟨hS, hend⟩ ⟨hI, hb1, hb2⟩ hK
          obtain ⟨left, v, hp, hc⟩ := bg_u hI hb1 hb2
          have hq2 := hp.fin hend
          have hpo := posn_ok l ((k : Int) + 8) false (by omega) (by rw [HN.out]; omega) (xs.length + 1)
          rw [HN.out] at hpo
          rw [HQ.out] at hq2
          have HQ2 := Lib.hid hq2
          clear hI hb1 hb2 hS hend hp hq2
          obtain ⟨A2, c2, hv2⟩ := own_slN hc.2.2.head
          dsimp only at hv2
          subst hv2
          obtain ⟨pz, hpz⟩ : ∃ pz, posn l ((k : Int) + 8) false (xs.length + 1) = pz := ⟨_, rfl⟩
          rw [hpz] at hc HQ2 hpo
          obtain ⟨hpo1, hpo2⟩ := hpo
          have hwz : IntKind.i64.wrap (pz - (k : Int)) = pz - (k : Int) := by rw [IntKind.wrap_i64]; omega
          have HC := Lib.hid hc; have HK := Lib.hid hK; have HD := Lib.hid hD
          have HCd := Lib.hid (cons_drew hc)
          have hx := hc.2.1
          have hxd := HCd.out.2.1
          clear hc hK hpz hD
          unfold BgC BtL at hx
          unfold BgC at hxd
          have HKI := Lib.hid hxd.head; have HCU := Lib.hid hxd.tail.tail.tail.head
          clear hxd
          have b0 := hx.tail.tail.tail.tail.tail.head.cell 0; have b1 := hx.tail.tail.tail.tail.tail.head.cell 1; have b2 := hx.tail.tail.tail.tail.tail.tail.head.cell 0; have b3 := hx.tail.tail.tail.tail.tail.tail.tail.head.cell 0
          have bf0 := hx.tail.tail.tail.tail.tail.head.frozen 0; have bf1 := hx.tail.tail.tail.tail.tail.head.frozen 1; have bf2 := hx.tail.tail.tail.tail.tail.tail.head.frozen 0; have bf3 := hx.tail.tail.tail.tail.tail.tail.tail.head.frozen 0
          dsimp only at b0 b1 b2 b3 bf0 bf1 bf2 bf3
          clear hx
          gi_wp2_with fail
          go_wp2_with fail
          refine wp_region_treeN (fun w' => CellsAt [(w.heap.size + 4, 135, #[.int .i64 (nb : Int), .slice A2 xs.length c2, .bool true]), (w.heap.size + 3, 174, #[.slice A n c, .int .i64 pz])] w') 9 (.take 0 (.take 1 (.take 2 (.take 3 (.take 4 (.take 5 (.take 6 (.take 7 (.step 8 .done))))))))) (by kernel_rfl) (by kernel_rfl) (by simp only [Pln.out, Array.getD_eq_getD_getElem?, List.getElem?_toArray, List.getElem?_cons_zero, List.getElem?_cons_succ, Option.getD_some]; rfl) (by simp only [List.map_cons, List.map_nil]; rfl) (CellsAt.cons HKI.out (CellsAt.cons HCU.out (cellsAt_nil _))) (fun PE hPE => ?_)
          iterate 8
            refine tree_take (v := ?_) rfl (by rfl) ?_ ?_
            rotate_left
            · intro _ hSw; (try dsimp only at hSw); have z0 := hSw.head.cell 0; have z1 := hSw.head.cell 1; have z2 := hSw.tail.head.cell 0; have z3 := hSw.tail.head.cell 1; dsimp only at z0 z1 z2 z3; go_simp; (try with_reducible rfl)
            simp only [List.setIfInBounds_toArray, List.set_cons_zero, List.set_cons_succ]
          refine tree_skip _ (w' := ?_) rfl (by rfl) ?_ ?_ ?_
          rotate_left 1
          · go_simp; (first | (with_reducible rfl) | (constructor <;> with_reducible rfl) | skip)
          · exact CellsAt.cons ((HKI.out.far (p := ⟨w.heap.size, 0, none⟩) (by simp) (.int .i64 (nb : Int))).far (p := ⟨w.heap.size, 1, none⟩) (by simp) (.slice A2 xs.length c2)) (CellsAt.cons ((HCU.out.far (p := ⟨w.heap.size, 0, none⟩) (by simp) (.int .i64 (nb : Int))).far (p := ⟨w.heap.size, 1, none⟩) (by simp) (.slice A2 xs.length c2)) (cellsAt_nil _))
          refine hPE _ _ ?_
          clear hPE PE
          simp only [List.drop_succ_cons, List.drop_zero, List.drop_nil]
          go_wp2_with fail
          refine ⟨rfl, ?_⟩
          go_wp2_with fail
          have hc5 := cons_drew (bget_setR (nb : Int) (.slice A2 xs.length c2) (pz - (k : Int)) 0 (bg_drop HC.out) (by simp))
          have hhD : w.heap.size + 8 ≤ D := by have := HD.out; rw [HS8.out] at this; exact this
          have hK5 : (World.drew ((((W2.setCell ⟨w.heap.size, 0, none⟩ (.int .i64 (nb : Int))).setCell ⟨w.heap.size, 1, none⟩ (.slice A2 xs.length c2)).setCell ⟨w.heap.size + 1, 0, none⟩ (.int .i64 (pz - (k : Int)))).setCell ⟨w.heap.size + 2, 0, none⟩ (.int .i64 0))).heap[D]? = some (.deferred (some [])) := by
            show (World.setCell _ _ _).heap[D]? = _
            rw [Below.heap_setCell _ _ _ D (by show D ≠ w.heap.size + 2; omega), Below.heap_setCell _ _ _ D (by show D ≠ w.heap.size + 1; omega), Below.heap_setCell _ _ _ D (by show D ≠ w.heap.size; omega), Below.heap_setCell _ _ _ D (by show D ≠ w.heap.size; omega)]
            exact HK.out
          have hc6 := cons_put (o' := .deferred none) hc5 hK5 rfl (by omega)
          have hrr : r = (⟨(nb : Int), xs.map (·.1)⟩, pz - (k : Int), 0) := by
            have h := HR.out
            rw [HQ2.out] at h
            exact h.symm.trans (if_neg (by simp))
          rw [hrr]
          exact retM hK5 (bget_res w.heap.size (nb : Int) (.slice A2 xs.length c2) (pz - (k : Int)) 0 _ _ hc6.2.1 rfl rfl rfl) ⟨.slice A2 xs.length c2, rfl, hc6.1, by show World.ownsRow _ _ _ _ _ (xs.map (·.1)).length _; rw [List.length_map]; exact hc6.2.2.head⟩
        case stop =>
          rintro D cd pre W2 hD hsp ⟨⟨rfl, hbel, hcs, _⟩, hne⟩ hK
          have HBel := Lib.hid hbel; have HCS := Lib.hid hcs; have HK := Lib.hid hK; have HD := Lib.hid hD; have HNE := Lib.hid hne
          clear hbel hcs hK hsp hD hne
          have hrr : r = (⟨0, []⟩, 0, q.2.2) := by
            have h := HR.out
            rw [if_pos (by simpa using HNE.out)] at h
            exact h.symm
          have HRR := Lib.hid hrr
          clear hrr
          gi_wp2_with fail
          rw [HRR.out]
          exact retM HK.out (bget_res w.heap.size 0 (.slice none 0 0) 0 q.2.2 _ _ (cells_put (o' := .deferred none) HCS.out HK.out rfl) rfl rfl rfl) ⟨.slice none 0 0, rfl, below_put HBel.out (Nat.le_trans HB8.out HD.out), World.ownsRow_nil _ _ _ _⟩
end Go.Proofs.YtcojnigkgbmbmaaGreatDoor
namespace Go.Proofs.YtcojnigkgbmbmaaGreatDoor
open Go Go.RowKit
attribute [local go_sem] Oper.semAt_some
/-- a reader's state. -/
structure RdS where
  a : Int
  pt : Bool × Bool × Bool × Bool × Bool
  ad : Int
  kd : Int
  qu : Int
  mx : Int
  my : Int
  pa : Int
  v : Value
  x : Int
  y : Int
def rdC (A : Option Addr) (n c : Nat) (s : RdS) : Array Value := #[.slice A n c, .int .i64 s.a, .bool s.pt.1, .bool s.pt.2.1, .bool s.pt.2.2.1, .bool s.pt.2.2.2.1, .bool s.pt.2.2.2.2, .int .i64 s.ad, .int .i64 s.kd, .int .i64 s.qu, .int .i64 s.mx, .int .i64 s.my, .int .i64 s.pa, s.v, .int .i64 s.x, .int .i64 s.y]
def ptK (k : Int) : Bool × Bool × Bool × Bool × Bool := if inK k then (pI k, pQ k, pV k, pF k, pC k) else (false, false, false, false, false)
theorem ofV_pt (k : Int) : ofV k = [.bool (ptK k).1, .bool (ptK k).2.1, .bool (ptK k).2.2.1, .bool (ptK k).2.2.2.1, .bool (ptK k).2.2.2.2] := by
  unfold ofV ptK
  split <;> rfl
/-- of what lay in A nothing has turned but block g. -/
abbrev TurnG (g : Nat) (A B : World) : Prop := Turn (fun k => k = g) A B
theorem turn_then {g : Nat} {w w' w'' : World} (h : TurnG g w w') (hb : Below w'.heap.size w' w'') : TurnG g w w'' := h.trans (Turn.of_below hb)
theorem turn_drew {g : Nat} {w w' : World} (h : TurnG g w w') : TurnG g w w'.drew := h.trans ⟨rfl, rfl, rfl, Nat.le_refl _, fun _ _ _ => rfl⟩
theorem turn_set {g : Nat} {w w' : World} (h : TurnG g w w') (i : Nat) (v : Value) : TurnG g w (w'.setCell ⟨g, i, none⟩ v) := h.set (.inl rfl) v
set_option maxRecDepth 100000 in
set_option maxHeartbeats 4000000 in
theorem rd_kind (g : Nat) (A : Option Addr) (n c : Nat) (l : List UInt8) (s : RdS) (w : World) (hb : Blk w g 61 (rdC A n c s)) (hA : Sl w A (l.map byteV)) (hn : l.length = n) (hsz : n ≤ 2 ^ 47) (hi : -9223372036854775808 ≤ s.a ∧ s.a ≤ 9223372036854775807) (a2 : Int) (ha2 : IntKind.i64.wrap (s.a + (treeR kindC kindN l s.a).2.1) = a2) :
    Calls Tryz.prog 72 #[.pointer (some ⟨g, 0, none⟩)] w fun e w' => e = .returned (.int .i64 (treeR kindC kindN l s.a).2.2) ∧ Blk w' g 61 (rdC A n c { s with a := a2, kd := (treeR kindC kindN l s.a).1, pt := ptK (treeR kindC kindN l s.a).1 }) ∧ TurnG g w w' := by
  obtain ⟨a, ⟨t0, t1, t2, t3, t4⟩, ad, kd, qu, mx, my, pa, v, x, y⟩ := s
  dsimp only at hi ha2 ⊢
  have G := Lib.hid (fun W hW => kind_Get A n c l a W hW hn hsz hi)
  have CO := Lib.hid (fun W => kind_Of (treeR kindC kindN l a).1 W)
  rw [ofV_pt] at CO
  generalize ptK (treeR kindC kindN l a).1 = np at *
  obtain ⟨⟨rk, rn, re⟩, hr⟩ : ∃ r, treeR kindC kindN l a = r := ⟨_, rfl⟩
  rw [hr] at G CO ha2 ⊢
  dsimp only at G CO ha2 ⊢
  obtain ⟨n0, n1, n2, n3, n4⟩ := np
  dsimp only at CO
  unfold rdC at *
  dsimp only at *
  generalize ofE rk = oe at CO
  have HB := Lib.hid hb; have HA := Lib.hid hA; have HW := Lib.hid ha2
  have hw : IntKind.i64.wrap (a + rn) = a2 := ha2
  have hbd : Blk w.drew g 61 _ := hb.drewN 1
  have y0 := hbd.cell 0; have y1 := hbd.cell 1
  have HBd := Lib.hid hbd
  have HAd := Lib.hid (show Sl w.drew A (l.map byteV) from hA)
  clear hb hA hr hi ha2 hbd hn hsz
  go_enter Tryz.func72, Tryz.ntmps72
  go_wp2_with fail
  refine wp_region_treeN (fun w' => w'.cell? ⟨g, 0, none⟩ = some (.slice A n c) ∧ w'.cell? ⟨g, 1, none⟩ = some (.int .i64 a)) 19 (.take 0 (.take 1 (.take 2 (.take 3 (.take 4 (.take 5 (.take 6 (.take 7 (.take 8 (.step 9 (.take 10 (.take 11 (.take 12 (.take 13 (.take 14 (.take 15 (.take 16 (.step 17 (.step 18 .done))))))))))))))))))) (by kernel_rfl) (by kernel_rfl) (by simp only [Pln.out, Array.getD_eq_getD_getElem?, List.getElem?_toArray, List.getElem?_cons_zero, List.getElem?_cons_succ, Option.getD_some]; rfl) (by simp only [List.map_cons, List.map_nil]; rfl) (⟨y0, y1⟩) (fun PE hPE => ?_)
  iterate 9
    refine tree_take (v := ?_) rfl (by rfl) ?_ ?_
    rotate_left
    · intro _ hSw; (try dsimp only at hSw); obtain ⟨s0, s1⟩ := hSw; go_simp; (try with_reducible rfl)
    simp only [List.setIfInBounds_toArray, List.set_cons_zero, List.set_cons_succ]
  refine tree_call (f := 109) rfl (by rfl) (by first | (go_simp; done) | (go_simp; rfl)) (G.out _ HAd.out) ?_
  rintro e w2 ⟨rfl, hb2⟩
  have hL2 := HBd.out.below hb2 HBd.out.lt
  have HT2 := Lib.hid (turn_then (turn_drew (Turn.refl (fun k => k = g) w)) hb2)
  refine ⟨_, rfl, _, fun _ h => h, ⟨hL2.cell 0, hL2.cell 1⟩, ?_⟩
  simp only [List.setIfInBounds_toArray, List.set_cons_zero, List.set_cons_succ]
  iterate 7
    refine tree_take (v := ?_) rfl (by rfl) ?_ ?_
    rotate_left
    · intro _ hSw; (try dsimp only at hSw); go_simp; (try with_reducible rfl)
    simp only [List.setIfInBounds_toArray, List.set_cons_zero, List.set_cons_succ]
  have k8 := hL2.cell 8; have f8 := hL2.frozen 8
  have hL3 := hL2.set_ 8 (.int .i64 rk)
  refine tree_skip _ (w' := ?_) rfl (by rfl) ?_ ?_ ?_
  rotate_left 1
  · go_simp; (first | (with_reducible rfl) | (constructor <;> with_reducible rfl) | skip)
  · exact ⟨hL3.cell 0, hL3.cell 1⟩
  refine tree_value (v := ?_) (w' := ?_) rfl (by rfl) ?_ ?_ ?_
  rotate_left 2
  · go_simp; (try (constructor <;> with_reducible rfl))
  · exact ⟨hL3.cell 0, hL3.cell 1⟩
  simp only [List.setIfInBounds_toArray, List.set_cons_zero, List.set_cons_succ]
  refine hPE _ _ ?_
  clear hPE PE
  simp only [List.drop_succ_cons, List.drop_zero, List.drop_nil]
  have HT3 := Lib.hid (turn_set HT2.out 8 (.int .i64 rk))
  have HL3 := Lib.hid hL3
  clear hL2 hL3 hb2 k8 f8 y0 y1 HBd HAd HB HA G
  generalize w2.setCell ⟨g, 8, none⟩ (.int .i64 rk) = w3 at HT3 HL3 ⊢
  have k8 : w3.cell? ⟨g, 8, none⟩ = some (.int .i64 rk) := by rw [HL3.out.cell]; rfl
  go_wp2_with fail
  refine ⟨rfl, ?_⟩
  go_wp2_with (go_at_call 47; refine (CO.out _).mono ?_; rintro e w4 ⟨rfl, hb4⟩; have HL4 := Lib.hid (HL3.out.below hb4 HL3.out.lt); have HT4 := Lib.hid (turn_then HT3.out hb4); clear hb4; have c1 : w4.cell? ⟨g, 1, none⟩ = some (.int .i64 a) := (by rw [HL4.out.cell]; rfl); have c2 : w4.cell? ⟨g, 2, none⟩ = some (.bool t0) := (by rw [HL4.out.cell]; rfl); have c3 : w4.cell? ⟨g, 3, none⟩ = some (.bool t1) := (by rw [HL4.out.cell]; rfl); have c4 : w4.cell? ⟨g, 4, none⟩ = some (.bool t2) := (by rw [HL4.out.cell]; rfl); have c5 : w4.cell? ⟨g, 5, none⟩ = some (.bool t3) := (by rw [HL4.out.cell]; rfl); have c6 : w4.cell? ⟨g, 6, none⟩ = some (.bool t4) := (by rw [HL4.out.cell]; rfl); have f1 := HL4.out.frozen 1; have f2 := HL4.out.frozen 2; have f3 := HL4.out.frozen 3; have f4 := HL4.out.frozen 4; have f5 := HL4.out.frozen 5; have f6 := HL4.out.frozen 6)
  go_ret
  have h6 := (((((HL4.out.set_ 2 (.bool n0)).set_ 3 (.bool n1)).set_ 4 (.bool n2)).set_ 5 (.bool n3)).set_ 6 (.bool n4)).set_ 1 (.int .i64 a2)
  simp only [List.setIfInBounds_toArray, List.set_cons_zero, List.set_cons_succ] at h6
  exact ⟨rfl, h6, turn_set (turn_set (turn_set (turn_set (turn_set (turn_set HT4.out 2 _) 3 _) 4 _) 5 _) 6 _) 1 _⟩
set_option maxRecDepth 100000 in
set_option maxHeartbeats 4000000 in
theorem rd_pattern (g : Nat) (A : Option Addr) (n c : Nat) (l : List UInt8) (s : RdS) (w : World) (hb : Blk w g 61 (rdC A n c s)) (hT : Ts w) (hA : Sl w A (l.map byteV)) (hn : l.length = n) (hsz : n ≤ 2 ^ 47) (hi : -9223372036854775808 ≤ s.a ∧ s.a ≤ 9223372036854775807) (a2 : Int) (ha2 : IntKind.i64.wrap (s.a + (treeR patC patN l s.a).2.1) = a2) :
    Calls Tryz.prog 75 #[.pointer (some ⟨g, 0, none⟩)] w fun e w' => e = .returned (.int .i64 (treeR patC patN l s.a).2.2) ∧ Blk w' g 61 (rdC A n c { s with a := a2, pa := (treeR patC patN l s.a).1 }) ∧ TurnG g w w' := by
  obtain ⟨a, ⟨t0, t1, t2, t3, t4⟩, ad, kd, qu, mx, my, pa, v, x, y⟩ := s
  dsimp only at hi ha2 ⊢
  have G := Lib.hid (fun W hT hW => pattern_Get A n c l a W hT hW hn hsz hi)
  obtain ⟨⟨rk, rn, re⟩, hr⟩ : ∃ r, treeR patC patN l a = r := ⟨_, rfl⟩
  rw [hr] at G ha2 ⊢
  dsimp only at G ha2 ⊢
  unfold rdC at *
  dsimp only at *
  have HB := Lib.hid hb; have HA := Lib.hid hA; have HW := Lib.hid ha2
  have hw : IntKind.i64.wrap (a + rn) = a2 := ha2
  have hbd : Blk w.drew g 61 _ := hb.drewN 1
  have y0 := hbd.cell 0; have y1 := hbd.cell 1
  have HBd := Lib.hid hbd
  have HAd := Lib.hid (show Sl w.drew A (l.map byteV) from hA)
  have HTd := Lib.hid (show Ts w.drew from hT)
  clear hb hA hr hi ha2 hbd hn hsz hT
  go_enter Tryz.func75, Tryz.ntmps75
  go_wp2_with fail
  refine wp_region_treeN (fun w' => w'.cell? ⟨g, 0, none⟩ = some (.slice A n c) ∧ w'.cell? ⟨g, 1, none⟩ = some (.int .i64 a)) 19 (.take 0 (.take 1 (.take 2 (.take 3 (.take 4 (.take 5 (.take 6 (.take 7 (.take 8 (.step 9 (.take 10 (.take 11 (.take 12 (.take 13 (.take 14 (.take 15 (.take 16 (.step 17 (.step 18 .done))))))))))))))))))) (by kernel_rfl) (by kernel_rfl) (by simp only [Pln.out, Array.getD_eq_getD_getElem?, List.getElem?_toArray, List.getElem?_cons_zero, List.getElem?_cons_succ, Option.getD_some]; rfl) (by simp only [List.map_cons, List.map_nil]; rfl) (⟨y0, y1⟩) (fun PE hPE => ?_)
  iterate 9
    refine tree_take (v := ?_) rfl (by rfl) ?_ ?_
    rotate_left
    · intro _ hSw; (try dsimp only at hSw); obtain ⟨s0, s1⟩ := hSw; go_simp; (try with_reducible rfl)
    simp only [List.setIfInBounds_toArray, List.set_cons_zero, List.set_cons_succ]
  refine tree_call (f := 114) rfl (by rfl) (by first | (go_simp; done) | (go_simp; rfl)) (G.out _ HTd.out HAd.out) ?_
  rintro e w2 ⟨rfl, hb2⟩
  have hL2 := HBd.out.below hb2 HBd.out.lt
  have HT2 := Lib.hid (turn_then (turn_drew (Turn.refl (fun k => k = g) w)) hb2)
  refine ⟨_, rfl, _, fun _ h => h, ⟨hL2.cell 0, hL2.cell 1⟩, ?_⟩
  simp only [List.setIfInBounds_toArray, List.set_cons_zero, List.set_cons_succ]
  iterate 7
    refine tree_take (v := ?_) rfl (by rfl) ?_ ?_
    rotate_left
    · intro _ hSw; (try dsimp only at hSw); go_simp; (try with_reducible rfl)
    simp only [List.setIfInBounds_toArray, List.set_cons_zero, List.set_cons_succ]
  have k8 := hL2.cell 12; have f8 := hL2.frozen 12
  have hL3 := hL2.set_ 12 (.int .i64 rk)
  refine tree_skip _ (w' := ?_) rfl (by rfl) ?_ ?_ ?_
  rotate_left 1
  · go_simp; (first | (with_reducible rfl) | (constructor <;> with_reducible rfl) | skip)
  · exact ⟨hL3.cell 0, hL3.cell 1⟩
  refine tree_value (v := ?_) (w' := ?_) rfl (by rfl) ?_ ?_ ?_
  rotate_left 2
  · go_simp; (try (constructor <;> with_reducible rfl))
  · exact ⟨hL3.cell 0, hL3.cell 1⟩
  simp only [List.setIfInBounds_toArray, List.set_cons_zero, List.set_cons_succ]
  refine hPE _ _ ?_
  clear hPE PE
  simp only [List.drop_succ_cons, List.drop_zero, List.drop_nil]
  have HT3 := Lib.hid (turn_set HT2.out 12 (.int .i64 rk))
  have HL3 := Lib.hid hL3
  clear hL2 hL3 hb2 k8 f8 y0 y1 HBd HAd HB HA G
  generalize w2.setCell ⟨g, 12, none⟩ (.int .i64 rk) = w3 at HT3 HL3 ⊢
  have c1 : w3.cell? ⟨g, 1, none⟩ = some (.int .i64 a) := by rw [HL3.out.cell]; rfl
  have f1 := HL3.out.frozen 1
  go_wp2_with fail
  refine ⟨rfl, ?_⟩
  go_wp2_with fail
  go_ret
  exact ⟨rfl, HL3.out.set_ 1 (.int .i64 a2), turn_set HT3.out 1 _⟩
set_option maxRecDepth 100000 in
set_option maxHeartbeats 4000000 in
theorem rd_quant (g : Nat) (A : Option Addr) (n c : Nat) (l : List UInt8) (s : RdS) (w : World) (hb : Blk w g 61 (rdC A n c s)) (hA : Sl w A (l.map byteV)) (q er a2 : Int)
    (hR : ∀ W, Sl W A (l.map byteV) → Calls Tryz.prog 110 #[.slice A n c, .int .i64 s.a, .int .i64 5] W fun e w' => e = .returned (.tuple #[.int .i64 q, .int .i64 er]) ∧ W = w') (ha2 : IntKind.i64.wrap (s.a + 5) = a2) (her : er = 0 ∨ er = 5) :
    Calls Tryz.prog 73 #[.pointer (some ⟨g, 0, none⟩)] w fun e w' => e = .returned (.int .i64 (if er == 0 && q == 0 then 9 else er)) ∧ Blk w' g 61 (rdC A n c { s with a := a2, qu := q }) ∧ TurnG g w w' := by
  obtain ⟨a, ⟨t0, t1, t2, t3, t4⟩, ad, kd, qu, mx, my, pa, v, x, y⟩ := s
  dsimp only at hR ha2 ⊢
  have G := Lib.hid hR
  unfold rdC at *
  dsimp only at *
  have HB := Lib.hid hb; have HA := Lib.hid hA
  have hw : IntKind.i64.wrap (a + 5) = a2 := ha2
  have hbd : Blk w.drew g 61 _ := hb.drewN 1
  have y0 := hbd.cell 0; have y1 := hbd.cell 1
  have HBd := Lib.hid hbd
  have HAd := Lib.hid (show Sl w.drew A (l.map byteV) from hA)
  obtain ⟨RES, hres⟩ : ∃ R : Int, (if er == 0 && q == 0 then 9 else er) = R := ⟨_, rfl⟩
  rw [hres]
  have HRES := Lib.hid hres
  clear hb hA hR ha2 hbd hres
  go_enter Tryz.func73, Tryz.ntmps73
  go_wp2_with fail
  refine wp_region_treeN (fun w' => w'.cell? ⟨g, 0, none⟩ = some (.slice A n c) ∧ w'.cell? ⟨g, 1, none⟩ = some (.int .i64 a)) 17 (.take 0 (.take 1 (.take 2 (.take 3 (.take 4 (.take 5 (.take 6 (.take 7 (.take 8 (.step 9 (.take 10 (.take 11 (.take 12 (.take 13 (.take 14 (.take 15 (.step 16 .done))))))))))))))))) (by kernel_rfl) (by kernel_rfl) (by simp only [Pln.out, Array.getD_eq_getD_getElem?, List.getElem?_toArray, List.getElem?_cons_zero, List.getElem?_cons_succ, Option.getD_some]; rfl) (by simp only [List.map_cons, List.map_nil]; rfl) (⟨y0, y1⟩) (fun PE hPE => ?_)
  iterate 9
    refine tree_take (v := ?_) rfl (by rfl) ?_ ?_
    rotate_left
    · intro _ hSw; (try dsimp only at hSw); obtain ⟨s0, s1⟩ := hSw; go_simp; (try with_reducible rfl)
    simp only [List.setIfInBounds_toArray, List.set_cons_zero, List.set_cons_succ]
  refine tree_call (f := 110) rfl (by rfl) (by first | (go_simp; done) | (go_simp; rfl)) (G.out _ HAd.out) ?_
  rintro e w2 ⟨rfl, rfl⟩
  have hL2 := HBd.out
  have HT2 := Lib.hid (turn_drew (Turn.refl (fun k => k = g) w))
  refine ⟨_, rfl, _, fun _ h => h, ⟨hL2.cell 0, hL2.cell 1⟩, ?_⟩
  simp only [List.setIfInBounds_toArray, List.set_cons_zero, List.set_cons_succ]
  iterate 6
    refine tree_take (v := ?_) rfl (by rfl) ?_ ?_
    rotate_left
    · intro _ hSw; (try dsimp only at hSw); go_simp; (try with_reducible rfl)
    simp only [List.setIfInBounds_toArray, List.set_cons_zero, List.set_cons_succ]
  have k8 := HB.out.cell 9; have f8 := HB.out.frozen 9
  have hL3 := hL2.set_ 9 (.int .i64 q)
  refine tree_skip _ (w' := ?_) rfl (by rfl) ?_ ?_ ?_
  rotate_left 1
  · go_simp; (first | (with_reducible rfl) | (constructor <;> with_reducible rfl) | skip)
  · exact ⟨hL3.cell 0, hL3.cell 1⟩
  refine hPE _ _ ?_
  clear hPE PE
  simp only [List.drop_succ_cons, List.drop_zero, List.drop_nil]
  have hL4 : Blk (World.drew (w.setCell ⟨g, 9, none⟩ (.int .i64 q))) g 61 _ := (HB.out.set_ 9 (.int .i64 q)).drewN 1
  have HL4 := Lib.hid hL4
  have HT4 := Lib.hid (turn_drew (turn_set (Turn.refl (fun k => k = g) w) 9 (.int .i64 q)))
  clear hL2 hL3 hL4 k8 f8 y0 y1 HBd HAd HA G HB HT2
  generalize World.drew (w.setCell ⟨g, 9, none⟩ (.int .i64 q)) = w3 at HT4 HL4 ⊢
  have c1 : w3.cell? ⟨g, 1, none⟩ = some (.int .i64 a) := by rw [HL4.out.cell]; rfl
  have c9 : w3.cell? ⟨g, 9, none⟩ = some (.int .i64 q) := by rw [HL4.out.cell]; rfl
  have f1 := HL4.out.frozen 1
  go_wp2_with fail
  refine ⟨rfl, ?_⟩
  rcases her with rfl | rfl
  · cases hq : (q == 0) with
    | true =>
      have hR9 : RES = 9 := by rw [← HRES.out, hq]; rfl
      subst hR9
      go_wp2_with fail
      go_ret
      exact ⟨rfl, HL4.out.set_ 1 (.int .i64 a2), turn_set HT4.out 1 _⟩
    | false =>
      have hR9 : RES = 0 := by rw [← HRES.out, hq]; rfl
      subst hR9
      go_wp2_with fail
      go_ret
      exact ⟨rfl, HL4.out.set_ 1 (.int .i64 a2), turn_set HT4.out 1 _⟩
  · have hR9 : RES = 5 := by rw [← HRES.out]; rfl
    subst hR9
    go_wp2_with fail
    go_ret
    exact ⟨rfl, HL4.out.set_ 1 (.int .i64 a2), turn_set HT4.out 1 _⟩
end Go.Proofs.YtcojnigkgbmbmaaGreatDoor
namespace Go.Proofs.YtcojnigkgbmbmaaGreatDoor
open Go Go.RowKit
attribute [local go_sem] Oper.semAt_some
/-- a pen at h that has written L; nothing of w0 has turned. -/
def PenC (w0 : World) (h : Nat) (L : List UInt8) (v : Value) (W : World) : Prop := Cons w0 [(h, 98, #[v, .int .i64 (L.length : Int), .bool true])] [⟨w0.heap.size, 5, 1, v, (packL L).length, (packL L).map byteV⟩] W
structure PenW (w0 : World) (h : Nat) (L : List UInt8) (W : World) : Prop where
  ex : ∃ v, PenC w0 h L v W
theorem PenW.below {w0 : World} {h : Nat} {L : List UInt8} {W W' : World} (hp : PenW w0 h L W) (hw : Below W.heap.size W W') : PenW w0 h L W' := by
  obtain ⟨v, hc⟩ := hp
  exact ⟨v, cons_below hc hw⟩
end Go.Proofs.YtcojnigkgbmbmaaGreatDoor
namespace Go.Proofs.YtcojnigkgbmbmaaGreatDoor
open Go Go.RowKit
attribute [local go_sem] Oper.semAt_some
end Go.Proofs.YtcojnigkgbmbmaaGreatDoor
namespace Go.Proofs.YtcojnigkgbmbmaaGreatDoor
open Go Go.RowKit
attribute [local go_sem] Oper.semAt_some
end Go.Proofs.YtcojnigkgbmbmaaGreatDoor
