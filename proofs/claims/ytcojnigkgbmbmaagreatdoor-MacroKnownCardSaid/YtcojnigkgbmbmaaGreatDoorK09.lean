/- PfxI, Cons, PlanIn -/
import Derived.Test.YtcojnigkgbmbmaaGreatDoorK03
import Derived.Test.YtcojnigkgbmbmaaGreatDoorK08
import Derived.Test.YtcojnigkgbmbmaaGreatDoorK05
import Derived.Test.YtcojnigkgbmbmaaGreatDoorK07
import Derived.OrdersIn
import Derived.RangeFuncCalls
namespace Go.Proofs.YtcojnigkgbmbmaaGreatDoor
open Go Go.RowKit
attribute [local go_sem] Oper.semAt_some
def bitsN (l : List UInt8) (i n : Nat) : List Nat := (List.range n).map fun j => bitN l (i + j)
theorem bitsN_length (l : List UInt8) (i n : Nat) : (bitsN l i n).length = n := by simp [bitsN]
theorem bitsN_pre (l : List UInt8) (i n : Nat) (pre : List Nat) (x : Nat) (h : pre ++ [x] <+: bitsN l i n) : pre.length < n ∧ x = bitN l (i + pre.length) := by
  have h1 := h.length_le
  rw [bitsN_length] at h1
  simp at h1
  refine ⟨by omega, ?_⟩
  obtain ⟨t, ht⟩ := h
  have h2 : (pre ++ [x] ++ t)[pre.length]? = (bitsN l i n)[pre.length]? := by rw [ht]
  rw [List.append_assoc, List.getElem?_append_right (Nat.le_refl _)] at h2
  simp [bitsN, List.getElem?_map, List.getElem?_range (show pre.length < n by omega)] at h2
  exact h2
theorem bitsN_take (l : List UInt8) (i n k : Nat) (h : k < n) : (bitsN l i n).take k ++ [bitN l (i + k)] = (bitsN l i n).take (k + 1) := by
  rw [List.take_succ_eq_append_getElem (by rw [bitsN_length]; exact h)]
  simp [bitsN]
def curInt (b : Nat) (w : World) : Int := match w.cell? ⟨b, 0, none⟩ with | some (.int .i64 x) => x | _ => 0
theorem curInt_blk {w : World} {b : Nat} {t : TypeId} {x : Int} (h : Blk w b t #[.int .i64 x]) : curInt b w = x := by
  unfold curInt
  rw [h.cell 0]
  rfl
set_option maxRecDepth 100000 in
set_option maxHeartbeats 2000000 in
theorem from_seq (n : Nat) (hn : 1 ≤ n) (b1 b2 : Nat) (A : Option Addr) (m c : Nat) (l : List UInt8) (i0 : Nat) (hl : l.length = m) (hsz : m ≤ 2 ^ 47) (C : List Nat → World → Prop)
    (hC : ∀ pre W v, C pre W → C pre (W.setCell ⟨b2, 0, none⟩ v)) (hCs : ∀ pre W, C pre W → Blk W b1 22 #[.slice A m c] ∧ Sl W A (l.map byteV)) :
    SeqU Fence.wide n Tryz.prog 176 #[.pointer (some ⟨b1, 0, none⟩), .pointer (some ⟨b2, 0, none⟩)] (fun x : Nat => #[.int .i64 x]) (fun pre W => C pre W ∧ Blk W b2 3 #[.int .i64 ((i0 + pre.length : Nat) : Int)])
      (fun pre W => C pre W ∧ Blk W b2 3 #[.int .i64 ((i0 + pre.length - 1 : Nat) : Int)]) (fun xs => xs = bitsN l i0 (8 * m - i0)) (fun pre => pre <+: bitsN l i0 (8 * m - i0)) := by
  intro lp K Jx W hK hY h0 hk0
  refine callsIn_of_wp Tryz.func176 rfl trivial ?_ rfl
  simp only [Tryz.ntmps176, List.size_toArray, List.length_cons, List.length_nil, Nat.reduceAdd, Nat.reduceSub, Array.replicate_succ, Array.replicate_zero, List.push_toArray, List.append_toArray, List.nil_append, List.cons_append]
  have HY := Lib.hid hY; have HC := Lib.hid hC; have HCs := Lib.hid hCs; have HK := Lib.hid hK; have HL := Lib.hid hl
  have H0 := Lib.hid h0; have HK0 := Lib.hid hk0
  clear hY hC hCs hK hl h0 hk0
  gi_wp2_with fail
  gi_loopw [] (fun wr => ∃ j : Nat, Hid (C ((bitsN l i0 (8 * m - i0)).take j) wr) ∧ Hid (Blk wr b2 3 #[.int .i64 ((i0 + j : Nat) : Int)]) ∧ j ≤ 8 * m - i0 ∧ Hid (K wr)) (fun wr => 8 * m - (curInt b2 wr).toNat)
  case atStart =>
    exact ⟨0, Lib.hid H0.out.1, Lib.hid H0.out.2, Nat.zero_le _, HK0⟩
  case round =>
    obtain ⟨j, HCj, HB, hj, HKr⟩ := hrel
    have x2 := HB.out.cell 0
    obtain ⟨hb1, hA⟩ := HCs.out _ _ HCj.out
    have x1 := hb1.cell 0
    have HA := Lib.hid hA
    clear hb1 hA
    obtain ⟨p, hp⟩ : ∃ p, p = i0 + j := ⟨_, rfl⟩
    have hp0 : (0 : Int) ≤ (p : Int) := by omega
    rw [← hp] at x2
    by_cases hlt : p < 8 * m
    · have Rd := Lib.hid (fun W h => bits_Read_v ((bitN l p : Nat) : Int) A m c l (p : Int) 1 W (by rw [Int.toNat_natCast]; show ((numN l p 1 : Nat) : Int) = _; rw [numN_one]) h HL.out hp0 (by decide) (by decide) (by omega) hsz)
      have hjn : j < 8 * m - i0 := by omega
      have hsp : (bitsN l i0 (8 * m - i0)).take j ++ [bitN l p] <+: bitsN l i0 (8 * m - i0) := by rw [hp, bitsN_take _ _ _ _ hjn]; exact List.take_prefix _ _
      have htl : ((bitsN l i0 (8 * m - i0)).take j).length = j := by rw [List.length_take, bitsN_length]; omega
      obtain ⟨fn, tmps, assign, body, hy, hR⟩ := HY.out _ (bitN l p) wr ⟨HCj.out, by rw [htl]; exact HB.out⟩ HKr.out hsp
      have HR := Lib.hid hR
      have HJN := Lib.hid hjn; have HP := Lib.hid hp; have HSP := Lib.hid hsp; have HTL := Lib.hid htl; have HLT := Lib.hid hlt
      clear hR hjn hp hsp htl hlt hj
      gi_wp2_with (refine ⟨trivial, ?_⟩; gi_at_call 110; refine (callsIn_wide.2 (Rd.out _ HA.out)).mono ?_; rintro e w' ⟨rfl, rfl⟩)
      refine HR.out.mono ?_
      rintro e W3 (⟨rfl, hI3, hk3⟩ | ⟨rfl, hJx3⟩)
      · have hb3 : Blk W3 b2 3 #[.int .i64 (p : Int)] := by
          have h := hI3.2
          rw [List.length_append, HTL.out] at h
          rw [HP.out]; simpa using h
        have y2 := hb3.cell 0
        have g2 := hb3.frozen 0
        have hw1 : IntKind.i64.wrap ((p : Int) + 1) = (p : Int) + 1 := by have := HLT.out; rw [IntKind.wrap_i64]; omega
        have HB3 := Lib.hid hb3; have HI3 := Lib.hid hI3.1; have HK3 := Lib.hid hk3
        clear hb3 hI3 hk3
        have HS := Lib.hid (HB3.out.set_ 0 (.int .i64 ((p : Int) + 1)))
        have HC3 := Lib.hid (HC.out _ _ (.int .i64 ((p : Int) + 1)) HI3.out)
        have HKS := Lib.hid (HK.out.set HK3.out HB3.out (v := .int .i64 ((p + 1 : Nat) : Int)) (p := ⟨b2, 0, none⟩))
        gi_wp2_with fail
        have h5 := HP.out; have h6 := HLT.out; have h7 := HJN.out
        refine ⟨⟨j + 1, ?_, Lib.hid ?_, by omega, HKS⟩, ?_⟩
        · rw [← bitsN_take _ _ _ _ h7, ← h5]; exact HC3
        · rw [show ((i0 + (j + 1) : Nat) : Int) = (p : Int) + 1 by omega]; exact HS.out
        · have h9 := curInt_blk HS.out; have h10 := curInt_blk HB.out
          rw [h9, h10, ← h5]; omega
      · gi_wp2_with fail
        refine bodyPost_ret (results_none rfl _ _ _) rfl ?_
        exact ⟨⟨_, rfl⟩, .inr ⟨_, HSP.out, hJx3⟩⟩
    · have Rd := Lib.hid (fun W => bits_Read_more A m c (p : Int) 1 W hp0 (by decide) (by decide) (by omega) hsz)
      have hje : j = 8 * m - i0 := by omega
      have HCe : Hid (C (bitsN l i0 (8 * m - i0)) wr ∧ Blk wr b2 3 #[.int .i64 ((i0 + (bitsN l i0 (8 * m - i0)).length : Nat) : Int)]) := Lib.hid ⟨by have h := HCj.out; rwa [List.take_of_length_le (by rw [bitsN_length]; omega)] at h, by rw [bitsN_length, ← hje]; exact HB.out⟩
      clear hje hp hj hlt
      gi_wp2_with (refine ⟨trivial, ?_⟩; gi_at_call 110; refine (callsIn_wide.2 (Rd.out _)).mono ?_; rintro e w' ⟨rfl, rfl⟩)
      refine ⟨fun _ h => (by cases h), ?_⟩
      gi_wp2_with fail
      refine bodyPost_ret (results_none rfl _ _ _) rfl ?_
      exact ⟨⟨_, rfl⟩, .inl ⟨_, rfl, HCe.out, HKr.out⟩⟩
end Go.Proofs.YtcojnigkgbmbmaaGreatDoor
namespace Go.Proofs.YtcojnigkgbmbmaaGreatDoor
open Go Go.RowKit
theorem blkAt {w : World} {g g' : Nat} {t : TypeId} {cs : Array Value} (h : Blk w g t cs) (e : g = g') : Blk w g' t cs := e ▸ h
abbrev CellF := Nat × TypeId × Array Value
def CellsAt (L : List CellF) (W : World) : Prop := ∀ p ∈ L, Blk W p.1 p.2.1 p.2.2
theorem cellsAt_nil (W : World) : CellsAt [] W := fun p h => by cases h
theorem CellsAt.cons {g : Nat} {t : TypeId} {cs : Array Value} {L : List CellF} {W : World} (h : Blk W g t cs) (k : CellsAt L W) : CellsAt ((g, t, cs) :: L) W := fun p hp => by
  rcases List.mem_cons.1 hp with rfl | hp
  · exact h
  · exact k p hp
theorem CellsAt.head {p : CellF} {L : List CellF} {W : World} (h : CellsAt (p :: L) W) : Blk W p.1 p.2.1 p.2.2 := h p (by simp)
theorem CellsAt.tail {p : CellF} {L : List CellF} {W : World} (h : CellsAt (p :: L) W) : CellsAt L W := fun q hq => h q (List.mem_cons_of_mem _ hq)
theorem blk_grown' {W W' : World} {row : Option Nat} {g : Nat} {t : TypeId} {cs : Array Value} (h : Blk W g t cs) (hg : W.grownBy W' row) (hr : ∀ r, row = some r → ∃ o : Obj, W.heap[r]? = some o ∧ o.isCells = false) : Blk W' g t cs := by
  refine h.grown hg (fun e => ?_)
  obtain ⟨o, ho, hc⟩ := hr g e
  unfold Blk at h
  rw [h] at ho; cases ho; cases hc
theorem CellsAt.grown {L : List CellF} {W W' : World} {row : Option Nat} (h : CellsAt L W) (hg : W.grownBy W' row) (hr : ∀ r, row = some r → ∃ o : Obj, W.heap[r]? = some o ∧ o.isCells = false) : CellsAt L W' := fun p hp => blk_grown' (h p hp) hg hr
theorem CellsAt.below {L : List CellF} {W W' : World} (h : CellsAt L W) (hb : Below W.heap.size W W') : CellsAt L W' := fun p hp => (h p hp).below hb (h p hp).lt
theorem CellsAt.alloc {L : List CellF} {W : World} (h : CellsAt L W) (o : Obj) : CellsAt L (W.alloc o) := h.below ((Below.refl _ _).alloc (Nat.le_refl _) _)
theorem CellsAt.drew {L : List CellF} {W : World} (h : CellsAt L W) : CellsAt L W.drew := h
theorem CellsAt.far {L : List CellF} {W : World} (h : CellsAt L W) {p : Addr} (hp : ∀ q ∈ L, q.1 ≠ p.block) (u : Value) : CellsAt L (W.setCell p u) := fun q hq => (h q hq).far (hp q hq) u
structure RowF where
  base : Nat
  e : TypeId
  size : Nat
  v : Value
  n : Nat
  xs : List Value
def RowsAt (L : List RowF) (W : World) : Prop := ∀ r ∈ L, W.ownsRow r.base r.e r.size r.v r.n r.xs
theorem rowsAt_nil (W : World) : RowsAt [] W := fun p h => by cases h
theorem RowsAt.cons {base size n : Nat} {e : TypeId} {v : Value} {xs : List Value} {L : List RowF} {W : World} (h : W.ownsRow base e size v n xs) (k : RowsAt L W) : RowsAt (⟨base, e, size, v, n, xs⟩ :: L) W := fun p hp => by
  rcases List.mem_cons.1 hp with rfl | hp
  · exact h
  · exact k p hp
theorem RowsAt.head {p : RowF} {L : List RowF} {W : World} (h : RowsAt (p :: L) W) : W.ownsRow p.base p.e p.size p.v p.n p.xs := h p (by simp)
theorem RowsAt.tail {p : RowF} {L : List RowF} {W : World} (h : RowsAt (p :: L) W) : RowsAt L W := fun q hq => h q (List.mem_cons_of_mem _ hq)
theorem own_grown' {W W' : World} {row : Option Nat} {base size n : Nat} {e : TypeId} {v : Value} {xs : List Value} (h : W.ownsRow base e size v n xs) (hg : W.grownBy W' row) (hr : ∀ r, row = some r → ∃ o : Obj, W.heap[r]? = some o ∧ o.isCells = false) : W'.ownsRow base e size v n xs := by
  refine h.kept hg ?_
  rcases h.2 with ⟨rfl, _⟩ | ⟨g, cap, cur, rfl, _, hh, _⟩
  · exact .inl rfl
  · refine .inr (fun e2 => ?_)
    obtain ⟨o, ho, hc⟩ := hr g e2.symm
    rw [hh] at ho; cases ho; cases hc
theorem RowsAt.grown {L : List RowF} {W W' : World} {row : Option Nat} (h : RowsAt L W) (hg : W.grownBy W' row) (hr : ∀ r, row = some r → ∃ o : Obj, W.heap[r]? = some o ∧ o.isCells = false) : RowsAt L W' := fun p hp => own_grown' (h p hp) hg hr
theorem below_grown' {w W W' : World} {row : Option Nat} {B : Nat} (h : Below B w W) (hg : W.grownBy W' row) (hr : ∀ r, row = some r → B ≤ r) (hB : B ≤ W.heap.size) : Below B w W' :=
  h.grown hg hB hr
/-- what a consumer knows: nothing of w has turned; these cells; these rows. -/
def Cons (w : World) (L : List CellF) (R : List RowF) (W : World) : Prop := Below w.heap.size w W ∧ CellsAt L W ∧ RowsAt R W
theorem Cons.grown {w W W' : World} {L : List CellF} {R : List RowF} {row : Option Nat} (h : Cons w L R W) (hg : W.grownBy W' row) (hr : ∀ r, row = some r → w.heap.size ≤ r ∧ ∃ o : Obj, W.heap[r]? = some o ∧ o.isCells = false) : Cons w L R W' :=
  ⟨below_grown' h.1 hg (fun r e => (hr r e).1) h.1.size, h.2.1.grown hg (fun r e => (hr r e).2), h.2.2.grown hg (fun r e => (hr r e).2)⟩
theorem own_cons {β κ : Type} {B : Nat} {w : World} (hB : w.heap.size ≤ B) (P : β → κ → Prop) (L : β → κ → List CellF) (R : β → κ → List RowF) : OwnFrom B (fun (s : β) W => ∃ k, P s k ∧ Cons w (L s k) (R s k) W) := by
  rintro s W W' row ⟨k, hp, hc⟩ hg hr
  exact ⟨k, hp, hc.grown hg (fun r e => ⟨Nat.le_trans hB (hr r e).1, (hr r e).2⟩)⟩
/-- what is known where a round was left by a return. -/
def RetC (w : World) (L : List CellF) (cd : Code) (W : World) : Prop := cd = .ret ∧ Cons w L [] W
theorem own_retC {β : Type} {B : Nat} {w : World} (hB : w.heap.size ≤ B) (L : List CellF) (cd : Code) : OwnFrom B (fun (_ : β) W => RetC w L cd W) := by
  rintro s W W' row ⟨hp, hc⟩ hg hr
  exact ⟨hp, hc.grown hg (fun r e => ⟨Nat.le_trans hB (hr r e).1, (hr r e).2⟩)⟩
theorem cells_put {L : List CellF} {W : World} {D : Nat} {o o' : Obj} (h : CellsAt L W) (hD : W.heap[D]? = some o) (hc : o.isCells = false) : CellsAt L (W.putObj D o') := fun p hp => by
  have h1 := h p hp
  unfold Blk at h1 ⊢
  rw [World.putObj_heap_other (fun e => by rw [e, hD] at h1; cases h1; cases hc)]
  exact h1
theorem below_put {w W : World} {B D : Nat} {o : Obj} (h : Below B w W) (hB : B ≤ D) : Below B w (W.putObj D o) :=
  h.trans (show Below B W (W.putObj D o) from ⟨rfl, rfl, rfl, by simp, fun k hk => World.putObj_heap_other (by omega)⟩)
theorem retN {F : Fence} {n : Nat} {P : Program} {fn : Func} {R : Ending → World → Prop} {tmps : Array Value} {w : World} {v : Value} (hr : (results fn tmps).run P w = .ok v w) (h : R (.returned v) w) : bodyPostM F n P fn R .ret ⟨tmps, []⟩ w := ⟨v, hr, h⟩
theorem retM {F : Fence} {n : Nat} {P : Program} {fn : Func} {R : Ending → World → Prop} {tmps : Array Value} {w : World} {v : Value} {D : Nat} (hK : w.heap[D]? = some (.deferred (some []))) (hr : (results fn tmps).run P (w.putObj D (.deferred none)) = .ok v (w.putObj D (.deferred none)))
    (h : R (.returned v) (w.putObj D (.deferred none))) : bodyPostM F n P fn R .ret ⟨tmps, [{ target := .collected D, args := #[] }]⟩ w := ⟨by simp, .inl ⟨_, _, rfl, run_takeDeferred hK, v, hr, h⟩⟩
theorem cons_below' {w W W' : World} {L : List CellF} {R : List RowF} (hc : Cons w L R W) (hb : Below W.heap.size W W') : Cons w L R W' :=
  ⟨hc.1.trans (hb.mono hc.1.size), hc.2.1.below hb, fun r hr => own_below (hc.2.2 r hr) hb (Nat.le_refl _)⟩
/-- a consumer's invariant, closed to simp. -/
structure ICons {β κ : Type} (w : World) (P : β → κ → Prop) (L : β → κ → List CellF) (R : β → κ → List RowF) (s : β) (W : World) : Prop where
  h : ∃ k, P s k ∧ Cons w (L s k) (R s k) W
theorem own_ic {β κ : Type} {B : Nat} {w : World} (hB : w.heap.size ≤ B) (P : β → κ → Prop) (L : β → κ → List CellF) (R : β → κ → List RowF) : OwnFrom B (ICons w P L R) := fun s W W' row h hg hr => ⟨own_cons hB P L R s W W' row h.h hg hr⟩
theorem ic_below {β κ : Type} {w : World} {P : β → κ → Prop} {L : β → κ → List CellF} {R : β → κ → List RowF} (s : β) (A B : World) (h : ICons w P L R s A) (hb : Below A.heap.size A B) : ICons w P L R s B := by
  obtain ⟨⟨k, hp, hc⟩⟩ := h
  exact ⟨⟨k, hp, cons_below' hc hb⟩⟩
theorem kf_below {B : Nat} {A W : World} (h : Below A.heap.size A W) : KeepsFrom B A W := ⟨h.size, fun k _ _ hk _ => (h.block k (Array.getElem?_eq_some_iff.1 hk).1).trans hk⟩
theorem kf_set {B : Nat} {A W : World} (h : KeepsFrom B A W) (a : Addr) (v : Value) : KeepsFrom B A (W.setCell a v) := h.trans ((KeepsOthers.setCell W a v).from B)
theorem kf_alloc {B : Nat} {A W : World} (h : KeepsFrom B A W) (o : Obj) : KeepsFrom B A (W.alloc o) := h.trans ((KeepsOthers.alloc W o).from B)
theorem kf_drew {B : Nat} {A W : World} (h : KeepsFrom B A W) : KeepsFrom B A W.drew := h.trans ((KeepsOthers.drew W).from B)
theorem kf_then {B : Nat} {A W W' : World} (h : KeepsFrom B A W) (hb : Below W.heap.size W W') : KeepsFrom B A W' := h.trans (kf_below hb)
theorem kf_grown {B : Nat} {A W W' : World} {row : Option Nat} (h : KeepsFrom B A W) (hg : W.grownBy W' row) (hr : ∀ r, row = some r → ∃ o : Obj, W.heap[r]? = some o ∧ o.isCells = true) : KeepsFrom B A W' :=
  h.trans ⟨hg.size, fun k o _ hk ho => (hg.block k (Array.getElem?_eq_some_iff.1 hk).1 (fun e => by obtain ⟨o', h1, h2⟩ := hr k e.symm; rw [hk] at h1; cases h1; rw [ho] at h2; cases h2)).trans hk⟩
theorem own_blkF {β : Type} {B : Nat} (g : Nat) (t : TypeId) (cs : β → Array Value) : OwnFrom B (fun (s : β) W => Blk W g t (cs s)) := fun s W W' row h hg hr => blk_grown' h hg (fun r e => (hr r e).2)
theorem own_cells {w : World} {base size n : Nat} {e : TypeId} {v : Value} {xs : List Value} (h : w.ownsRow base e size v n xs) : ∀ r, v.ownBlock = some r → ∃ o : Obj, w.heap[r]? = some o ∧ o.isCells = true := by
  rcases h.2 with ⟨rfl, _⟩ | ⟨g, cap, cur, rfl, _, hh, _⟩
  · intro r e; cases e
  · intro r e
    have : r = g := by simpa [Value.ownBlock] using e.symm
    subst this
    exact ⟨_, hh, rfl⟩
theorem rows_ne {w : World} {base base' size size' n n' : Nat} {e e' : TypeId} {v v' : Value} {xs xs' : List Value} (h : w.ownsRow base e size v n xs) (h' : w.ownsRow base' e' size' v' n' xs') (hne : e ≠ e') : v'.ownBlock = none ∨ v'.ownBlock ≠ v.ownBlock := by
  rcases h'.2 with ⟨rfl, _⟩ | ⟨g, cap, cur, rfl, _, hh, _⟩
  · exact .inl rfl
  · refine .inr (fun e2 => ?_)
    rcases h.2 with ⟨rfl, _⟩ | ⟨g2, cap2, cur2, rfl, _, hh2, _⟩
    · simp [Value.ownBlock] at e2
    · have : g = g2 := by simpa [Value.ownBlock] using e2
      subst this
      rw [hh] at hh2
      injection hh2 with hh2
      injection hh2 with _ ht
      exact hne ht.symm
/-- an append to the first row: the others are of other types. -/
theorem cons_app {w W W' : World} {L : List CellF} {R : List RowF} {base e size n m : Nat} {v v' : Value} {xs ys : List Value} (hc : Cons w L (⟨base, e, size, v, n, xs⟩ :: R) W) (hg : W.grownBy W' v.ownBlock) (ho : W'.ownsRow base e size v' m ys)
    (hb : w.heap.size ≤ base) (hL : ∀ p ∈ L, p.2.1 ≠ e ∨ p.1 < base) (hR : ∀ r ∈ R, r.e ≠ e) : Cons w L (⟨base, e, size, v', m, ys⟩ :: R) W' := by
  obtain ⟨h1, h2, h3⟩ := hc
  refine ⟨h1.grown hg h1.size (fun r er => Nat.le_trans hb (h3.head.lt r er).1), fun p hp => (h2 p hp).grown hg (by
    rcases hL p hp with hl | hl
    · exact own_blk_ne h3.head (h2 p hp) (Ne.symm hl)
    · intro e2; have := (h3.head.lt p.1 e2).1; simp at this; omega), RowsAt.cons ho fun r hr => ?_⟩
  exact (h3 r (List.mem_cons_of_mem _ hr)).kept hg (rows_ne h3.head (h3 r (List.mem_cons_of_mem _ hr)) (Ne.symm (hR r hr)))
theorem cons_alloc {w W : World} {L : List CellF} {R : List RowF} (hc : Cons w L R W) (o : Obj) : Cons w L R (W.alloc o) :=
  ⟨hc.1.alloc hc.1.size _, hc.2.1.alloc o, fun r hr => (hc.2.2 r hr).alloc o⟩
theorem cons_drew {w W : World} {L : List CellF} {R : List RowF} (hc : Cons w L R W) : Cons w L R W.drew := ⟨hc.1.drew, hc.2.1, hc.2.2⟩
theorem cons_below {w W W' : World} {L : List CellF} {R : List RowF} (hc : Cons w L R W) (hb : Below W.heap.size W W') : Cons w L R W' :=
  ⟨hc.1.trans (hb.mono hc.1.size), hc.2.1.below hb, fun r hr => own_below (hc.2.2 r hr) hb (Nat.le_refl _)⟩
theorem cons_swap {w W : World} {L : List CellF} {R : List RowF} {x y : RowF} (hc : Cons w L (x :: y :: R) W) : Cons w L (y :: x :: R) W :=
  ⟨hc.1, hc.2.1, fun r hr => hc.2.2 r (by simp at hr ⊢; rcases hr with h | h | h; exact .inr (.inl h); exact .inl h; exact .inr (.inr h))⟩
theorem cons_start (w : World) : Cons w [] [] w := ⟨Below.refl _ _, cellsAt_nil _, rowsAt_nil _⟩
theorem cons_nilrow {w W : World} {L : List CellF} {R : List RowF} (hc : Cons w L R W) (base e size : Nat) : Cons w L (⟨base, e, size, .slice none 0 0, 0, []⟩ :: R) W := ⟨hc.1, hc.2.1, RowsAt.cons (World.ownsRow_nil _ _ _ _) hc.2.2⟩
/-- store into a cell of a block of its own. -/
theorem cons_set {w W : World} {L : List CellF} {R : List RowF} {g : Nat} {t : TypeId} {cs : Array Value} (hc : Cons w ((g, t, cs) :: L) R W) (hg : w.heap.size ≤ g) (i : Nat) (u : Value) (hL : ∀ p ∈ L, p.1 ≠ g) (hR : ∀ r ∈ R, r.e ≠ t) :
    Cons w ((g, t, cs.setIfInBounds i u) :: L) R (W.setCell ⟨g, i, none⟩ u) :=
  ⟨hc.1.setCell (p := ⟨g, i, none⟩) hg u, CellsAt.cons (hc.2.1.head.set_ i u) (hc.2.1.tail.far (p := ⟨g, i, none⟩) hL u), fun r hr => own_set (hc.2.2 r hr) ⟨g, i, none⟩ u (own_blk_ne (hc.2.2 r hr) hc.2.1.head (hR r hr))⟩
theorem cons_cell {w W : World} {L : List CellF} {R : List RowF} {g : Nat} {t : TypeId} {cs : Array Value} (hc : Cons w L R W) (hb : Blk W g t cs) : Cons w ((g, t, cs) :: L) R W := ⟨hc.1, CellsAt.cons hb hc.2.1, hc.2.2⟩
theorem cons_row {w W : World} {L : List CellF} {R : List RowF} {base size n : Nat} {e : TypeId} {v : Value} {xs : List Value} (hc : Cons w L R W) (hb : W.ownsRow base e size v n xs) : Cons w L (⟨base, e, size, v, n, xs⟩ :: R) W := ⟨hc.1, hc.2.1, RowsAt.cons hb hc.2.2⟩
theorem cons_drop {w W : World} {L : List CellF} {R : List RowF} {p : CellF} (hc : Cons w (p :: L) R W) : Cons w L R W := ⟨hc.1, hc.2.1.tail, hc.2.2⟩
theorem cons_put {w W : World} {L : List CellF} {R : List RowF} {D : Nat} {o o' : Obj} (hc : Cons w L R W) (hD : W.heap[D]? = some o) (ho : o.isCells = false) (hw : w.heap.size ≤ D) : Cons w L R (W.putObj D o') :=
  hc.grown (row := some D) (grownBy_putObj' W D o') (fun r e => by cases e; exact ⟨hw, o, hD, ho⟩)
theorem wpList_appC {P : Program} {ops : Array Oper} {Q : Exit → Act → World → Prop} {rest : List Oper} {o : Oper} {a : Act} {t e size bytes : Nat} (et : ElemT P t e size bytes) (hgd : o.guard = none) {s x : Operand}
    (ho : o.op = .call { callee := .builtin .append, args := #[s, x], argTypes := #[t, t] }) {w W : World} {L : List CellF} {R : List RowF} {base n : Nat} (m : Nat) {c : Nat} {v : Value} {xs : List Value} (news : List Value) (hs : a.eval s = v) (hc : Cons w L (⟨base, e, size, v, n, xs⟩ :: R) W)
    (hx : a.eval x = .slice (some ⟨W.heap.size, 0, none⟩) m c) (hl : news.length = m * size) (h1 : ∀ u ∈ news, u.oneCell' = true) (hb : (n + m) * bytes ≤ 140737488355328) (hbase : w.heap.size ≤ base ∧ base ≤ W.heap.size) (hL : ∀ p ∈ L, p.2.1 ≠ e ∨ p.1 < base) (hR : ∀ r ∈ R, r.e ≠ e)
    (h : ∀ v' W', Cons w L (⟨base, e, size, v', n + m, xs ++ news⟩ :: R) W' → wpList P ops Q rest (a.put o.dst v') W') : wpList P ops Q (o :: rest) a (W.alloc (.cells news.toArray e)) := by
  refine wpList_app et hgd ho hs ((cons_alloc hc _).2.2.head) hx hl (by have := Blk.sl (Blk.new W e news.toArray) 0; simpa using this) h1 hb (Nat.le_trans hbase.2 (by rw [World.size_alloc]; omega)) (fun v' W' h2 h3 _ => h v' W' ?_)
  exact cons_app (cons_alloc hc _) h3 h2 hbase.1 hL hR
theorem wpListIn_appC {F : Fence} {nF : Nat} {P : Program} {ops : Array Oper} {Q : Exit → Act → World → Prop} {rest : List Oper} {o : Oper} {a : Act} {t e size bytes : Nat} (et : ElemT P t e size bytes) (hgd : o.guard = none) {s x : Operand}
    (ho : o.op = .call { callee := .builtin .append, args := #[s, x], argTypes := #[t, t] }) {w W : World} {L : List CellF} {R : List RowF} {base n : Nat} (m : Nat) {c : Nat} {v : Value} {xs : List Value} (news : List Value) (hs : a.eval s = v) (hc : Cons w L (⟨base, e, size, v, n, xs⟩ :: R) W)
    (hx : a.eval x = .slice (some ⟨W.heap.size, 0, none⟩) m c) (hl : news.length = m * size) (h1 : ∀ u ∈ news, u.oneCell' = true) (hb : (n + m) * bytes ≤ 140737488355328) (hbase : w.heap.size ≤ base ∧ base ≤ W.heap.size) (hL : ∀ p ∈ L, p.2.1 ≠ e ∨ p.1 < base) (hR : ∀ r ∈ R, r.e ≠ e)
    (h : ∀ v' W', Cons w L (⟨base, e, size, v', n + m, xs ++ news⟩ :: R) W' → W.grownBy W' v.ownBlock → wpListIn F nF P ops Q rest (a.put o.dst v') W') : wpListIn F nF P ops Q (o :: rest) a (W.alloc (.cells news.toArray e)) := by
  obtain ⟨v', w', hrun, h2, h3, h4⟩ := run_app et o.type (c := c) ((cons_alloc hc _).2.2.head) hl (by have := Blk.sl (Blk.new W e news.toArray) 0; simpa using this) h1 hb (Nat.le_trans hbase.2 (by rw [World.size_alloc]; omega))
  refine wpListIn_plain hgd fun K hK' => ?_
  unfold Oper.wpIn
  refine ⟨?_, ?_⟩
  · simp [Oper.about, ho, resolve, Target.leads, Sem.run_pure]
  · rw [Oper.semAt_plain F _ _ (by rw [ho]; intro c hc'; cases hc')]
    simp [execOp, ho, resolve, invoke, builtin, hs, hx, hrun, Result.andThen]
    exact hK' _ _ (h v' w' (cons_app (cons_alloc hc _) h3 h2 hbase.1 hL hR) ⟨h3.os, h3.tape, h3.output, by have := h3.size; simp at this; omega, fun k hk hn => (h3.block k (by simp; omega) hn).trans (Below.heap_alloc W _ k hk)⟩)
end Go.Proofs.YtcojnigkgbmbmaaGreatDoor
namespace Go.Proofs.YtcojnigkgbmbmaaGreatDoor
open Go Go.RowKit
theorem oper_round {lp n : Nat} {P : Program} {o : Oper} {a : Act} {w : World} {K : Act → World → Prop} {Q : Exit → Act → World → Prop} (hnd : ∀ c, o.op ≠ .defer c) (h : o.wp P a w K Q) : o.wpIn (Fence.wide.inRound lp) n P a w K Q := by
  unfold Oper.wpIn
  refine ⟨fun _ _ => trivial, ?_⟩
  rw [Oper.semAt_eq _ _ _ hnd]
  unfold Oper.wp at h
  generalize (execOp a.eval o).run P w = r at h
  have hdp : ¬ ((Fence.wide.inRound lp).depth.isSome = true) := by simp [Fence.wide, Fence.inRound]
  cases r with
  | ok x w' =>
    cases x with
    | value v => exact h
    | skip => exact h
    | defer d => exact h
    | enter f args => exact ⟨fun e => absurd e hdp, CallsIn.inRound lp (callsIn_wide.2 h)⟩
    | row row args =>
      refine ⟨fun e => absurd e hdp, fun c cs _ => ?_⟩
      obtain ⟨v, w2, hr, hs⟩ := h c cs
      exact ⟨v, w2, hr, stepsIn_wide.2 hs⟩
    | _ => exact h.elim
  | halt b w' =>
    cases b with
    | panic v => exact h
    | _ => exact h.elim
theorem anyIn_round {lp n : Nat} {P : Program} {ops : Array Oper} {Q : Exit → Act → World → Prop} {md : Region.Mode} (hnd : ∀ (i : Nat) (o : Oper), ops[i]? = some o → ∀ c, o.op ≠ .defer c) (hLO : ¬ LetsOut Q) :
    ∀ (fuel : Nat) (listed : Array Bool) (a : Act) (w : World), wpAny P md ops Q fuel listed a w → wpAnyIn (Fence.wide.inRound lp) n P md ops Q fuel listed a w
  | 0, _, _, _, h => h
  | fuel + 1, listed, a, w, h => ⟨h.1, fun i hi => by
      have h2 := h.2 i hi
      unfold wpOp at h2
      unfold wpOpIn
      cases ho : ops[i]? with
      | none => rw [ho] at h2; exact anyIn_round hnd hLO fuel _ _ _ h2
      | some o =>
        rw [ho] at h2
        simp only at h2 ⊢
        split
        · rename_i hw
          rw [if_pos hw] at h2
          rcases h2 with h2 | h2
          · exact Oper.wpIn_mono (fun a w h => anyIn_round hnd hLO fuel _ a w h) (oper_round (hnd i o ho) h2)
          · exact absurd h2.2 hLO
        · rename_i hw
          rw [if_neg hw] at h2
          exact ⟨fun _ _ => trivial, anyIn_round hnd hLO fuel _ _ _ h2⟩⟩
def noDefer (ops : Array Oper) : Bool := ops.all fun o => match o.op with | .defer _ => false | _ => true
theorem noDefer_spec {ops : Array Oper} (h : noDefer ops = true) : ∀ (i : Nat) (o : Oper), ops[i]? = some o → ∀ c, o.op ≠ .defer c := by
  intro i o ho c e
  obtain ⟨hlt, rfl⟩ := Array.getElem?_eq_some_iff.1 ho
  have := Array.all_eq_true.1 h i hlt
  rw [e] at this
  cases this
/-- what is left normally alone -/
def OnlyN (Q : Exit → Act → World → Prop) (e : Exit) (a : Act) (w : World) : Prop := e = .normal ∧ Q .normal a w
theorem OnlyN.to (Q : Exit → Act → World → Prop) : ∀ e a w, OnlyN Q e a w → Q e a w := fun _ _ _ h => h.1 ▸ h.2
theorem tree_any {P : Program} {ops : Array Oper} {Q : Exit → Act → World → Prop} (S : World → Prop) (m : Nat) (plan : Pln) {a : Act} {w : World} {l : PlnO} {dsts : List (Option Tmp)}
    (hok : (regionTreeOk ops m plan && noDefer ops) = true) (hl : plan.out ops = l) (hds : ops.toList.map (·.dst) = dsts)
    (hS : S w) (h : ∀ E : Act → World → Prop, (∀ a w, wpList P ops (OnlyN Q) (ops.toList.drop m) a w → E a w) → wpTreeO P dsts E l S a w) : wpAny P .any ops (OnlyN Q) ops.size (Array.replicate ops.size false) a w := by
  subst hl hds
  simp only [regionTreeOk, Bool.and_eq_true, decide_eq_true_eq, beq_iff_eq] at hok
  obtain ⟨⟨⟨⟨⟨hsel, hm⟩, hl⟩, hok⟩, hbl⟩, hnd⟩ := hok
  have hcl : Closed ops (Array.replicate ops.size false) := fun j o ho hl => by
    have hlt := (Array.getElem?_eq_some_iff.1 ho).1
    simp [hlt] at hl
  have := anyM_of_tree (Q := OnlyN Q) hsel (fun c a d v w h => (by cases h.1)) hm plan S _ a w hok hcl hS (tree_of_out (E := wpList P ops (OnlyN Q) (ops.toList.drop m)) (fun _ _ h => h) plan S a _ hbl (h _ fun _ _ h => h))
  rw [show plan.len + (ops.size - m) = ops.size by omega] at this
  exact wpAny_of_M _ _ _ _ this
theorem wpIn_region_tree {lp n : Nat} {P : Program} {ops : Array Oper} {Q : Exit → Act → World → Prop} (S : World → Prop) (m : Nat) (plan : Pln) {id : Nat} {a : Act} {w : World} {l : PlnO} {dsts : List (Option Tmp)} (hmx : P.follows .mixedOrders = true)
    (hok : (regionTreeOk ops m plan && noDefer ops) = true) (hl : plan.out ops = l) (hds : ops.toList.map (·.dst) = dsts)
    (hS : S w.drew) (h : ∀ E : Act → World → Prop, (∀ a w, wpList P ops (OnlyN Q) (ops.toList.drop m) a w → E a w) → wpTreeO P dsts E l S a w.drew) : (Code.region id ops true).wpIn (Fence.wide.inRound lp) n P Q a w := by
  have hnd : noDefer ops = true := by simp only [Bool.and_eq_true] at hok; exact hok.2
  have := tree_any S m plan hok hl hds hS h
  exact wpIn_mono (wpIn_region_any hmx (anyIn_round (noDefer_spec hnd) (fun ⟨_, _, h⟩ => by cases h.1) _ _ _ _ this)) (OnlyN.to Q)
theorem wp_region_treeN {P : Program} {ops : Array Oper} {Q : Exit → Act → World → Prop} (S : World → Prop) (m : Nat) (plan : Pln) {id : Nat} {a : Act} {w : World} {l : PlnO} {dsts : List (Option Tmp)} (hmx : P.follows .mixedOrders = true)
    (hok : (regionTreeOk ops m plan && noDefer ops) = true) (hl : plan.out ops = l) (hds : ops.toList.map (·.dst) = dsts)
    (hS : S w.drew) (h : ∀ E : Act → World → Prop, (∀ a w, wpList P ops (OnlyN Q) (ops.toList.drop m) a w → E a w) → wpTreeO P dsts E l S a w.drew) : (Code.region id ops true).wp P Q a w :=
  wp_mono (wp_region_any hmx (tree_any S m plan hok hl hds hS h)) (OnlyN.to Q)
end Go.Proofs.YtcojnigkgbmbmaaGreatDoor
