/- The program's Parse. -/
import Derived.Test.YthcbidbhkikhmaaDoorTakes31
import Derived.WalkMore
namespace Go.Proofs.YthcbidbhkikhmaaDoor
open Go Go.RowKit
attribute [local go_sem] Oper.semAt_some
structure StN where
  started : Bool
  t : List UInt8
  pos : Nat
  o : OpN
def stepP (st : StN) (x : List UInt8) : Except Nat StN :=
  if st.started = false then
    match partsR x with
    | Option.none => .error 0
    | some p => .ok ⟨true, lettersR p, st.pos + (x.length + 1), ⟨x, 0, 0, []⟩⟩
  else match st.t with
    | [] => .error (st.pos - 1)
    | c :: t => match readR c x st.o with
      | Option.none => .error st.pos
      | some o => .ok ⟨true, t, st.pos + (x.length + 1), o⟩
def nextP (e : Except Nat StN) (x : List UInt8) : Except Nat StN :=
  match e with
  | .ok st => stepP st x
  | .error b => .error b
def runP (l : List (List UInt8)) : Except Nat StN := l.foldl nextP (.ok ⟨false, [], 0, OpN.none⟩)
theorem runP_snoc (l : List (List UInt8)) (x : List UInt8) : runP (l ++ [x]) = nextP (runP l) x := by simp [runP]
def parP (line : List UInt8) : Except (Nat × Nat) OpN :=
  if 3000 < line.length then .error (4, 3000) else
  match runP (splitL 32 line) with
  | .error b => .error (14, b)
  | .ok st => if st.t = [] then .ok st.o else .error (14, line.length)
def tot (l : List (List UInt8)) : Nat := (l.map fun x => x.length + 1).sum
theorem tot_snoc (l : List (List UInt8)) (x : List UInt8) : tot (l ++ [x]) = tot l + (x.length + 1) := by simp [tot]
theorem tot_split (c : UInt8) (s : List UInt8) : tot (splitL c s) = s.length + 1 := by
  induction hn : s.length using Nat.strongRecOn generalizing s with
  | ind n ih =>
    by_cases h : cutAt c s < s.length
    · rw [splitL_cons h]
      have h1 := ih _ (by rw [List.length_drop]; omega) (s.drop (cutAt c s + 1)) rfl
      have h2 : tot (s.take (cutAt c s) :: splitL c (s.drop (cutAt c s + 1))) = (s.take (cutAt c s)).length + 1 + tot (splitL c (s.drop (cutAt c s + 1))) := by simp [tot]
      rw [h2, h1, List.length_take, List.length_drop]; omega
    · rw [splitL_last h]; simp [tot, hn]
theorem tot_prefix {a b : List (List UInt8)} (h : a <+: b) : tot a ≤ tot b := by
  obtain ⟨r, rfl⟩ := h
  simp [tot]
def zeroOp : Array Value := #[.string ⟨#[]⟩, .int .i64 0, .int .i64 0, .slice none 0 0]
def PSt (w0 : World) (s2 : Nat) (st : StN) (W : World) : Prop := ∃ vb nv vs z,
  Blk W (w0.heap.size + 2) 24 #[.string (bs st.o.w), .int .i64 (st.o.id : Int), .int .i64 (st.o.n : Int), vb] ∧ W.ownsRow w0.heap.size 5 1 vb st.o.b.length (st.o.b.map byteV) ∧
  Blk W (w0.heap.size + 3) 64 #[nv] ∧ NextV W nv vs ∧ Rds W (w0.heap.size + 2) st.t vs ∧
  Blk W (w0.heap.size + 4) 3 #[.int .i64 (st.pos : Int)] ∧ Blk W (w0.heap.size + 5) 3 #[.int .i64 (-1)] ∧
  Blk W w0.heap.size 24 zeroOp ∧ Blk W (w0.heap.size + 1) 34 #[.int .i64 0, .int .i64 0] ∧ Blk W s2 9 #[z] ∧ Below w0.heap.size w0 W
/-- it abides whatever leaves these kinds of blocks as they were -/
theorem PSt.kept {w0 : World} {s2 : Nat} {st : StN} {W W' : World} (h : PSt w0 s2 st W) (hk : ∀ g t cs, Blk W g t cs → Blk W' g t cs) (hb : Below w0.heap.size W W') : PSt w0 s2 st W' := by
  obtain ⟨vb, nv, vs, z, h1, h2, h3, h4, h5, h6, h7, h8, h9, h10, h11⟩ := h
  refine ⟨vb, nv, vs, z, hk _ _ _ h1, ?_, hk _ _ _ h3, h4.kept (fun g cs => hk g _ cs), Rds.kept (fun g t cs _ => hk g t cs) _ _ h5, hk _ _ _ h6, hk _ _ _ h7, hk _ _ _ h8, hk _ _ _ h9, hk _ _ _ h10, h11.trans hb⟩
  refine ⟨h2.1, ?_⟩
  rcases h2.2 with h | ⟨g, cap, cur, rfl, hbg, hh, h3⟩
  · exact .inl h
  · exact .inr ⟨g, cap, cur, rfl, hbg, hk _ _ _ hh, h3⟩
/-- what lies at or beyond L stays -/
structure Stp (L : Nat) (A B : World) : Prop where
  size : A.heap.size ≤ B.heap.size
  same : ∀ k, L ≤ k → k < A.heap.size → B.heap[k]? = A.heap[k]?
section
variable {L : Nat} {A B C : World}
theorem Stp.refl (L : Nat) (A : World) : Stp L A A := ⟨Nat.le_refl _, fun _ _ _ => rfl⟩
theorem Stp.trans (h : Stp L A B) (k : Stp L B C) : Stp L A C := ⟨Nat.le_trans h.size k.size, fun i hL hi => (k.same i hL (Nat.lt_of_lt_of_le hi h.size)).trans (h.same i hL hi)⟩
theorem Stp.of_below (h : Below A.heap.size A B) : Stp L A B := ⟨h.size, fun k _ hk => h.block k hk⟩
theorem Stp.alloc (h : Stp L A B) (o : Obj) : Stp L A (B.alloc o) := h.trans (Stp.of_below ((Below.refl _ _).alloc (Nat.le_refl _) o))
theorem Stp.set (h : Stp L A B) {p : Addr} (hp : p.block < L) (v : Value) : Stp L A (B.setCell p v) := h.trans ⟨by simp, fun k hL _ => Below.heap_setCell B p v k (by omega)⟩
theorem Stp.turned (h : Stp L A B) {g : Nat} (hg : g < L) (hb : B.grownBy C (some g)) : Stp L A C := h.trans ⟨hb.size, fun k hL hk => hb.block k hk (fun e => by cases e; omega)⟩
theorem Stp.keeps (h : Stp L A B) {n1 : Nat} (hL : L ≤ n1) : KeepsFrom n1 A B := ⟨h.size, fun k _ hB hk _ => (h.same k (Nat.le_trans hL hB) (Array.getElem?_eq_some_iff.1 hk).1).trans hk⟩
theorem Stp.kept (h : Stp L A B) {b1 b2 b3 : Nat} (h1 : L ≤ b1) (h2 : L ≤ b2) (h3 : L ≤ b3) (k1 : b1 < A.heap.size) (k2 : b2 < A.heap.size) (k3 : b3 < A.heap.size) : B.heap[b1]? = A.heap[b1]? ∧ B.heap[b2]? = A.heap[b2]? ∧ B.heap[b3]? = A.heap[b3]? :=
  ⟨h.same _ h1 k1, h.same _ h2 k2, h.same _ h3 k3⟩
end
def Inv (pre : List (List UInt8)) (st : StN) : Prop := runP pre = .ok st ∧ st.pos = tot pre ∧ (st.started = true ↔ pre ≠ []) ∧ (pre = [] → st = ⟨false, [], 0, OpN.none⟩)
def ParI (w : World) (s2 n1 : Nat) (pre : List (List UInt8)) (W : World) : Prop := ∃ st, Inv pre st ∧ PSt w s2 st W ∧ n1 ≤ W.heap.size
def PEr (w : World) (b : Nat) (W : World) : Prop := Blk W (w.heap.size + 5) 3 #[.int .i64 (b : Int)] ∧ Blk W w.heap.size 24 zeroOp ∧ Blk W (w.heap.size + 1) 34 #[.int .i64 0, .int .i64 0] ∧ Below w.heap.size w W
def ParX (w : World) (c : Code) (pre : List (List UInt8)) (W : World) : Prop := c = .exit 0 ∧ ∃ b, runP pre = .error b ∧ b ≤ 100000 ∧ PEr w b W
theorem own_kept {W W' : World} {base e size n : Nat} {v : Value} {xs : List Value} (h : W.ownsRow base e size v n xs) (hk : ∀ g t cs, Blk W g t cs → Blk W' g t cs) : W'.ownsRow base e size v n xs := by
  refine ⟨h.1, ?_⟩
  rcases h.2 with h | ⟨g, cap, cur, rfl, hbg, hh, h3⟩
  · exact .inl h
  · exact .inr ⟨g, cap, cur, rfl, hbg, hk _ _ _ hh, h3⟩
theorem blk_walk {W W' : World} {row : Option Nat} (hg : W.grownBy W' row) (hr : ∀ r, row = some r → ∃ o : Obj, W.heap[r]? = some o ∧ o.isCells = false) {g : Nat} {t : TypeId} {cs : Array Value} (h : Blk W g t cs) : Blk W' g t cs :=
  h.grown hg (fun e => by
    obtain ⟨o, ho, hc⟩ := hr g e
    unfold Blk at h
    rw [h] at ho
    cases ho
    cases hc)
theorem below_walk {B n1 : Nat} {w W W' : World} {row : Option Nat} (hb : Below B w W) (hg : W.grownBy W' row) (hr : ∀ r, row = some r → n1 ≤ r ∧ ∃ o : Obj, W.heap[r]? = some o ∧ o.isCells = false) (hB : B ≤ n1) (hBW : B ≤ W.heap.size) : Below B w W' :=
  hb.grown hg hBW (fun k e => Nat.le_trans hB (hr k e).1)
theorem parI_own (w : World) (s2 n1 : Nat) (hB : w.heap.size ≤ n1) : OwnFrom n1 (ParI w s2 n1) := by
  intro pre W W' row h hg hr
  obtain ⟨st, h1, h2, h3⟩ := h
  obtain ⟨vb, nv, vs, z, p1, p2, p3, p4, p5, p6, p7, p8, p9, p10, p11⟩ := h2
  have hk : ∀ g t cs, Blk W g t cs → Blk W' g t cs := fun g t cs h => blk_walk hg (fun r e => (hr r e).2) h
  refine ⟨st, h1, ⟨vb, nv, vs, z, hk _ _ _ p1, own_kept p2 hk, hk _ _ _ p3, p4.kept (fun g cs => hk g _ cs), Rds.kept (fun g t cs _ => hk g t cs) _ _ p5, hk _ _ _ p6, hk _ _ _ p7, hk _ _ _ p8, hk _ _ _ p9, hk _ _ _ p10, below_walk p11 hg hr hB (Nat.le_trans hB h3)⟩, Nat.le_trans h3 hg.size⟩
theorem parX_own (w : World) (n1 : Nat) (hB : w.heap.size ≤ n1) : ∀ c, OwnFrom n1 (ParX w c) := by
  intro c pre W W' row h hg hr
  obtain ⟨h0, b, h1, h2, p1, p2, p3, p4⟩ := h
  have hk : ∀ g t cs, Blk W g t cs → Blk W' g t cs := fun g t cs h => blk_walk hg (fun r e => (hr r e).2) h
  exact ⟨h0, b, h1, h2, hk _ _ _ p1, hk _ _ _ p2, hk _ _ _ p3, below_walk p4 hg hr hB p4.size⟩
theorem parI_set (w : World) (s2 n1 : Nat) (h : w.heap.size + 6 ≤ s2) : ∀ pre W v, ParI w s2 n1 pre W → ParI w s2 n1 pre (W.setCell ⟨s2, 0, none⟩ v) := by
  intro pre W v h
  obtain ⟨st, h1, h2, h3⟩ := h
  obtain ⟨vb, nv, vs, z, p1, p2, p3, p4, p5, p6, p7, p8, p9, p10, p11⟩ := h2
  have hk : ∀ g t cs, t ≠ 9 → Blk W g t cs → Blk (W.setCell ⟨s2, 0, none⟩ v) g t cs := fun g t cs ht h => h.far (p := ⟨s2, 0, none⟩) (blk_ne h p10 ht) v
  refine ⟨st, h1, ⟨vb, nv, vs, v, hk _ _ _ (by decide) p1, own_set p2 ⟨s2, 0, none⟩ v (own_blk_ne p2 p10 (by decide)), hk _ _ _ (by decide) p3, p4.kept (fun g cs => hk g _ cs (by decide)), Rds.kept (fun g t cs ht => hk g t cs (by rcases ht with rfl | rfl <;> decide)) _ _ p5,
    hk _ _ _ (by decide) p6, hk _ _ _ (by decide) p7, hk _ _ _ (by decide) p8, hk _ _ _ (by decide) p9, p10.set_ 0 v, p11.setCell (p := ⟨s2, 0, none⟩) (by show w.heap.size ≤ s2; omega) v⟩, by rw [World.size_setCell]; exact h3⟩
theorem parI_put {w : World} {s2 n1 L : Nat} {pre : List (List UInt8)} {st : StN} {wa : World} {vb nv n0 a0 u z : Value} {vs : List Value} {csb : Array Value} {k : Nat} (_hL : w.heap.size + 6 ≤ L)
    (h1 : Blk wa (w.heap.size + 2) 24 csb) (hcs : csb.setIfInBounds k u = #[.string (bs st.o.w), .int .i64 (st.o.id : Int), .int .i64 (st.o.n : Int), vb]) (h2 : wa.ownsRow w.heap.size 5 1 vb st.o.b.length (st.o.b.map byteV))
    (h3 : Blk wa (w.heap.size + 3) 64 #[n0]) (h4 : NextV wa nv vs) (h5 : Rds wa (w.heap.size + 2) st.t vs) (h6 : Blk wa (w.heap.size + 4) 3 #[a0]) (h7 : Blk wa (w.heap.size + 5) 3 #[.int .i64 (-1)])
    (h8 : Blk wa w.heap.size 24 zeroOp) (h9 : Blk wa (w.heap.size + 1) 34 #[.int .i64 0, .int .i64 0]) (h10 : Blk wa s2 9 #[z]) (h11 : Below w.heap.size w wa) (hn : n1 ≤ wa.heap.size) (hinv : Inv pre st) :
    ParI w s2 n1 pre (((wa.setCell ⟨w.heap.size + 2, k, none⟩ u).setCell ⟨w.heap.size + 3, 0, none⟩ nv).setCell ⟨w.heap.size + 4, 0, none⟩ (.int .i64 (st.pos : Int))) := by
  have e1 : w.heap.size + 3 ≠ w.heap.size + 2 := by omega
  have e2 : w.heap.size + 4 ≠ w.heap.size + 2 := by omega
  have e3 : w.heap.size + 4 ≠ w.heap.size + 3 := by omega
  have e4 : w.heap.size + 5 ≠ w.heap.size + 2 := by omega
  have e5 : w.heap.size + 5 ≠ w.heap.size + 3 := by omega
  have e6 : w.heap.size + 5 ≠ w.heap.size + 4 := by omega
  have e7 : w.heap.size ≠ w.heap.size + 2 := by omega
  have e8 : w.heap.size ≠ w.heap.size + 3 := by omega
  have e9 : w.heap.size ≠ w.heap.size + 4 := by omega
  have e10 : w.heap.size + 1 ≠ w.heap.size + 2 := by omega
  have e11 : w.heap.size + 1 ≠ w.heap.size + 3 := by omega
  have e12 : w.heap.size + 1 ≠ w.heap.size + 4 := by omega
  have far : ∀ {g : Nat} {t : TypeId} {cs : Array Value}, g ≠ w.heap.size + 2 → g ≠ w.heap.size + 3 → g ≠ w.heap.size + 4 → Blk wa g t cs → Blk (((wa.setCell ⟨w.heap.size + 2, k, none⟩ u).setCell ⟨w.heap.size + 3, 0, none⟩ nv).setCell ⟨w.heap.size + 4, 0, none⟩ (.int .i64 (st.pos : Int))) g t cs :=
    fun k2 k3 k4 h => ((h.far (p := ⟨w.heap.size + 2, k, none⟩) k2 u).far (p := ⟨w.heap.size + 3, 0, none⟩) k3 nv).far (p := ⟨w.heap.size + 4, 0, none⟩) k4 _
  have typ : ∀ {g : Nat} {t : TypeId} {cs : Array Value}, t ≠ 24 → t ≠ 64 → t ≠ 3 → Blk wa g t cs → Blk (((wa.setCell ⟨w.heap.size + 2, k, none⟩ u).setCell ⟨w.heap.size + 3, 0, none⟩ nv).setCell ⟨w.heap.size + 4, 0, none⟩ (.int .i64 (st.pos : Int))) g t cs :=
    fun k2 k3 k4 h => far (blk_ne h h1 k2) (blk_ne h h3 k3) (blk_ne h h6 k4) h
  have b1 := ((h1.set_ k u).far (p := ⟨w.heap.size + 3, 0, none⟩) e1.symm nv).far (p := ⟨w.heap.size + 4, 0, none⟩) e2.symm (.int .i64 (st.pos : Int))
  rw [hcs] at b1
  refine ⟨st, hinv, ⟨vb, nv, vs, z, b1, ?_, ?_, h4.kept (fun g cs => typ (by decide) (by decide) (by decide)), Rds.kept (fun g t cs ht => typ (by rcases ht with rfl | rfl <;> decide) (by rcases ht with rfl | rfl <;> decide) (by rcases ht with rfl | rfl <;> decide)) _ _ h5,
    ?_, far e4 e5 e6 h7, far e7 e8 e9 h8, far e10 e11 e12 h9, typ (by decide) (by decide) (by decide) h10, ?_⟩, by rw [World.size_setCell, World.size_setCell, World.size_setCell]; exact hn⟩
  · exact own_set (own_set (own_set h2 _ _ (own_blk_ne h2 h1 (by decide))) _ _ (own_blk_ne h2 h3 (by decide))) _ _ (own_blk_ne h2 h6 (by decide))
  · exact (((h3.far (p := ⟨w.heap.size + 2, k, none⟩) e1 u).set_ 0 nv).far (p := ⟨w.heap.size + 4, 0, none⟩) e3.symm _)
  · exact ((h6.far (p := ⟨w.heap.size + 2, k, none⟩) e2 u).far (p := ⟨w.heap.size + 3, 0, none⟩) e3 nv).set_ 0 _
  · exact ((h11.setCell (p := ⟨w.heap.size + 2, k, none⟩) (by show w.heap.size ≤ w.heap.size + 2; omega) u).setCell (p := ⟨w.heap.size + 3, 0, none⟩) (by show w.heap.size ≤ w.heap.size + 3; omega) nv).setCell (p := ⟨w.heap.size + 4, 0, none⟩) (by show w.heap.size ≤ w.heap.size + 4; omega) _
theorem parI_put2 {w : World} {s2 n1 L : Nat} {pre : List (List UInt8)} {st : StN} {wa : World} {vb nv n0 a0 z : Value} {vs : List Value} (_hL : w.heap.size + 6 ≤ L)
    (h1 : Blk wa (w.heap.size + 2) 24 #[.string (bs st.o.w), .int .i64 (st.o.id : Int), .int .i64 (st.o.n : Int), vb]) (h2 : wa.ownsRow w.heap.size 5 1 vb st.o.b.length (st.o.b.map byteV))
    (h3 : Blk wa (w.heap.size + 3) 64 #[n0]) (h4 : NextV wa nv vs) (h5 : Rds wa (w.heap.size + 2) st.t vs) (h6 : Blk wa (w.heap.size + 4) 3 #[a0]) (h7 : Blk wa (w.heap.size + 5) 3 #[.int .i64 (-1)])
    (h8 : Blk wa w.heap.size 24 zeroOp) (h9 : Blk wa (w.heap.size + 1) 34 #[.int .i64 0, .int .i64 0]) (h10 : Blk wa s2 9 #[z]) (h11 : Below w.heap.size w wa) (hn : n1 ≤ wa.heap.size) (hinv : Inv pre st) :
    ParI w s2 n1 pre ((wa.setCell ⟨w.heap.size + 3, 0, none⟩ nv).setCell ⟨w.heap.size + 4, 0, none⟩ (.int .i64 (st.pos : Int))) := by
  have e1 : w.heap.size + 3 ≠ w.heap.size + 2 := by omega
  have e2 : w.heap.size + 4 ≠ w.heap.size + 2 := by omega
  have e3 : w.heap.size + 4 ≠ w.heap.size + 3 := by omega
  have e4 : w.heap.size + 5 ≠ w.heap.size + 2 := by omega
  have e5 : w.heap.size + 5 ≠ w.heap.size + 3 := by omega
  have e6 : w.heap.size + 5 ≠ w.heap.size + 4 := by omega
  have e7 : w.heap.size ≠ w.heap.size + 2 := by omega
  have e8 : w.heap.size ≠ w.heap.size + 3 := by omega
  have e9 : w.heap.size ≠ w.heap.size + 4 := by omega
  have e10 : w.heap.size + 1 ≠ w.heap.size + 2 := by omega
  have e11 : w.heap.size + 1 ≠ w.heap.size + 3 := by omega
  have e12 : w.heap.size + 1 ≠ w.heap.size + 4 := by omega
  have far : ∀ {g : Nat} {t : TypeId} {cs : Array Value}, g ≠ w.heap.size + 2 → g ≠ w.heap.size + 3 → g ≠ w.heap.size + 4 → Blk wa g t cs → Blk ((wa.setCell ⟨w.heap.size + 3, 0, none⟩ nv).setCell ⟨w.heap.size + 4, 0, none⟩ (.int .i64 (st.pos : Int))) g t cs :=
    fun k2 k3 k4 h => (h.far (p := ⟨w.heap.size + 3, 0, none⟩) k3 nv).far (p := ⟨w.heap.size + 4, 0, none⟩) k4 _
  have typ : ∀ {g : Nat} {t : TypeId} {cs : Array Value}, t ≠ 24 → t ≠ 64 → t ≠ 3 → Blk wa g t cs → Blk ((wa.setCell ⟨w.heap.size + 3, 0, none⟩ nv).setCell ⟨w.heap.size + 4, 0, none⟩ (.int .i64 (st.pos : Int))) g t cs :=
    fun k2 k3 k4 h => far (blk_ne h h1 k2) (blk_ne h h3 k3) (blk_ne h h6 k4) h
  have b1 := (h1.far (p := ⟨w.heap.size + 3, 0, none⟩) e1.symm nv).far (p := ⟨w.heap.size + 4, 0, none⟩) e2.symm (.int .i64 (st.pos : Int))
  refine ⟨st, hinv, ⟨vb, nv, vs, z, b1, ?_, ?_, h4.kept (fun g cs => typ (by decide) (by decide) (by decide)), Rds.kept (fun g t cs ht => typ (by rcases ht with rfl | rfl <;> decide) (by rcases ht with rfl | rfl <;> decide) (by rcases ht with rfl | rfl <;> decide)) _ _ h5,
    ?_, far e4 e5 e6 h7, far e7 e8 e9 h8, far e10 e11 e12 h9, typ (by decide) (by decide) (by decide) h10, ?_⟩, by rw [World.size_setCell, World.size_setCell]; exact hn⟩
  · exact own_set (own_set h2 _ _ (own_blk_ne h2 h3 (by decide))) _ _ (own_blk_ne h2 h6 (by decide))
  · exact ((h3.set_ 0 nv).far (p := ⟨w.heap.size + 4, 0, none⟩) e3.symm _)
  · exact (h6.far (p := ⟨w.heap.size + 3, 0, none⟩) e3 nv).set_ 0 _
  · exact (h11.setCell (p := ⟨w.heap.size + 3, 0, none⟩) (by show w.heap.size ≤ w.heap.size + 3; omega) nv).setCell (p := ⟨w.heap.size + 4, 0, none⟩) (by show w.heap.size ≤ w.heap.size + 4; omega) _
theorem parX_put {w : World} {pre : List (List UInt8)} {q : Nat} {wa : World} {b0 : Value} (hrun : runP pre = .error q) (hq : q ≤ 100000) (h7 : Blk wa (w.heap.size + 5) 3 #[b0]) (h8 : Blk wa w.heap.size 24 zeroOp) (h9 : Blk wa (w.heap.size + 1) 34 #[.int .i64 0, .int .i64 0])
    (h11 : Below w.heap.size w wa) : ParX w (.exit 0) pre (wa.setCell ⟨w.heap.size + 5, 0, none⟩ (.int .i64 (q : Int))) :=
  ⟨rfl, q, hrun, hq, h7.set_ 0 _, h8.far (p := ⟨w.heap.size + 5, 0, none⟩) (by show w.heap.size ≠ w.heap.size + 5; omega) _, h9.far (p := ⟨w.heap.size + 5, 0, none⟩) (by show w.heap.size + 1 ≠ w.heap.size + 5; omega) _, h11.setCell (p := ⟨w.heap.size + 5, 0, none⟩) (by show w.heap.size ≤ w.heap.size + 5; omega) _⟩
theorem own_kept5 {W W' : World} {base e size n : Nat} {v : Value} {xs : List Value} (h : W.ownsRow base e size v n xs) (hk : ∀ g cs, Blk W g e cs → Blk W' g e cs) : W'.ownsRow base e size v n xs := by
  refine ⟨h.1, ?_⟩
  rcases h.2 with h | ⟨g, cap, cur, rfl, hbg, hh, h3⟩
  · exact .inl h
  · exact .inr ⟨g, cap, cur, rfl, hbg, hk _ _ hh, h3⟩
/-- the same, but no panic -/
structure NoPanic (Q : Exit → Act → World → Prop) (e : Exit) (a : Act) (w : World) : Prop where
  q : Q e a w
  np : ∀ c, e ≠ .panic c
theorem NoPanic.to (Q : Exit → Act → World → Prop) : ∀ e a w, NoPanic Q e a w → Q e a w := fun _ _ _ h => h.q
theorem NoPanic.no (Q : Exit → Act → World → Prop) : ∀ c a d v w, NoPanic Q (.panic c) (Act.put a d v) w → NoPanic Q (.panic c) a w := fun c _ _ _ _ h => absurd rfl (h.np c)
@[go_sem] theorem NoPanic_normal (Q : Exit → Act → World → Prop) (a : Act) (w : World) : NoPanic Q .normal a w = Q .normal a w := propext ⟨fun h => h.q, fun h => ⟨h, fun c h => by cases h⟩⟩
theorem foldl_err (b : Nat) : ∀ l : List (List UInt8), l.foldl nextP (.error b) = .error b
  | [] => rfl
  | _ :: l => foldl_err b l
theorem run_err {pre l : List (List UInt8)} {b : Nat} (h : pre <+: l) (hr : runP pre = .error b) : runP l = .error b := by
  obtain ⟨r, rfl⟩ := h
  unfold runP at *
  rw [List.foldl_append, hr]
  exact foldl_err b r
theorem blk_put {W : World} {g D : Nat} {t : TypeId} {cs : Array Value} {o : Obj} (h : Blk W g t cs) (hne : g ≠ D) : Blk (W.putObj D o) g t cs := (World.putObj_heap_other hne).trans h
theorem own_put {W : World} {base e size n D : Nat} {v : Value} {xs : List Value} {o : Obj} (h : W.ownsRow base e size v n xs) (hK : W.heap[D]? = some (.deferred (some []))) : (W.putObj D o).ownsRow base e size v n xs :=
  own_kept h (fun g t cs hb => blk_put hb (fun e => by subst e; unfold Blk at hb; rw [hK] at hb; cases hb))
theorem put_below {W : World} {B D : Nat} {o : Obj} (_hK : W.heap[D]? = some (.deferred (some []))) (hB : B ≤ D) : Below B W (W.putObj D o) :=
  ⟨rfl, rfl, rfl, by rw [World.putObj_size]; exact Nat.le_refl _, fun k hk => World.putObj_heap_other (by omega)⟩
theorem parse_ret {tmps : Array Value} {W : World} {B : Nat} {a b c d e f : Value} (h2 : tmps.getD 2 undef = .pointer (some ⟨B, 0, none⟩)) (h3 : tmps.getD 3 undef = .pointer (some ⟨B + 1, 0, none⟩)) (hb : Blk W B 24 #[a, b, c, d]) (hf : Blk W (B + 1) 34 #[e, f]) :
    (results Tryd.f16 tmps).run Tryd.prog W = .ok (.tuple #[.agg #[a, b, c, d], .agg #[e, f]]) W := by
  have c0 := hb.cell 0
  have c1 := hb.cell 1
  have c2 := hb.cell 2
  have c3 := hb.cell 3
  have e0 := hf.cell 0
  have e1 := hf.cell 1
  have h2' : (tmps[2]?).getD undef = .pointer (some ⟨B, 0, none⟩) := by rw [← h2]; simp
  have h3' : (tmps[3]?).getD undef = .pointer (some ⟨B + 1, 0, none⟩) := by rw [← h3]; simp
  simp at c0 c1 c2 c3 e0 e1
  simp [results, Tryd.results16, go_sem, h2', h3', c0, c1, c2, c3, e0, e1]
theorem wpList_skip1 {P : Program} {ops : Array Oper} {Q : Exit → Act → World → Prop} {o : Oper} {tmps : Array Value} {ds : List Deferred} {w w' : World} (hg : o.guard = none) (hd : o.dst = none) (he : (execOp (Act.eval ⟨tmps, ds⟩) o).run P w = .ok .skip w') (h : Q .normal ⟨tmps, ds⟩ w') : wpList P ops Q [o] ⟨tmps, ds⟩ w := by
  have hw : Region.wanted o (yielded ops tmps) = true := by unfold Region.wanted; rw [hg]
  simp only [wpList, hw, if_true]
  refine .inl ?_
  unfold Oper.wp
  rw [he, Oper.upon_skip]
  simp only [Act.put, hd]
  exact h
theorem ret_nomark {F : Fence} {n : Nat} {P : Program} {fn : Func} {R : Ending → World → Prop} {tmps : Array Value} {w : World} {v : Value} (hr : (results fn tmps).run P w = .ok v w) (h : R (.returned v) w) : bodyPostM F n P fn R .ret ⟨tmps, []⟩ w := ⟨v, hr, h⟩
theorem ret_mark {F : Fence} {n : Nat} {P : Program} {fn : Func} {R : Ending → World → Prop} {tmps : Array Value} {w : World} {v : Value} {D : Nat} (hK : w.heap[D]? = some (.deferred (some []))) (hr : (results fn tmps).run P (w.putObj D (.deferred none)) = .ok v (w.putObj D (.deferred none)))
    (h : R (.returned v) (w.putObj D (.deferred none))) : bodyPostM F n P fn R .ret ⟨tmps, [{ target := .collected D, args := #[] }]⟩ w := ⟨by simp, .inl ⟨_, _, rfl, run_takeDeferred hK, v, hr, h⟩⟩
/-- the world behind Parse's first lines -/
def startW (w : World) : World := ((((((w.alloc (.cells #[.string ⟨#[]⟩, .int .i64 0, .int .i64 0, .slice none 0 0] 24)).alloc (.cells #[.int .i64 0, .int .i64 0] 34)).alloc (.cells #[.string ⟨#[]⟩, .int .i64 0, .int .i64 0, .slice none 0 0] 24)).alloc (.cells #[.slice none 0 0] 64)).alloc (.cells #[.int .i64 0] 3)).alloc (.cells #[.int .i64 (-1)] 3))
def StartP (w W : World) : Prop := Blk W (w.heap.size + 2) 24 zeroOp ∧ Blk W (w.heap.size + 3) 64 #[.slice none 0 0] ∧ Blk W (w.heap.size + 4) 3 #[.int .i64 0] ∧ Blk W (w.heap.size + 5) 3 #[.int .i64 (-1)] ∧
  Blk W w.heap.size 24 zeroOp ∧ Blk W (w.heap.size + 1) 34 #[.int .i64 0, .int .i64 0] ∧ Below w.heap.size w W
theorem parse_start (w : World) : StartP w (startW w) := by
  unfold StartP startW
  refine ⟨?_, ?_, ?_, ?_, ?_, ?_, ?_⟩
  · exact (((((Blk.new _ _ _).at_eq (by simp)).alloc _).alloc _).alloc _)
  · exact ((((Blk.new _ _ _).at_eq (by simp)).alloc _).alloc _)
  · exact (((Blk.new _ _ _).at_eq (by simp)).alloc _)
  · exact ((Blk.new _ _ _).at_eq (by simp))
  · exact (((((Blk.new _ _ _).alloc _).alloc _).alloc _).alloc _).alloc _
  · exact ((((((Blk.new _ _ _).at_eq (by simp)).alloc _).alloc _).alloc _).alloc _)
  · exact ((((((Below.refl _ _).alloc (Nat.le_refl _) _).alloc (by simp) _).alloc (by simp; omega) _).alloc (by simp; omega) _).alloc (by simp; omega) _).alloc (by simp; omega) _
set_option maxRecDepth 100000 in
set_option maxHeartbeats 8000000 in
theorem lines_parse (line : List UInt8) (w : World) (hsz : line.length ≤ 10000) : Calls Tryd.prog 16 #[.string (bs line)] w (ParsePost (parP line) w) := by
  obtain ⟨r, hr⟩ : ∃ r, parP line = r := ⟨_, rfl⟩
  rw [hr]
  unfold parP at hr
  refine (callsIn_wide (n := 5)).1 ?_
  refine callsIn_of_wp_marks Tryd.func16 rfl trivial ?_ rfl
  simp only [Tryd.ntmps16, List.size_toArray, List.length_cons, List.length_nil, Nat.reduceAdd, Nat.reduceSub, Array.replicate_succ, Array.replicate_zero, List.push_toArray, List.append_toArray, List.nil_append, List.cons_append]
  refine wpIn_wide.2 ?_
  by_cases h0 : 3000 < line.length
  · rw [if_pos h0] at hr
    subst hr
    have h0i : 3000 < (line.length : Int) := by omega
    clear h0
    go_wp2_with fail
    go_step3
    go_wp2_with fail
    rw [Exit.noGoto_ret]
    refine ret_nomark (by simp [results, Tryd.results16, go_sem]; try rfl) ?_
    exact ParsePost.err _ _ (((Below.refl _ _).alloc (Nat.le_refl _) _).alloc (by simp) _)
  rw [if_neg h0] at hr
  have Hr := Lib.hid hr
  have h0i : ¬ 3000 < (line.length : Int) := by omega
  clear hr
  go_wp2_with fail
  go_step3
  have Cs : Hid (∀ W, Calls Tryd.prog 36 #[.string (bs line), .string ⟨#[32]⟩] W (SplitPost 32 line W)) := Lib.hid (fun W => split_seq 32 line W)
  have HP0 := Lib.hid (parse_start w)
  have Hsz0 := Lib.hid (show (startW w).heap.size = w.heap.size + 6 by unfold startW; simp)
  go_wp2_with fail
  go_step3
  rw [show ((((((w.alloc (.cells #[.string ⟨#[]⟩, .int .i64 0, .int .i64 0, .slice none 0 0] 24)).alloc (.cells #[.int .i64 0, .int .i64 0] 34)).alloc (.cells #[.string ⟨#[]⟩, .int .i64 0, .int .i64 0, .slice none 0 0] 24)).alloc (.cells #[.slice none 0 0] 64)).alloc (.cells #[.int .i64 0] 3)).alloc (.cells #[.int .i64 (-1)] 3)) = startW w from rfl]
  generalize startW w = W0 at HP0 Hsz0 ⊢
  go_wp2_with (go_at_call 36; refine (Cs.out _).mono ?_; rintro e w1 ⟨b1, b2, b3, rfl, hr1⟩; have HR1 := Lib.hid hr1; clear hr1)
  obtain ⟨hs1, hs2, hs3, h12, h32, hl1, hl2, hl3, hb1⟩ := HR1.out
  simp only [Nat.add_assoc, Nat.reduceAdd]
  refine (wpIn_wide (n := 5)).1 ?_
  have hW1 : W0.heap.size ≤ w1.heap.size := hb1.size
  refine wp_cells (α := List UInt8) (enc := fun x => #[Value.string (bs x)]) (b := b2) (Kp := fun A B => B.heap[b1]? = A.heap[b1]? ∧ B.heap[b2]? = A.heap[b2]? ∧ B.heap[b3]? = A.heap[b3]?) (S := fun xs => xs = splitL 32 line) (Sp := fun pre => pre <+: splitL 32 line) rfl (by decide) (gf := 54)
    (lb := #[.pointer (some ⟨b1, 0, none⟩), .pointer (some ⟨b2, 0, none⟩), .pointer (some ⟨b3, 0, none⟩)]) rfl trivial (enters_of Tryd.func54 (by kernel_rfl) rfl) (split_cells 4 (by decide) b1 b2 b3 32 line hsz w1 hs1 hs2 hs3 h12 h32) (Below.refl _ _) hs2.lt
    (fun h k => ⟨k.1.trans h.1, k.2.1.trans h.2.1, k.2.2.trans h.2.2⟩) (fun W l o hl => ⟨World.putObj_heap_other (Nat.ne_of_lt (Nat.lt_of_lt_of_le hs1.lt hl)), World.putObj_heap_other (Nat.ne_of_lt (Nat.lt_of_lt_of_le hs2.lt hl)), World.putObj_heap_other (Nat.ne_of_lt (Nat.lt_of_lt_of_le hs3.lt hl))⟩) (fun _ => rfl)
    (fun pre W => ParI w b2 w1.heap.size pre W) (fun c pre W => ParX w c pre W) (parI_own _ _ _ (by have := Hsz0.out; omega)) (parX_own _ _ (by have := Hsz0.out; omega)) (parI_set _ _ _ (by have := Hsz0.out; omega)) ?start (fun x => { tmps := #[.string (bs line), undef, .pointer (some ⟨w.heap.size, 0, none⟩), .pointer (some ⟨w.heap.size + 1, 0, none⟩), .pointer (some ⟨w.heap.size + 2, 0, none⟩), .pointer (some ⟨w.heap.size + 3, 0, none⟩), .pointer (some ⟨w.heap.size + 4, 0, none⟩), .pointer (some ⟨w.heap.size + 5, 0, none⟩), .string (bs x), undef, undef, .string (bs line), .int .i64 (line.length : Int), .bool (decide (3000 < (line.length : Int))), undef, undef, .string (bs line), .func (.func 54) #[] #[.pointer (some ⟨b1, 0, none⟩), .pointer (some ⟨b2, 0, none⟩), .pointer (some ⟨b3, 0, none⟩)], .string (bs x), undef, undef, undef, undef, undef, undef, undef, undef, undef, undef, undef, undef, undef, undef, undef, undef, undef, undef, undef, undef, undef, undef, undef, undef, undef, undef, undef, undef, undef, undef, undef, undef, undef, undef, undef, undef, undef, undef, undef, undef, undef, undef, undef, undef, undef, undef, undef, undef, undef, undef, undef, undef, undef, undef, undef, undef, undef], defers := [] }) ?assign ?body ?done ?stop
  case start =>
    obtain ⟨q1, q2, q3, q4, q5, q6, q7⟩ := HP0.out
    have hk : ∀ g t cs, Blk W0 g t cs → Blk w1 g t cs := fun g t cs h => h.below hb1 h.lt
    exact ⟨⟨false, [], 0, OpN.none⟩, ⟨rfl, rfl, by simp, fun _ => rfl⟩, ⟨.slice none 0 0, .slice none 0 0, [], _, hk _ _ _ q1, World.ownsRow_nil _ _ _ _, hk _ _ _ q2, NextV.of_own (base := w.heap.size) (World.ownsRow_nil _ _ _ _), trivial, hk _ _ _ q3, hk _ _ _ q4, hk _ _ _ q5, hk _ _ _ q6, hs2, q7.trans (hb1.mono q7.size)⟩, Nat.le_refl _⟩
  case assign =>
    intro l x W K hK
    gi_wp2
    exact hK
  case body =>
    rintro l pre x W ⟨st, hinv, hps, hn1⟩ hsp
    obtain ⟨vb, nv, vs, z, p1, p2, p3, p4, p5, p6, p7, p8, p9, p10, p11⟩ := hps
    have htot := tot_prefix hsp
    rw [tot_snoc, tot_split] at htot
    have hL0 := Hsz0.out
    by_cases hpre : pre = []
    · have hst := hinv.2.2.2 hpre
      subst hst
      subst hpre
      have p1 : Blk W (w.heap.size + 2) 24 #[.string ⟨#[]⟩, .int .i64 0, .int .i64 0, vb] := p1
      have p6 : Blk W (w.heap.size + 4) 3 #[.int .i64 0] := p6
      have x0 := p1.cell 0
      have a0 := p6.cell 0
      rcases hp : partsR x with _ | ⟨i, nn, b⟩
      · have hlook := fun (W : World) (m : Nat) (h : W.heap[m]? = some (.map entsE 9)) => run_word x W m true h
        rw [hp] at hlook
        have Hlook : Hid (∀ (W : World) (m : Nat), W.heap[m]? = some (.map entsE 9) → (Instr.lookup 55 (.map (some m)) (.string (bs x)) true).run Tryd.prog W = .ok (.tuple #[.agg #[.bool false, .bool false, .bool false], .bool false]) W) := Lib.hid hlook
        have P7 := Lib.hid p7
        have P8 := Lib.hid p8
        have P9 := Lib.hid p9
        have P11 := Lib.hid p11
        clear hlook p1 p2 p3 p4 p5 p6 p7 p8 p9 p10 p11
        gi_wp2_with (refine ⟨trivial, ?_⟩; gi_at_call 28; refine (CallsIn.inRound l (callsIn_wide.2 (lines_words' _))).mono ?_; rintro e w2 ⟨m, rfl, hm, hb2⟩; have hlk := Hlook.out w2 m hm; have b0 := ((P7.out.below hb2 P7.out.lt).alloc (.cells #[.bool false, .bool false, .bool false] 54)).cell 0; have fb0 := ((P7.out.below hb2 P7.out.lt).alloc (.cells #[.bool false, .bool false, .bool false] 54)).frozen 0)
        have hk : ∀ g t cs, Blk W g t cs → Blk (w2.alloc (.cells #[.bool false, .bool false, .bool false] 54)) g t cs := fun g t cs h => (h.below hb2 h.lt).alloc _
        have hstp : Stp W0.heap.size W ((w2.alloc (.cells #[.bool false, .bool false, .bool false] 54)).setCell ⟨w.heap.size + 5, 0, none⟩ (.int .i64 0)) := ((Stp.of_below hb2).alloc _).set (by show w.heap.size + 5 < W0.heap.size; omega) _
        have hne5 : ∀ g, g < w.heap.size + 5 → g ≠ w.heap.size + 5 := fun g hg => Nat.ne_of_lt hg
        have hBW := P11.out.size
        refine ⟨hstp.keeps hW1, rfl, 0, ?_, by omega, (hk _ _ _ P7.out).set_ 0 _, (hk _ _ _ P8.out).far (p := ⟨w.heap.size + 5, 0, none⟩) (hne5 _ (by omega)) _, (hk _ _ _ P9.out).far (p := ⟨w.heap.size + 5, 0, none⟩) (hne5 _ (by omega)) _, ((P11.out.trans (hb2.mono hBW)).alloc (Nat.le_trans hBW hb2.size) _).setCell (p := ⟨w.heap.size + 5, 0, none⟩) (by show w.heap.size ≤ w.heap.size + 5; omega) _⟩
        rw [runP_snoc, hinv.1]
        show stepP _ x = _
        unfold stepP
        rw [if_pos rfl, hp]
      · have hlook := fun (W : World) (m : Nat) (h : W.heap[m]? = some (.map entsE 9)) => run_word x W m true h
        rw [hp] at hlook
        have Hlook : Hid (∀ (W : World) (m : Nat), W.heap[m]? = some (.map entsE 9) → (Instr.lookup 55 (.map (some m)) (.string (bs x)) true).run Tryd.prog W = .ok (.tuple #[.agg #[.bool i, .bool nn, .bool b], .bool true]) W) := Lib.hid hlook
        have Ctk := Lib.hid (fun W => lines_takes x i nn b hp (w.heap.size + 2) W)
        have P1 := Lib.hid p1; have P3 := Lib.hid p3; have P6 := Lib.hid p6
        have P7 := Lib.hid p7
        have P8 := Lib.hid p8
        have P9 := Lib.hid p9
        have P10 := Lib.hid p10
        have P11 := Lib.hid p11
        have P2 := Lib.hid p2
        have Htot := Lib.hid htot
        have HX := Lib.hid (show tot [] + (x.length + 1) ≤ line.length + 1 from htot)
        have hxl : x.length ≤ 3000 := by have := htot; simp [tot] at this; omega
        clear hlook p1 p2 p3 p4 p5 p6 p7 p8 p9 p10 p11 htot
        gi_wp2_with (first
          | (refine ⟨trivial, ?_⟩; gi_at_call 28; refine (CallsIn.inRound l (callsIn_wide.2 (lines_words' _))).mono ?_; rintro e w2 ⟨m, rfl, hm, hb2⟩; have hlk := Hlook.out w2 m hm; have HB2 := Lib.hid hb2; clear hb2)
          | (refine ⟨trivial, ?_⟩; gi_at_call 37; refine (CallsIn.inRound l (callsIn_wide.2 (Ctk.out _))).mono ?_; rintro e w4 ⟨nv4, vs4, rfl, hnv4, hrd4, hb4⟩; have HK4 := Lib.hid (show ∀ g t cs, Blk W g t cs → Blk w4 g t cs from fun g t cs h => ((h.below HB2.out h.lt).alloc (.cells #[.bool i, .bool nn, .bool b] 54)).below hb4 ((h.below HB2.out h.lt).alloc (.cells #[.bool i, .bool nn, .bool b] 54)).lt); have HS4 := Lib.hid (((Stp.of_below (L := W0.heap.size) HB2.out).alloc (.cells #[.bool i, .bool nn, .bool b] 54)).trans (Stp.of_below hb4)); have HBW4 := Lib.hid ((P11.out.trans (HB2.out.mono P11.out.size)).alloc (Nat.le_trans P11.out.size HB2.out.size) (.cells #[.bool i, .bool nn, .bool b] 54) |>.trans (hb4.mono (by have h1 := P11.out.size; have h2 := HB2.out.size; rw [World.size_alloc]; omega))); obtain ⟨A4, c4, rfl, hc4, hm4, hn4⟩ := hnv4; have y0 := (HK4.out _ _ _ P1.out).cell 0; have g0 := (HK4.out _ _ _ P1.out).frozen 0; have y1 := (HK4.out _ _ _ P3.out).cell 0; have g1 := (HK4.out _ _ _ P3.out).frozen 0; have y2 := (HK4.out _ _ _ P6.out).cell 0; have g2 := (HK4.out _ _ _ P6.out).frozen 0; have HR4 := Lib.hid hrd4; have HN4 := Lib.hid hn4; clear hrd4 hn4 hb4))
        have z1 := ((HK4.out _ _ _ P1.out).set_ 0 (.string (bs x)))
        have h32' : w.heap.size + 3 ≠ w.heap.size + 2 := by omega
        have h42' : w.heap.size + 4 ≠ w.heap.size + 2 := by omega
        have h43' : w.heap.size + 4 ≠ w.heap.size + 3 := by omega
        have hposI : ((0 + (x.length + 1) : Nat) : Int) = (x.length : Int) + 1 := by omega
        have fin := parI_put (w := w) (s2 := b2) (n1 := w1.heap.size) (L := W0.heap.size) (pre := [x]) (st := ⟨true, lettersR (i, nn, b), 0 + (x.length + 1), ⟨x, 0, 0, []⟩⟩) (wa := w4) (vb := vb) (nv := .slice A4 vs4.length c4) (vs := vs4) (z := z) (csb := #[.string ⟨#[]⟩, .int .i64 0, .int .i64 0, vb]) (k := 0) (u := .string (bs x)) (n0 := nv) (a0 := .int .i64 0)
          (by omega) (HK4.out _ _ _ P1.out) rfl (own_kept P2.out HK4.out) (HK4.out _ _ _ P3.out) ⟨A4, c4, rfl, hc4, hm4, HN4.out⟩ HR4.out (HK4.out _ _ _ P6.out) (HK4.out _ _ _ P7.out) (HK4.out _ _ _ P8.out) (HK4.out _ _ _ P9.out) (HK4.out _ _ _ P10.out) HBW4.out (Nat.le_trans hn1 HS4.out.size)
          ⟨by
            rw [show ([x] : List (List UInt8)) = [] ++ [x] from rfl, runP_snoc, hinv.1]
            show stepP _ x = _
            unfold stepP
            rw [if_pos rfl, hp], by simp [tot], by simp, by simp⟩
        rw [hposI] at fin
        have hst5 := ((HS4.out.set (p := ⟨w.heap.size + 2, 0, none⟩) (by show w.heap.size + 2 < W0.heap.size; omega) (.string (bs x))).set (p := ⟨w.heap.size + 3, 0, none⟩) (by show w.heap.size + 3 < W0.heap.size; omega) (.slice A4 vs4.length c4)).set (p := ⟨w.heap.size + 4, 0, none⟩) (by show w.heap.size + 4 < W0.heap.size; omega) (.int .i64 ((x.length : Int) + 1))
        exact ⟨hst5.keeps hW1, hst5.kept hl1 hl2 hl3 (Nat.lt_of_lt_of_le hs1.lt hn1) (Nat.lt_of_lt_of_le hs2.lt hn1) (Nat.lt_of_lt_of_le hs3.lt hn1), fin⟩
    · have hstd : st.started = true := hinv.2.2.1.2 hpre
      have hpos := hinv.2.1
      have hpp : 1 ≤ st.pos := by
        rw [hpos]
        cases pre with
        | nil => exact absurd rfl hpre
        | cons y l => simp [tot]; omega
      have hpu : st.pos + (x.length + 1) ≤ line.length + 1 := by rw [hpos]; exact htot
      have hnext : ∀ r, stepP st x = r → runP (pre ++ [x]) = r := fun r h => by rw [runP_snoc, hinv.1]; exact h
      have hq0 : ((st.pos : Int) == 0) = false := by rw [beq_eq_false_iff_ne]; omega
      have a0 := p6.cell 0
      obtain ⟨An, cn, rfl, hcn, hcm, hnx⟩ := p4
      have n0 := p3.cell 0
      cases hst : st.t with
      | nil =>
        rw [hst] at p5
        obtain rfl : vs = [] := by cases vs with | nil => rfl | cons a l => exact p5.elim
        have n0 : W.cell? ⟨w.heap.size + 3, 0, none⟩ = some (.slice An 0 cn) := n0
        obtain ⟨q, hq⟩ : ∃ q, q = st.pos - 1 := ⟨_, rfl⟩
        have hw : IntKind.i64.wrap ((st.pos : Int) - 1) = (q : Int) := by rw [IntKind.wrap_i64]; omega
        have hw2 : (st.pos : Int) - 1 = (q : Int) := by omega
        have hrun : runP (pre ++ [x]) = .error q := hnext _ (by unfold stepP; rw [if_neg (by rw [hstd]; decide), hst, hq])
        have hq9 : q ≤ 100000 := by omega
        have b0 := p7.cell 0
        have fb0 := p7.frozen 0
        have P7 := Lib.hid p7; have P8 := Lib.hid p8; have P9 := Lib.hid p9; have P11 := Lib.hid p11
        have HQ := Lib.hid hrun
        clear hq p1 p2 p3 p5 p6 p7 p8 p9 p10 p11 hnx hinv hrun hnext hpos
        gi_wp2_with fail
        have hst5 := (Stp.refl W0.heap.size W).set (p := ⟨w.heap.size + 5, 0, none⟩) (by show w.heap.size + 5 < W0.heap.size; omega) (.int .i64 (q : Int))
        exact ⟨hst5.keeps hW1, parX_put HQ.out hq9 P7.out P8.out P9.out P11.out⟩
      | cons c0 t0 =>
        rw [hst] at p5
        obtain ⟨v0, vs0, rfl⟩ : ∃ v0 vs0, vs = v0 :: vs0 := by cases vs with | nil => exact p5.elim | cons a l => exact ⟨a, l, rfl⟩
        obtain ⟨hrd, hrds⟩ := p5
        obtain ⟨gv, kv, csv, rfl, hgv, hcv⟩ := hnx (List.cons_ne_nil _ _)
        have hv0 := hcv 0 v0 rfl
        have hvr : ∀ j v, vs0[j]? = some v → csv[kv + 1 + j]? = some v := fun j v h => by have := hcv (j + 1) v (by simpa using h); rw [← this]; congr 1; omega
        obtain ⟨nr, hnr⟩ : ∃ nr, nr = vs0.length := ⟨_, rfl⟩
        have hlen : (v0 :: vs0).length = nr + 1 := by rw [hnr]; rfl
        rw [hlen] at hcn n0
        have hnz : (((nr + 1 : Nat) : Int) == 0) = false := by rw [beq_eq_false_iff_ne]; omega
        have hnz' : ((nr : Int) + 1 == 0) = false := by rw [beq_eq_false_iff_ne]; omega
        have e0 : W.cell? ⟨gv, kv, none⟩ = some v0 := (hgv.cell kv).trans hv0
        have hin : (1 : Int) ≤ (nr : Int) + 1 := by omega
        have hin2 : (nr : Int) + 1 ≤ (cn : Int) := by omega
        have hin3 : (0 : Int) < (nr : Int) + 1 := by omega
        obtain ⟨Ab, cb, rfl, _⟩ := own_sl p2
        have hxs : x.length ≤ 10000 := by omega
        have HG := Lib.hid hgv; have HVR := Lib.hid hvr; have HRS := Lib.hid hrds; have HNR := Lib.hid hnr
        have P1 := Lib.hid p1; have P2 := Lib.hid p2; have P3 := Lib.hid p3; have P6 := Lib.hid p6; have P7 := Lib.hid p7; have P8 := Lib.hid p8; have P9 := Lib.hid p9; have P10 := Lib.hid p10; have P11 := Lib.hid p11
        have HPOS := Lib.hid hpos
        have HNX := Lib.hid hnext
        have hposI : ((st.pos + (x.length + 1) : Nat) : Int) = (st.pos : Int) + ((x.length : Int) + 1) := by omega
        have HPI := Lib.hid hposI
        have HCN := Lib.hid hcn
        have HST := Lib.hid hst
        have HSTD := Lib.hid hstd
        have ne2 : ∀ g, g ≠ w.heap.size + 2 → some (w.heap.size + 2) ≠ some g := fun g h e => by cases e; exact h rfl
        clear p1 p2 p3 p6 p7 p8 p9 p10 p11 hnx hgv hcv hv0 hvr hrds hlen hnr hpos hnext hposI hcn hst hstd
        unfold RdV at hrd
        by_cases hc0 : c0 = 105
        · rw [if_pos hc0] at hrd
          obtain ⟨g0, rfl, hg0⟩ := hrd
          obtain ⟨nv, nb, hn⟩ : ∃ nv nb, numR x = (nv, nb) := ⟨_, _, rfl⟩
          have Crd := Lib.hid (lines_readnum x g0 (w.heap.size + 2) 1 #[.string (bs st.o.w), .int .i64 (st.o.id : Int), .int .i64 (st.o.n : Int), .slice Ab st.o.b.length cb] W hxs hg0 P1.out .i64 _ rfl)
          rw [hn] at Crd
          clear hg0
          cases nb with
          | false =>
            have HQ := Lib.hid (HNX.out _ (show stepP st x = .error st.pos by unfold stepP; rw [if_neg (by rw [HSTD.out]; decide), HST.out]; simp only [readR]; rw [if_pos hc0, hn]; rfl))
            have hq9 : st.pos ≤ 100000 := by omega
            clear hn
            gi_wp2_with (refine ⟨trivial, ?_⟩; gi_at_call 47; refine (CallsIn.inRound l (callsIn_wide.2 Crd.out)).mono ?_; rintro e w2 ⟨rfl, ht2⟩; have P7b := Lib.hid (P7.out.grown ht2.1 (ne2 _ (by omega))); have P6b := Lib.hid (P6.out.grown ht2.1 (ne2 _ (by omega))); have b0 := P7b.out.cell 0; have fb0 := P7b.out.frozen 0; have a0' := P6b.out.cell 0; have HT2 := Lib.hid ht2; clear ht2)
            have hst5 := ((Stp.refl W0.heap.size W).turned (by omega) HT2.out.1).set (p := ⟨w.heap.size + 5, 0, none⟩) (by show w.heap.size + 5 < W0.heap.size; omega) (.int .i64 (st.pos : Int))
            exact ⟨hst5.keeps hW1, parX_put HQ.out hq9 P7b.out (P8.out.grown HT2.out.1 (ne2 _ (by omega))) (P9.out.grown HT2.out.1 (ne2 _ (by omega))) (P11.out.grown HT2.out.1 P11.out.size (fun k e => by cases e; omega))⟩
          | true =>
            have HQ := Lib.hid (HNX.out _ (show stepP st x = .ok ⟨true, t0, st.pos + (x.length + 1), { st.o with id := nv }⟩ by unfold stepP; rw [if_neg (by rw [HSTD.out]; decide), HST.out]; simp only [readR]; rw [if_pos hc0, hn]; rfl))
            clear hn
            gi_wp2_with (refine ⟨trivial, ?_⟩; gi_at_call 47; refine (CallsIn.inRound l (callsIn_wide.2 Crd.out)).mono ?_; rintro e w2 ⟨rfl, ht2⟩; have P3b := Lib.hid (P3.out.grown ht2.1 (ne2 _ (by omega))); have P6b := Lib.hid (P6.out.grown ht2.1 (ne2 _ (by omega))); have n0' := P3b.out.cell 0; have fn0 := P3b.out.frozen 0; have a0' := P6b.out.cell 0; have fa0 := P6b.out.frozen 0; have HT2 := Lib.hid ht2; clear ht2)
            · have hnv : NextV w2 (.slice (some ⟨gv, kv, none⟩) vs0.length 0) vs0 := ⟨_, _, rfl, by have h1 := HCN.out; have h2 := HNR.out; omega, Nat.zero_le _, fun hv => absurd (List.eq_nil_of_length_eq_zero (by have h1 := HCN.out; have h2 := HNR.out; omega)) hv⟩
              have hgr := HT2.out.1
              have fin := parI_put2 (w := w) (s2 := b2) (n1 := w1.heap.size) (L := W0.heap.size) (pre := pre ++ [x]) (st := ⟨true, t0, st.pos + (x.length + 1), { st.o with id := nv }⟩) (wa := w2) (vb := .slice Ab st.o.b.length cb) (nv := .slice (some ⟨gv, kv, none⟩) vs0.length 0) (vs := vs0) (z := z)
                (by omega) HT2.out.2 (own_kept5 P2.out (fun g cs h => h.grown hgr (ne2 g (blk_ne h P1.out (by decide))))) P3b.out hnv (Rds.kept (fun g t cs ht h => h.grown hgr (ne2 g (blk_ne h P1.out (by rcases ht with rfl | rfl <;> decide)))) _ _ HRS.out) P6b.out (P7.out.grown hgr (ne2 _ (by omega))) (P8.out.grown hgr (ne2 _ (by omega))) (P9.out.grown hgr (ne2 _ (by omega))) (P10.out.grown hgr (ne2 _ (blk_ne P10.out P1.out (by decide))))
                (P11.out.grown hgr P11.out.size (fun k e => by cases e; omega)) (Nat.le_trans hn1 hgr.size)
                ⟨HQ.out, by rw [tot_snoc, ← HPOS.out], by simp, by simp⟩
              dsimp only at fin
              rw [HPI.out] at fin
              have hst5 := (((Stp.refl W0.heap.size W).turned (by omega) hgr).set (p := ⟨w.heap.size + 3, 0, none⟩) (by show w.heap.size + 3 < W0.heap.size; omega) (.slice (some ⟨gv, kv, none⟩) vs0.length 0)).set (p := ⟨w.heap.size + 4, 0, none⟩) (by show w.heap.size + 4 < W0.heap.size; omega) (.int .i64 ((st.pos : Int) + ((x.length : Int) + 1)))
              exact ⟨hst5.keeps hW1, hst5.kept hl1 hl2 hl3 (Nat.lt_of_lt_of_le hs1.lt hn1) (Nat.lt_of_lt_of_le hs2.lt hn1) (Nat.lt_of_lt_of_le hs3.lt hn1), fin⟩
            · have hnv : NextV w2 (.slice (some ⟨gv, kv + 1, none⟩) vs0.length (cn - 1)) vs0 := ⟨_, _, rfl, by have h1 := HCN.out; have h2 := HNR.out; omega, Nat.le_trans (Nat.sub_le _ _) hcm, fun _ => ⟨gv, kv + 1, csv, rfl, HG.out.grown HT2.out.1 (ne2 _ (blk_ne HG.out P1.out (by decide))), HVR.out⟩⟩
              have hgr := HT2.out.1
              have fin := parI_put2 (w := w) (s2 := b2) (n1 := w1.heap.size) (L := W0.heap.size) (pre := pre ++ [x]) (st := ⟨true, t0, st.pos + (x.length + 1), { st.o with id := nv }⟩) (wa := w2) (vb := .slice Ab st.o.b.length cb) (nv := .slice (some ⟨gv, kv + 1, none⟩) vs0.length (cn - 1)) (vs := vs0) (z := z)
                (by omega) HT2.out.2 (own_kept5 P2.out (fun g cs h => h.grown hgr (ne2 g (blk_ne h P1.out (by decide))))) P3b.out hnv (Rds.kept (fun g t cs ht h => h.grown hgr (ne2 g (blk_ne h P1.out (by rcases ht with rfl | rfl <;> decide)))) _ _ HRS.out) P6b.out (P7.out.grown hgr (ne2 _ (by omega))) (P8.out.grown hgr (ne2 _ (by omega))) (P9.out.grown hgr (ne2 _ (by omega))) (P10.out.grown hgr (ne2 _ (blk_ne P10.out P1.out (by decide))))
                (P11.out.grown hgr P11.out.size (fun k e => by cases e; omega)) (Nat.le_trans hn1 hgr.size)
                ⟨HQ.out, by rw [tot_snoc, ← HPOS.out], by simp, by simp⟩
              dsimp only at fin
              rw [HPI.out] at fin
              have hst5 := (((Stp.refl W0.heap.size W).turned (by omega) hgr).set (p := ⟨w.heap.size + 3, 0, none⟩) (by show w.heap.size + 3 < W0.heap.size; omega) (.slice (some ⟨gv, kv + 1, none⟩) vs0.length (cn - 1))).set (p := ⟨w.heap.size + 4, 0, none⟩) (by show w.heap.size + 4 < W0.heap.size; omega) (.int .i64 ((st.pos : Int) + ((x.length : Int) + 1)))
              exact ⟨hst5.keeps hW1, hst5.kept hl1 hl2 hl3 (Nat.lt_of_lt_of_le hs1.lt hn1) (Nat.lt_of_lt_of_le hs2.lt hn1) (Nat.lt_of_lt_of_le hs3.lt hn1), fin⟩
        · rw [if_neg hc0] at hrd
          by_cases hc1 : c0 = 110
          · rw [if_pos hc1] at hrd
            obtain ⟨g0, rfl, hg0⟩ := hrd
            obtain ⟨nv, nb, hn⟩ : ∃ nv nb, numR x = (nv, nb) := ⟨_, _, rfl⟩
            have Crd := Lib.hid (lines_readnum x g0 (w.heap.size + 2) 2 #[.string (bs st.o.w), .int .i64 (st.o.id : Int), .int .i64 (st.o.n : Int), .slice Ab st.o.b.length cb] W hxs hg0 P1.out .i64 _ rfl)
            rw [hn] at Crd
            clear hg0
            cases nb with
            | false =>
              have HQ := Lib.hid (HNX.out _ (show stepP st x = .error st.pos by unfold stepP; rw [if_neg (by rw [HSTD.out]; decide), HST.out]; simp only [readR]; rw [if_neg hc0, if_pos hc1, hn]; rfl))
              have hq9 : st.pos ≤ 100000 := by omega
              clear hn
              gi_wp2_with (refine ⟨trivial, ?_⟩; gi_at_call 47; refine (CallsIn.inRound l (callsIn_wide.2 Crd.out)).mono ?_; rintro e w2 ⟨rfl, ht2⟩; have P7b := Lib.hid (P7.out.grown ht2.1 (ne2 _ (by omega))); have P6b := Lib.hid (P6.out.grown ht2.1 (ne2 _ (by omega))); have b0 := P7b.out.cell 0; have fb0 := P7b.out.frozen 0; have a0' := P6b.out.cell 0; have HT2 := Lib.hid ht2; clear ht2)
              have hst5 := ((Stp.refl W0.heap.size W).turned (by omega) HT2.out.1).set (p := ⟨w.heap.size + 5, 0, none⟩) (by show w.heap.size + 5 < W0.heap.size; omega) (.int .i64 (st.pos : Int))
              exact ⟨hst5.keeps hW1, parX_put HQ.out hq9 P7b.out (P8.out.grown HT2.out.1 (ne2 _ (by omega))) (P9.out.grown HT2.out.1 (ne2 _ (by omega))) (P11.out.grown HT2.out.1 P11.out.size (fun k e => by cases e; omega))⟩
            | true =>
              have HQ := Lib.hid (HNX.out _ (show stepP st x = .ok ⟨true, t0, st.pos + (x.length + 1), { st.o with n := nv }⟩ by unfold stepP; rw [if_neg (by rw [HSTD.out]; decide), HST.out]; simp only [readR]; rw [if_neg hc0, if_pos hc1, hn]; rfl))
              clear hn
              gi_wp2_with (refine ⟨trivial, ?_⟩; gi_at_call 47; refine (CallsIn.inRound l (callsIn_wide.2 Crd.out)).mono ?_; rintro e w2 ⟨rfl, ht2⟩; have P3b := Lib.hid (P3.out.grown ht2.1 (ne2 _ (by omega))); have P6b := Lib.hid (P6.out.grown ht2.1 (ne2 _ (by omega))); have n0' := P3b.out.cell 0; have fn0 := P3b.out.frozen 0; have a0' := P6b.out.cell 0; have fa0 := P6b.out.frozen 0; have HT2 := Lib.hid ht2; clear ht2)
              · have hnv : NextV w2 (.slice (some ⟨gv, kv, none⟩) vs0.length 0) vs0 := ⟨_, _, rfl, by have h1 := HCN.out; have h2 := HNR.out; omega, Nat.zero_le _, fun hv => absurd (List.eq_nil_of_length_eq_zero (by have h1 := HCN.out; have h2 := HNR.out; omega)) hv⟩
                have hgr := HT2.out.1
                have fin := parI_put2 (w := w) (s2 := b2) (n1 := w1.heap.size) (L := W0.heap.size) (pre := pre ++ [x]) (st := ⟨true, t0, st.pos + (x.length + 1), { st.o with n := nv }⟩) (wa := w2) (vb := .slice Ab st.o.b.length cb) (nv := .slice (some ⟨gv, kv, none⟩) vs0.length 0) (vs := vs0) (z := z)
                  (by omega) HT2.out.2 (own_kept5 P2.out (fun g cs h => h.grown hgr (ne2 g (blk_ne h P1.out (by decide))))) P3b.out hnv (Rds.kept (fun g t cs ht h => h.grown hgr (ne2 g (blk_ne h P1.out (by rcases ht with rfl | rfl <;> decide)))) _ _ HRS.out) P6b.out (P7.out.grown hgr (ne2 _ (by omega))) (P8.out.grown hgr (ne2 _ (by omega))) (P9.out.grown hgr (ne2 _ (by omega))) (P10.out.grown hgr (ne2 _ (blk_ne P10.out P1.out (by decide))))
                  (P11.out.grown hgr P11.out.size (fun k e => by cases e; omega)) (Nat.le_trans hn1 hgr.size)
                  ⟨HQ.out, by rw [tot_snoc, ← HPOS.out], by simp, by simp⟩
                dsimp only at fin
                rw [HPI.out] at fin
                have hst5 := (((Stp.refl W0.heap.size W).turned (by omega) hgr).set (p := ⟨w.heap.size + 3, 0, none⟩) (by show w.heap.size + 3 < W0.heap.size; omega) (.slice (some ⟨gv, kv, none⟩) vs0.length 0)).set (p := ⟨w.heap.size + 4, 0, none⟩) (by show w.heap.size + 4 < W0.heap.size; omega) (.int .i64 ((st.pos : Int) + ((x.length : Int) + 1)))
                exact ⟨hst5.keeps hW1, hst5.kept hl1 hl2 hl3 (Nat.lt_of_lt_of_le hs1.lt hn1) (Nat.lt_of_lt_of_le hs2.lt hn1) (Nat.lt_of_lt_of_le hs3.lt hn1), fin⟩
              · have hnv : NextV w2 (.slice (some ⟨gv, kv + 1, none⟩) vs0.length (cn - 1)) vs0 := ⟨_, _, rfl, by have h1 := HCN.out; have h2 := HNR.out; omega, Nat.le_trans (Nat.sub_le _ _) hcm, fun _ => ⟨gv, kv + 1, csv, rfl, HG.out.grown HT2.out.1 (ne2 _ (blk_ne HG.out P1.out (by decide))), HVR.out⟩⟩
                have hgr := HT2.out.1
                have fin := parI_put2 (w := w) (s2 := b2) (n1 := w1.heap.size) (L := W0.heap.size) (pre := pre ++ [x]) (st := ⟨true, t0, st.pos + (x.length + 1), { st.o with n := nv }⟩) (wa := w2) (vb := .slice Ab st.o.b.length cb) (nv := .slice (some ⟨gv, kv + 1, none⟩) vs0.length (cn - 1)) (vs := vs0) (z := z)
                  (by omega) HT2.out.2 (own_kept5 P2.out (fun g cs h => h.grown hgr (ne2 g (blk_ne h P1.out (by decide))))) P3b.out hnv (Rds.kept (fun g t cs ht h => h.grown hgr (ne2 g (blk_ne h P1.out (by rcases ht with rfl | rfl <;> decide)))) _ _ HRS.out) P6b.out (P7.out.grown hgr (ne2 _ (by omega))) (P8.out.grown hgr (ne2 _ (by omega))) (P9.out.grown hgr (ne2 _ (by omega))) (P10.out.grown hgr (ne2 _ (blk_ne P10.out P1.out (by decide))))
                  (P11.out.grown hgr P11.out.size (fun k e => by cases e; omega)) (Nat.le_trans hn1 hgr.size)
                  ⟨HQ.out, by rw [tot_snoc, ← HPOS.out], by simp, by simp⟩
                dsimp only at fin
                rw [HPI.out] at fin
                have hst5 := (((Stp.refl W0.heap.size W).turned (by omega) hgr).set (p := ⟨w.heap.size + 3, 0, none⟩) (by show w.heap.size + 3 < W0.heap.size; omega) (.slice (some ⟨gv, kv + 1, none⟩) vs0.length (cn - 1))).set (p := ⟨w.heap.size + 4, 0, none⟩) (by show w.heap.size + 4 < W0.heap.size; omega) (.int .i64 ((st.pos : Int) + ((x.length : Int) + 1)))
                exact ⟨hst5.keeps hW1, hst5.kept hl1 hl2 hl3 (Nat.lt_of_lt_of_le hs1.lt hn1) (Nat.lt_of_lt_of_le hs2.lt hn1) (Nat.lt_of_lt_of_le hs3.lt hn1), fin⟩
          · rw [if_neg hc1] at hrd
            obtain ⟨g0, rfl, hg0⟩ := hrd
            obtain ⟨bl, nb, hn⟩ : ∃ bl nb, bytesR x = (bl, nb) := ⟨_, _, rfl⟩
            have Crd := Lib.hid (lines_readbytes x g0 (w.heap.size + 2) #[.string (bs st.o.w), .int .i64 (st.o.id : Int), .int .i64 (st.o.n : Int), .slice Ab st.o.b.length cb] W hxs hg0 P1.out _ _ _ rfl)
            rw [hn] at Crd
            clear hg0
            cases nb with
            | false =>
              have HQ := Lib.hid (HNX.out _ (show stepP st x = .error st.pos by unfold stepP; rw [if_neg (by rw [HSTD.out]; decide), HST.out]; simp only [readR]; rw [if_neg hc0, if_neg hc1, hn]; rfl))
              have hq9 : st.pos ≤ 100000 := by omega
              clear hn
              gi_wp2_with (refine ⟨trivial, ?_⟩; gi_at_call 49; refine (CallsIn.inRound l (callsIn_wide.2 Crd.out)).mono ?_; rintro e w2 ⟨v2, rfl, ho2, ht2⟩; have HO2 := Lib.hid (own_mono ho2 P11.out.size); clear ho2; have P7b := Lib.hid (P7.out.grown ht2.1 (ne2 _ (by omega))); have P6b := Lib.hid (P6.out.grown ht2.1 (ne2 _ (by omega))); have b0 := P7b.out.cell 0; have fb0 := P7b.out.frozen 0; have a0' := P6b.out.cell 0; have HT2 := Lib.hid ht2; clear ht2)
              have hst5 := ((Stp.refl W0.heap.size W).turned (by omega) HT2.out.1).set (p := ⟨w.heap.size + 5, 0, none⟩) (by show w.heap.size + 5 < W0.heap.size; omega) (.int .i64 (st.pos : Int))
              exact ⟨hst5.keeps hW1, parX_put HQ.out hq9 P7b.out (P8.out.grown HT2.out.1 (ne2 _ (by omega))) (P9.out.grown HT2.out.1 (ne2 _ (by omega))) (P11.out.grown HT2.out.1 P11.out.size (fun k e => by cases e; omega))⟩
            | true =>
              have HQ := Lib.hid (HNX.out _ (show stepP st x = .ok ⟨true, t0, st.pos + (x.length + 1), { st.o with b := bl }⟩ by unfold stepP; rw [if_neg (by rw [HSTD.out]; decide), HST.out]; simp only [readR]; rw [if_neg hc0, if_neg hc1, hn]; rfl))
              clear hn
              gi_wp2_with (refine ⟨trivial, ?_⟩; gi_at_call 49; refine (CallsIn.inRound l (callsIn_wide.2 Crd.out)).mono ?_; rintro e w2 ⟨v2, rfl, ho2, ht2⟩; have HO2 := Lib.hid (own_mono ho2 P11.out.size); clear ho2; have P3b := Lib.hid (P3.out.grown ht2.1 (ne2 _ (by omega))); have P6b := Lib.hid (P6.out.grown ht2.1 (ne2 _ (by omega))); have n0' := P3b.out.cell 0; have fn0 := P3b.out.frozen 0; have a0' := P6b.out.cell 0; have fa0 := P6b.out.frozen 0; have HT2 := Lib.hid ht2; clear ht2)
              · have hnv : NextV w2 (.slice (some ⟨gv, kv, none⟩) vs0.length 0) vs0 := ⟨_, _, rfl, by have h1 := HCN.out; have h2 := HNR.out; omega, Nat.zero_le _, fun hv => absurd (List.eq_nil_of_length_eq_zero (by have h1 := HCN.out; have h2 := HNR.out; omega)) hv⟩
                have hgr := HT2.out.1
                have fin := parI_put2 (w := w) (s2 := b2) (n1 := w1.heap.size) (L := W0.heap.size) (pre := pre ++ [x]) (st := ⟨true, t0, st.pos + (x.length + 1), { st.o with b := bl }⟩) (wa := w2) (vb := v2) (nv := .slice (some ⟨gv, kv, none⟩) vs0.length 0) (vs := vs0) (z := z)
                  (by omega) HT2.out.2 HO2.out P3b.out hnv (Rds.kept (fun g t cs ht h => h.grown hgr (ne2 g (blk_ne h P1.out (by rcases ht with rfl | rfl <;> decide)))) _ _ HRS.out) P6b.out (P7.out.grown hgr (ne2 _ (by omega))) (P8.out.grown hgr (ne2 _ (by omega))) (P9.out.grown hgr (ne2 _ (by omega))) (P10.out.grown hgr (ne2 _ (blk_ne P10.out P1.out (by decide))))
                  (P11.out.grown hgr P11.out.size (fun k e => by cases e; omega)) (Nat.le_trans hn1 hgr.size)
                  ⟨HQ.out, by rw [tot_snoc, ← HPOS.out], by simp, by simp⟩
                dsimp only at fin
                rw [HPI.out] at fin
                have hst5 := (((Stp.refl W0.heap.size W).turned (by omega) hgr).set (p := ⟨w.heap.size + 3, 0, none⟩) (by show w.heap.size + 3 < W0.heap.size; omega) (.slice (some ⟨gv, kv, none⟩) vs0.length 0)).set (p := ⟨w.heap.size + 4, 0, none⟩) (by show w.heap.size + 4 < W0.heap.size; omega) (.int .i64 ((st.pos : Int) + ((x.length : Int) + 1)))
                exact ⟨hst5.keeps hW1, hst5.kept hl1 hl2 hl3 (Nat.lt_of_lt_of_le hs1.lt hn1) (Nat.lt_of_lt_of_le hs2.lt hn1) (Nat.lt_of_lt_of_le hs3.lt hn1), fin⟩
              · have hnv : NextV w2 (.slice (some ⟨gv, kv + 1, none⟩) vs0.length (cn - 1)) vs0 := ⟨_, _, rfl, by have h1 := HCN.out; have h2 := HNR.out; omega, Nat.le_trans (Nat.sub_le _ _) hcm, fun _ => ⟨gv, kv + 1, csv, rfl, HG.out.grown HT2.out.1 (ne2 _ (blk_ne HG.out P1.out (by decide))), HVR.out⟩⟩
                have hgr := HT2.out.1
                have fin := parI_put2 (w := w) (s2 := b2) (n1 := w1.heap.size) (L := W0.heap.size) (pre := pre ++ [x]) (st := ⟨true, t0, st.pos + (x.length + 1), { st.o with b := bl }⟩) (wa := w2) (vb := v2) (nv := .slice (some ⟨gv, kv + 1, none⟩) vs0.length (cn - 1)) (vs := vs0) (z := z)
                  (by omega) HT2.out.2 HO2.out P3b.out hnv (Rds.kept (fun g t cs ht h => h.grown hgr (ne2 g (blk_ne h P1.out (by rcases ht with rfl | rfl <;> decide)))) _ _ HRS.out) P6b.out (P7.out.grown hgr (ne2 _ (by omega))) (P8.out.grown hgr (ne2 _ (by omega))) (P9.out.grown hgr (ne2 _ (by omega))) (P10.out.grown hgr (ne2 _ (blk_ne P10.out P1.out (by decide))))
                  (P11.out.grown hgr P11.out.size (fun k e => by cases e; omega)) (Nat.le_trans hn1 hgr.size)
                  ⟨HQ.out, by rw [tot_snoc, ← HPOS.out], by simp, by simp⟩
                dsimp only at fin
                rw [HPI.out] at fin
                have hst5 := (((Stp.refl W0.heap.size W).turned (by omega) hgr).set (p := ⟨w.heap.size + 3, 0, none⟩) (by show w.heap.size + 3 < W0.heap.size; omega) (.slice (some ⟨gv, kv + 1, none⟩) vs0.length (cn - 1))).set (p := ⟨w.heap.size + 4, 0, none⟩) (by show w.heap.size + 4 < W0.heap.size; omega) (.int .i64 ((st.pos : Int) + ((x.length : Int) + 1)))
                exact ⟨hst5.keeps hW1, hst5.kept hl1 hl2 hl3 (Nat.lt_of_lt_of_le hs1.lt hn1) (Nat.lt_of_lt_of_le hs2.lt hn1) (Nat.lt_of_lt_of_le hs3.lt hn1), fin⟩
  case done =>
    rintro D xs W hD rfl ⟨st, hinv, hps, hn1⟩ hK
    obtain ⟨vb, nv, vs, z, p1, p2, p3, p4, p5, p6, p7, p8, p9, p10, p11⟩ := hps
    obtain ⟨An, cn, rfl, hcn, hcm, hnx⟩ := p4
    obtain ⟨Ab, cb, rfl, _⟩ := own_sl p2
    have x0 := p1.cell 0
    have x1 := p1.cell 1
    have x2 := p1.cell 2
    have x3 := p1.cell 3
    have n0 := p3.cell 0
    have b0 := p7.cell 0
    have fb0 := p7.frozen 0
    have p8 : Blk W w.heap.size 24 #[.string ⟨#[]⟩, .int .i64 0, .int .i64 0, .slice none 0 0] := p8
    have r0 := p8.cell 0
    have r1 := p8.cell 1
    have r2 := p8.cell 2
    have r3 := p8.cell 3
    have fr0 := p8.frozen 0
    have fr1 := p8.frozen 1
    have fr2 := p8.frozen 2
    have fr3 := p8.frozen 3
    have s0 := p9.cell 0
    have s1 := p9.cell 1
    have fs0 := p9.frozen 0
    have fs1 := p9.frozen 1
    have hrun := hinv.1
    have hr := Hr.out
    rw [hrun] at hr
    dsimp only at hr
    cases hst : st.t with
    | nil =>
      rw [if_pos hst] at hr
      subst hr
      rw [hst] at p5
      obtain rfl : vs = [] := by cases vs with | nil => rfl | cons a l => exact p5.elim
      have hnl : ¬ (0 : Int) < 0 := by decide
      have P1 := Lib.hid p1; have P2 := Lib.hid p2; have P8 := Lib.hid p8; have P9 := Lib.hid p9; have P11 := Lib.hid p11; have HK := Lib.hid hK
      clear p1 p2 p3 p5 p6 p7 p8 p9 p10 p11 hnx hinv hrun hK hcn hcm Hr
      go_wp2_with fail
      (try rw [Exit.noGoto_ret])
      have hDne : ∀ g, g < w.heap.size + 6 → g ≠ D := fun g hg e => by have := Hsz0.out; omega
      have hb01 : w.heap.size ≠ w.heap.size + 1 := Nat.ne_of_lt (Nat.lt_succ_self _)
      have z8 := (((((P8.out.set_ 0 (.string (bs st.o.w))).set_ 1 (.int .i64 (st.o.id : Int))).set_ 2 (.int .i64 (st.o.n : Int))).set_ 3 (.slice Ab st.o.b.length cb)).far (p := ⟨w.heap.size + 1, 0, none⟩) hb01 (.int .i64 0)).far (p := ⟨w.heap.size + 1, 1, none⟩) hb01 (.int .i64 0)
      have z9 := (((((P9.out.far (p := ⟨w.heap.size, 0, none⟩) hb01.symm (.string (bs st.o.w))).far (p := ⟨w.heap.size, 1, none⟩) hb01.symm (.int .i64 (st.o.id : Int))).far (p := ⟨w.heap.size, 2, none⟩) hb01.symm (.int .i64 (st.o.n : Int))).far (p := ⟨w.heap.size, 3, none⟩) hb01.symm (.slice Ab st.o.b.length cb)).set_ 0 (.int .i64 0)).set_ 1 (.int .i64 0)
      have n0' := own_blk_ne P2.out P8.out (by decide)
      have n1' := own_blk_ne P2.out P9.out (by decide)
      have zo := own_set (own_set (own_set (own_set (own_set (own_set P2.out ⟨w.heap.size, 0, none⟩ (.string (bs st.o.w)) n0') ⟨w.heap.size, 1, none⟩ (.int .i64 (st.o.id : Int)) n0') ⟨w.heap.size, 2, none⟩ (.int .i64 (st.o.n : Int)) n0') ⟨w.heap.size, 3, none⟩ (.slice Ab st.o.b.length cb) n0') ⟨w.heap.size + 1, 0, none⟩ (.int .i64 0) n1') ⟨w.heap.size + 1, 1, none⟩ (.int .i64 0) n1'
      have zb := (((((P11.out.setCell (p := ⟨w.heap.size, 0, none⟩) (Nat.le_refl _) (.string (bs st.o.w))).setCell (p := ⟨w.heap.size, 1, none⟩) (Nat.le_refl _) (.int .i64 (st.o.id : Int))).setCell (p := ⟨w.heap.size, 2, none⟩) (Nat.le_refl _) (.int .i64 (st.o.n : Int))).setCell (p := ⟨w.heap.size, 3, none⟩) (Nat.le_refl _) (.slice Ab st.o.b.length cb)).setCell (p := ⟨w.heap.size + 1, 0, none⟩) (Nat.le_succ _) (.int .i64 0)).setCell (p := ⟨w.heap.size + 1, 1, none⟩) (Nat.le_succ _) (.int .i64 0)
      have zk : ((((((W.setCell ⟨w.heap.size, 0, none⟩ (.string (bs st.o.w))).setCell ⟨w.heap.size, 1, none⟩ (.int .i64 (st.o.id : Int))).setCell ⟨w.heap.size, 2, none⟩ (.int .i64 (st.o.n : Int))).setCell ⟨w.heap.size, 3, none⟩ (.slice Ab st.o.b.length cb)).setCell ⟨w.heap.size + 1, 0, none⟩ (.int .i64 0)).setCell ⟨w.heap.size + 1, 1, none⟩ (.int .i64 0)).heap[D]? = some (.deferred (some [])) := by
        have h1 : D ≠ w.heap.size := (hDne _ (by omega)).symm
        have h2 : D ≠ w.heap.size + 1 := (hDne _ (by omega)).symm
        rw [Below.heap_setCell _ _ _ _ h2, Below.heap_setCell _ _ _ _ h2, Below.heap_setCell _ _ _ _ h1, Below.heap_setCell _ _ _ _ h1, Below.heap_setCell _ _ _ _ h1, Below.heap_setCell _ _ _ _ h1]
        exact HK.out
      exact ret_mark zk (parse_ret rfl rfl (blk_put z8 (hDne _ (by omega))) (blk_put z9 (hDne _ (by omega)))) ⟨_, rfl, own_put zo zk, zb.trans (put_below zk (by have := Hsz0.out; omega))⟩
    | cons c0 t0 =>
      rw [if_neg (by rw [hst]; exact List.cons_ne_nil _ _)] at hr
      subst hr
      rw [hst] at p5
      obtain ⟨v0, vs0, rfl⟩ : ∃ v0 vs0, vs = v0 :: vs0 := by cases vs with | nil => exact p5.elim | cons a l => exact ⟨a, l, rfl⟩
      have hnl : (0 : Int) < (((v0 :: vs0).length : Nat) : Int) := Int.natCast_pos.2 (Nat.succ_pos _)
      have P7 := Lib.hid p7; have P1 := Lib.hid p1; have P2 := Lib.hid p2; have P8 := Lib.hid p8; have P9 := Lib.hid p9; have P11 := Lib.hid p11; have HK := Lib.hid hK
      clear p1 p2 p3 p5 p6 p7 p8 p9 p10 p11 hnx hinv hrun hK hcn hcm Hr
      generalize (v0 :: vs0).length = nvs at n0 hnl
      go_wp2_with fail
      have h57 : w.heap.size + 5 ≠ w.heap.size := by omega
      have P7' := Lib.hid (P7.out.set_ 0 (.int .i64 (line.length : Int)))
      have P8' := Lib.hid (P8.out.far (p := ⟨w.heap.size + 5, 0, none⟩) h57.symm (.int .i64 (line.length : Int)))
      have P9' := Lib.hid (P9.out.far (p := ⟨w.heap.size + 5, 0, none⟩) (by show w.heap.size + 1 ≠ w.heap.size + 5; omega) (.int .i64 (line.length : Int)))
      have P11' := Lib.hid (P11.out.setCell (p := ⟨w.heap.size + 5, 0, none⟩) (by show w.heap.size ≤ w.heap.size + 5; omega) (.int .i64 (line.length : Int)))
      have HK' := Lib.hid (show (W.setCell ⟨w.heap.size + 5, 0, none⟩ (.int .i64 (line.length : Int))).heap[D]? = some (.deferred (some [])) from (Below.heap_setCell _ _ _ _ (by show D ≠ w.heap.size + 5; have := Hsz0.out; omega)).trans HK.out)
      clear P7 P8 P9 P11 HK r0 r1 r2 r3 fr0 fr1 fr2 fr3 s0 s1 fs0 fs1 b0 fb0 x0 x1 x2 x3 n0 P2 P1
      have P7 := P7'
      have P8 := P8'
      have P9 := P9'
      have P11 := P11'
      have HK := HK'
      clear P7' P8' P9' P11' HK'
      generalize W.setCell ⟨w.heap.size + 5, 0, none⟩ (.int .i64 (line.length : Int)) = W at P7 P8 P9 P11 HK ⊢
      have hb05 : w.heap.size + 5 ≠ w.heap.size := by omega
      have hb01 : w.heap.size ≠ w.heap.size + 1 := Nat.ne_of_lt (Nat.lt_succ_self _)
      have b7 := P7.out.cell 0
      have r0 := P8.out.cell 0
      have r1 := P8.out.cell 1
      have r2 := P8.out.cell 2
      have r3 := P8.out.cell 3
      have fr0 := P8.out.frozen 0
      have fr1 := P8.out.frozen 1
      have fr2 := P8.out.frozen 2
      have fr3 := P8.out.frozen 3
      have s0 := P9.out.cell 0
      have s1 := P9.out.cell 1
      have fs0 := P9.out.frozen 0
      have fs1 := P9.out.frozen 1
      refine wp_mono ?_ (NoPanic.to _)
      refine wp_region_tree (fun w' => w'.cell? ⟨w.heap.size + 5, 0, none⟩ = some (.int .i64 (line.length : Int))) 4 (.take 0 (.take 1 (.take 2 (.step 3 .done))))
        (by kernel_rfl) (by kernel_rfl) (NoPanic.no _) (by simp only [Pln.out, Array.getD_eq_getD_getElem?, List.getElem?_toArray, List.getElem?_cons_zero, List.getElem?_cons_succ, Option.getD_some]; rfl) (by simp only [List.map_cons, List.map_nil]; rfl) b7 (fun PE hPE => ?_)
      have z8 := ((((P8.out.set_ 0 (.string ⟨#[]⟩)).set_ 1 (.int .i64 0)).set_ 2 (.int .i64 0)).set_ 3 (.slice none 0 0)).drew'
      have z7 := ((((P7.out.far (p := ⟨w.heap.size, 0, none⟩) hb05 (.string ⟨#[]⟩)).far (p := ⟨w.heap.size, 1, none⟩) hb05 (.int .i64 0)).far (p := ⟨w.heap.size, 2, none⟩) hb05 (.int .i64 0)).far (p := ⟨w.heap.size, 3, none⟩) hb05 (.slice none 0 0)).drew'
      have z9 := ((((P9.out.far (p := ⟨w.heap.size, 0, none⟩) hb01.symm (.string ⟨#[]⟩)).far (p := ⟨w.heap.size, 1, none⟩) hb01.symm (.int .i64 0)).far (p := ⟨w.heap.size, 2, none⟩) hb01.symm (.int .i64 0)).far (p := ⟨w.heap.size, 3, none⟩) hb01.symm (.slice none 0 0)).drew'
      have zb := ((((P11.out.setCell (p := ⟨w.heap.size, 0, none⟩) (Nat.le_refl _) (.string ⟨#[]⟩)).setCell (p := ⟨w.heap.size, 1, none⟩) (Nat.le_refl _) (.int .i64 0)).setCell (p := ⟨w.heap.size, 2, none⟩) (Nat.le_refl _) (.int .i64 0)).setCell (p := ⟨w.heap.size, 3, none⟩) (Nat.le_refl _) (.slice none 0 0)).drew
      have hDne : ∀ g, g < w.heap.size + 6 → g ≠ D := fun g hg e => by have := Hsz0.out; omega
      have zk : ((((W.setCell ⟨w.heap.size, 0, none⟩ (.string ⟨#[]⟩)).setCell ⟨w.heap.size, 1, none⟩ (.int .i64 0)).setCell ⟨w.heap.size, 2, none⟩ (.int .i64 0)).setCell ⟨w.heap.size, 3, none⟩ (.slice none 0 0)).drew.heap[D]? = some (.deferred (some [])) := by
        have h1 : D ≠ w.heap.size := (hDne _ (by omega)).symm
        show ((((W.setCell ⟨w.heap.size, 0, none⟩ (.string ⟨#[]⟩)).setCell ⟨w.heap.size, 1, none⟩ (.int .i64 0)).setCell ⟨w.heap.size, 2, none⟩ (.int .i64 0)).setCell ⟨w.heap.size, 3, none⟩ (.slice none 0 0)).heap[D]? = _
        rw [Below.heap_setCell _ _ _ _ h1, Below.heap_setCell _ _ _ _ h1, Below.heap_setCell _ _ _ _ h1, Below.heap_setCell _ _ _ _ h1]
        exact HK.out
      refine tree_take (v := ?_) rfl (by rfl) ?_ ?_
      rotate_left
      · intro _ hSw; (try dsimp only at hSw); go_simp; (try with_reducible rfl)
      simp only [List.setIfInBounds_toArray, List.set_cons_zero, List.set_cons_succ]
      refine tree_take (v := ?_) rfl (by rfl) ?_ ?_
      rotate_left
      · intro _ hSw; (try dsimp only at hSw); go_simp; (try with_reducible rfl)
      simp only [List.setIfInBounds_toArray, List.set_cons_zero, List.set_cons_succ]
      refine tree_take (v := ?_) rfl (by rfl) ?_ ?_
      rotate_left
      · intro _ hSw; (try dsimp only at hSw); go_simp; (try with_reducible rfl)
      simp only [List.setIfInBounds_toArray, List.set_cons_zero, List.set_cons_succ]
      refine tree_skip _ (w' := ?_) rfl (by rfl) ?_ ?_ ?_
      rotate_left 1
      · go_simp; (first | (with_reducible rfl) | (constructor <;> with_reducible rfl) | skip)
      · exact z7.cell 0
      refine hPE _ _ ?_
      simp only [List.drop_succ_cons, List.drop_zero]
      clear hPE PE
      have z9c := z9.cell 0
      have z9d := z9.cell 1
      have z9f := z9.frozen 0
      have z9g := z9.frozen 1
      have Z8 := Lib.hid z8
      have Z9 := Lib.hid z9
      have ZB := Lib.hid zb
      have ZK := Lib.hid zk
      clear z7 z8 z9 zb zk r0 r1 r2 r3 fr0 fr1 fr2 fr3 s0 s1 fs0 fs1 b7
      generalize ((((W.setCell ⟨w.heap.size, 0, none⟩ (.string ⟨#[]⟩)).setCell ⟨w.heap.size, 1, none⟩ (.int .i64 0)).setCell ⟨w.heap.size, 2, none⟩ (.int .i64 0)).setCell ⟨w.heap.size, 3, none⟩ (.slice none 0 0)).drew = W9 at z9c z9d z9f z9g Z8 Z9 ZB ZK ⊢
      refine wpList_skip1 (w' := ?_) rfl rfl ?_ ?_
      rotate_left 1
      · go_simp; (first | (with_reducible rfl) | (constructor <;> with_reducible rfl) | skip)
      rw [NoPanic_normal]
      go_wp2_with fail
      (try rw [Exit.noGoto_ret])
      have y8 := (Z8.out.far (p := ⟨w.heap.size + 1, 0, none⟩) hb01 (.int .i64 14)).far (p := ⟨w.heap.size + 1, 1, none⟩) hb01 (.int .i64 (line.length : Int))
      have y9 := (Z9.out.set_ 0 (.int .i64 14)).set_ 1 (.int .i64 (line.length : Int))
      have yb := (ZB.out.setCell (p := ⟨w.heap.size + 1, 0, none⟩) (Nat.le_succ _) (.int .i64 14)).setCell (p := ⟨w.heap.size + 1, 1, none⟩) (Nat.le_succ _) (.int .i64 (line.length : Int))
      have yk : ((W9.setCell ⟨w.heap.size + 1, 0, none⟩ (.int .i64 14)).setCell ⟨w.heap.size + 1, 1, none⟩ (.int .i64 (line.length : Int))).heap[D]? = some (.deferred (some [])) := by
        have h2 : D ≠ w.heap.size + 1 := (hDne _ (by omega)).symm
        rw [Below.heap_setCell _ _ _ _ h2, Below.heap_setCell _ _ _ _ h2]
        exact ZK.out
      exact ret_mark yk (parse_ret rfl rfl (blk_put y8 (hDne _ (by omega))) (blk_put y9 (hDne _ (by omega)))) (ParsePost.err 14 line.length (yb.trans (put_below yk (by have := Hsz0.out; omega))))
  case stop =>
    rintro D c pre W hD hpre ⟨rfl, b, hrun, hb9, p7, p8, p9, p11⟩ hK
    have hr : Except.error (14, b) = r := by
      have hfull : runP (splitL 32 line) = .error b := run_err hpre hrun
      have hr := Hr.out
      rw [hfull] at hr
      exact hr
    subst hr
    have p8 : Blk W w.heap.size 24 #[.string ⟨#[]⟩, .int .i64 0, .int .i64 0, .slice none 0 0] := p8
    have P7 := Lib.hid p7; have P8 := Lib.hid p8; have P9 := Lib.hid p9; have P11 := Lib.hid p11; have HK := Lib.hid hK
    have b0 := p7.cell 0
    have hbn : ¬ (b : Int) < 0 := by omega
    have hbp : (0 : Int) ≤ (b : Int) := by omega
    clear p7 p8 p9 p11 hK hrun hpre Hr
    refine wpIn_wide.2 ?_
    go_wp2_with fail
    clear b0
    have hb05 : w.heap.size + 5 ≠ w.heap.size := by omega
    have hb01 : w.heap.size ≠ w.heap.size + 1 := Nat.ne_of_lt (Nat.lt_succ_self _)
    have b7 := P7.out.cell 0
    have r0 := P8.out.cell 0
    have r1 := P8.out.cell 1
    have r2 := P8.out.cell 2
    have r3 := P8.out.cell 3
    have fr0 := P8.out.frozen 0
    have fr1 := P8.out.frozen 1
    have fr2 := P8.out.frozen 2
    have fr3 := P8.out.frozen 3
    have s0 := P9.out.cell 0
    have s1 := P9.out.cell 1
    have fs0 := P9.out.frozen 0
    have fs1 := P9.out.frozen 1
    refine wp_mono ?_ (NoPanic.to _)
    refine wp_region_tree (fun w' => w'.cell? ⟨w.heap.size + 5, 0, none⟩ = some (.int .i64 (b : Int))) 4 (.take 0 (.take 1 (.take 2 (.step 3 .done))))
      (by kernel_rfl) (by kernel_rfl) (NoPanic.no _) (by simp only [Pln.out, Array.getD_eq_getD_getElem?, List.getElem?_toArray, List.getElem?_cons_zero, List.getElem?_cons_succ, Option.getD_some]; rfl) (by simp only [List.map_cons, List.map_nil]; rfl) b7 (fun PE hPE => ?_)
    have z8 := ((((P8.out.set_ 0 (.string ⟨#[]⟩)).set_ 1 (.int .i64 0)).set_ 2 (.int .i64 0)).set_ 3 (.slice none 0 0)).drew'
    have z7 := ((((P7.out.far (p := ⟨w.heap.size, 0, none⟩) hb05 (.string ⟨#[]⟩)).far (p := ⟨w.heap.size, 1, none⟩) hb05 (.int .i64 0)).far (p := ⟨w.heap.size, 2, none⟩) hb05 (.int .i64 0)).far (p := ⟨w.heap.size, 3, none⟩) hb05 (.slice none 0 0)).drew'
    have z9 := ((((P9.out.far (p := ⟨w.heap.size, 0, none⟩) hb01.symm (.string ⟨#[]⟩)).far (p := ⟨w.heap.size, 1, none⟩) hb01.symm (.int .i64 0)).far (p := ⟨w.heap.size, 2, none⟩) hb01.symm (.int .i64 0)).far (p := ⟨w.heap.size, 3, none⟩) hb01.symm (.slice none 0 0)).drew'
    have zb := ((((P11.out.setCell (p := ⟨w.heap.size, 0, none⟩) (Nat.le_refl _) (.string ⟨#[]⟩)).setCell (p := ⟨w.heap.size, 1, none⟩) (Nat.le_refl _) (.int .i64 0)).setCell (p := ⟨w.heap.size, 2, none⟩) (Nat.le_refl _) (.int .i64 0)).setCell (p := ⟨w.heap.size, 3, none⟩) (Nat.le_refl _) (.slice none 0 0)).drew
    have hDne : ∀ g, g < w.heap.size + 6 → g ≠ D := fun g hg e => by have := Hsz0.out; omega
    have zk : ((((W.setCell ⟨w.heap.size, 0, none⟩ (.string ⟨#[]⟩)).setCell ⟨w.heap.size, 1, none⟩ (.int .i64 0)).setCell ⟨w.heap.size, 2, none⟩ (.int .i64 0)).setCell ⟨w.heap.size, 3, none⟩ (.slice none 0 0)).drew.heap[D]? = some (.deferred (some [])) := by
      have h1 : D ≠ w.heap.size := (hDne _ (by omega)).symm
      show ((((W.setCell ⟨w.heap.size, 0, none⟩ (.string ⟨#[]⟩)).setCell ⟨w.heap.size, 1, none⟩ (.int .i64 0)).setCell ⟨w.heap.size, 2, none⟩ (.int .i64 0)).setCell ⟨w.heap.size, 3, none⟩ (.slice none 0 0)).heap[D]? = _
      rw [Below.heap_setCell _ _ _ _ h1, Below.heap_setCell _ _ _ _ h1, Below.heap_setCell _ _ _ _ h1, Below.heap_setCell _ _ _ _ h1]
      exact HK.out
    refine tree_take (v := ?_) rfl (by rfl) ?_ ?_
    rotate_left
    · intro _ hSw; (try dsimp only at hSw); go_simp; (try with_reducible rfl)
    simp only [List.setIfInBounds_toArray, List.set_cons_zero, List.set_cons_succ]
    refine tree_take (v := ?_) rfl (by rfl) ?_ ?_
    rotate_left
    · intro _ hSw; (try dsimp only at hSw); go_simp; (try with_reducible rfl)
    simp only [List.setIfInBounds_toArray, List.set_cons_zero, List.set_cons_succ]
    refine tree_take (v := ?_) rfl (by rfl) ?_ ?_
    rotate_left
    · intro _ hSw; (try dsimp only at hSw); go_simp; (try with_reducible rfl)
    simp only [List.setIfInBounds_toArray, List.set_cons_zero, List.set_cons_succ]
    refine tree_skip _ (w' := ?_) rfl (by rfl) ?_ ?_ ?_
    rotate_left 1
    · go_simp; (first | (with_reducible rfl) | (constructor <;> with_reducible rfl) | skip)
    · exact z7.cell 0
    refine hPE _ _ ?_
    simp only [List.drop_succ_cons, List.drop_zero]
    clear hPE PE
    have z9c := z9.cell 0
    have z9d := z9.cell 1
    have z9f := z9.frozen 0
    have z9g := z9.frozen 1
    have Z8 := Lib.hid z8
    have Z9 := Lib.hid z9
    have ZB := Lib.hid zb
    have ZK := Lib.hid zk
    clear z7 z8 z9 zb zk r0 r1 r2 r3 fr0 fr1 fr2 fr3 s0 s1 fs0 fs1 b7
    generalize ((((W.setCell ⟨w.heap.size, 0, none⟩ (.string ⟨#[]⟩)).setCell ⟨w.heap.size, 1, none⟩ (.int .i64 0)).setCell ⟨w.heap.size, 2, none⟩ (.int .i64 0)).setCell ⟨w.heap.size, 3, none⟩ (.slice none 0 0)).drew = W9 at z9c z9d z9f z9g Z8 Z9 ZB ZK ⊢
    refine wpList_skip1 (w' := ?_) rfl rfl ?_ ?_
    rotate_left 1
    · go_simp; (first | (with_reducible rfl) | (constructor <;> with_reducible rfl) | skip)
    rw [NoPanic_normal]
    go_wp2_with fail
    (try rw [Exit.noGoto_ret])
    have y8 := (Z8.out.far (p := ⟨w.heap.size + 1, 0, none⟩) hb01 (.int .i64 14)).far (p := ⟨w.heap.size + 1, 1, none⟩) hb01 (.int .i64 (b : Int))
    have y9 := (Z9.out.set_ 0 (.int .i64 14)).set_ 1 (.int .i64 (b : Int))
    have yb := (ZB.out.setCell (p := ⟨w.heap.size + 1, 0, none⟩) (Nat.le_succ _) (.int .i64 14)).setCell (p := ⟨w.heap.size + 1, 1, none⟩) (Nat.le_succ _) (.int .i64 (b : Int))
    have yk : ((W9.setCell ⟨w.heap.size + 1, 0, none⟩ (.int .i64 14)).setCell ⟨w.heap.size + 1, 1, none⟩ (.int .i64 (b : Int))).heap[D]? = some (.deferred (some [])) := by
      have h2 : D ≠ w.heap.size + 1 := (hDne _ (by omega)).symm
      rw [Below.heap_setCell _ _ _ _ h2, Below.heap_setCell _ _ _ _ h2]
      exact ZK.out
    exact ret_mark yk (parse_ret rfl rfl (blk_put y8 (hDne _ (by omega))) (blk_put y9 (hDne _ (by omega)))) (ParsePost.err 14 b (yb.trans (put_below yk (by have := Hsz0.out; omega))))
end Go.Proofs.YthcbidbhkikhmaaDoor
