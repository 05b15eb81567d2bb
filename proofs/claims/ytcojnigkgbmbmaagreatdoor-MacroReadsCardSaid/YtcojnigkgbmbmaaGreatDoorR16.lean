/- PfxT, Apps, Vec, PatC -/
import Derived.Test.YtcojnigkgbmbmaaGreatDoorR15
import Derived.Test.YtcojnigkgbmbmaaGreatDoorR02
import Derived.Test.YtcojnigkgbmbmaaGreatDoorR10
import Derived.Test.YtcojnigkgbmbmaaGreatDoorR07
namespace Go.Proofs.YtcojnigkgbmbmaaGreatDoor
open Go Go.RowKit Go.Maps
theorem ret_strk {a : ByteArray} {l : List UInt8} (h : a = bs l) : Ending.returned (.string a) = .returned (.string (bs l)) := by rw [h]
/-- codes, and their numbers, that make a tree. -/
structure CodesOk (cs : List (List UInt8)) (ns : List Int) : Prop where
  ok : okT 24 (treeN cs ns) 0 (cs.zip ns) = true
  wf : wfN (treeN cs ns) = true
  put : (putAll [nd0] cs ns).isSome = true
  code : cs.all isCode = true
  len : ns.length = cs.length
  pos : 1 ≤ cs.length
  le : cs.length ≤ 300
  num : ns.all (fun k => (Lit.int .i64 k).wf) = true
  has : 0 < (treeN cs ns).length
theorem kind_codes : CodesOk kindC kindN := ⟨kind_ok, kind_wf, kind_put, kind_code, by kernel_rfl, by decide, by decide, by kernel_rfl, of_decide_eq_true (by kernel_rfl)⟩
theorem vec_codes : CodesOk vecC vecN := ⟨vec_ok, vec_wf, vec_put, Go.Proofs.YtcojnigkgbmbmaaGreatDoor.vec_code, by kernel_rfl, by decide, by decide, by kernel_rfl, of_decide_eq_true (by kernel_rfl)⟩
theorem pat_codes : CodesOk patC patN := ⟨pat_ok, pat_wf, pat_put, pat_code, by kernel_rfl, by decide, by decide, by kernel_rfl, of_decide_eq_true (by kernel_rfl)⟩
/-- a tree is handed back. -/
def TreePost (cs : List (List UInt8)) (ns : List Int) (w : World) (e : Ending) (w' : World) : Prop := ∃ base T, e = .returned (.pointer (some ⟨T, 0, none⟩)) ∧ PTree w' base T (treeN cs ns) (mapT cs ns) cs.length ∧ Below w.heap.size w w'
theorem make_tree {cs : List (List UInt8)} {ns : List Int} (h : CodesOk cs ns) (A B : Option Addr) (c d : Nat) (w : World) (hA : Sl w A (cs.map strV)) (hB : Sl w B (ns.map intV)) : Calls Tryz.prog 125 #[.slice A cs.length c, .slice B cs.length d] w (MkPost cs ns w) :=
  prefix_Make A B cs.length c d cs ns w hA hB rfl h.len h.pos h.le h.code h.put h.num
theorem get_tree {cs : List (List UInt8)} {ns : List Int} (h : CodesOk cs ns) (w : World) (base T : Nat) (hT : PTree w base T (treeN cs ns) (mapT cs ns) cs.length) (A : Option Addr) (n c : Nat) (l : List UInt8) (i : Int) (hA : Sl w A (l.map byteV)) (hn : l.length = n) (hsz : n ≤ 2 ^ 47) (hi : -9223372036854775808 ≤ i ∧ i ≤ 9223372036854775807) :
    Calls Tryz.prog 141 #[.pointer (some ⟨T, 0, none⟩), .slice A n c, .int .i64 i] w fun e w' => e = .returned (.tuple #[.int .i64 (treeR cs ns l i).1, .int .i64 (treeR cs ns l i).2.1, .int .i64 (treeR cs ns l i).2.2]) ∧ Below w.heap.size w w' := by
  have hr : (if i < 0 then ((0, 0, 3) : Int × Int × Int) else walkT (treeN cs ns) 0 (bitsL l i.toNat (8 * n - i.toNat)) 0) = treeR cs ns l i := by
    by_cases h1 : i < 0
    · unfold treeR; rw [if_pos h1, if_pos h1]
    · obtain ⟨k, rfl⟩ := Int.eq_ofNat_of_zero_le (by omega : 0 ≤ i)
      rw [if_neg h1, ← hn, Int.toNat_natCast]
      exact walk_tree _ _ _ h.ok h.len.symm l k
  have := prefix_Get w base T _ _ _ hT (by have := h.pos; omega) h.wf h.has A n c l i hA hn hsz hi
  rw [hr] at this
  exact this
theorem put_tree {cs : List (List UInt8)} {ns : List Int} (h : CodesOk cs ns) (w : World) (base T : Nat) (hT : PTree w base T (treeN cs ns) (mapT cs ns) cs.length) (num : Int) (hnum : (Lit.int .i64 num).wf = true) :
    Calls Tryz.prog 90 #[.pointer (some ⟨T, 0, none⟩), .int .i64 num] w fun e w' => e = .returned (.tuple #[.string (bs ((codeF cs ns num).getD [])), .int .i64 (if (codeF cs ns num).isSome then 0 else 18)]) ∧ Below w.heap.size w w' :=
  prefix_Put w base T _ _ _ _ hT (by have := h.pos; omega) (tells_map cs ns) num hnum
/-- rows of texts and of numbers, while a tree is told. -/
def TwoRows (w : World) (cs : List (List UInt8)) (ns : List Int) (v1 v2 : Value) (W : World) : Prop := Cons w [] [⟨w.heap.size, 9, 1, v1, cs.length, cs.map strV⟩, ⟨w.heap.size, 3, 1, v2, ns.length, ns.map intV⟩] W
theorem two_start (w : World) : TwoRows w [] [] (.slice none 0 0) (.slice none 0 0) w := cons_nilrow (cons_nilrow (cons_start w) _ _ _) _ _ _
theorem strV1 (c : List UInt8) : ∀ u ∈ [strV c], u.oneCell' = true := by intro u hu; simp at hu; subst hu; rfl
theorem intV1 (k : Int) : ∀ u ∈ [intV k], u.oneCell' = true := by intro u hu; simp at hu; subst hu; rfl
theorem two_get {w W : World} {cs : List (List UInt8)} {ns : List Int} {v1 v2 : Value} (h : TwoRows w cs ns v1 v2 W) (h1 : 0 < cs.length) (h2 : ns.length = cs.length) : ∃ A B c d, v1 = .slice A cs.length c ∧ v2 = .slice B cs.length d ∧ Sl W A (cs.map strV) ∧ Sl W B (ns.map intV) ∧ Below w.heap.size w W := by
  obtain ⟨g1, c1, e1, _⟩ := own_pos h.2.2.head h1
  obtain ⟨g2, c2, e2, _⟩ := own_pos h.2.2.tail.head (show 0 < ns.length by omega)
  dsimp only at e1 e2
  subst e1 e2
  exact ⟨_, _, _, _, rfl, by rw [h2], own_sl' h.2.2.head, own_sl' h.2.2.tail.head, h.1⟩
end Go.Proofs.YtcojnigkgbmbmaaGreatDoor
namespace Go.Proofs.YtcojnigkgbmbmaaGreatDoor
open Go Go.RowKit
theorem cons_app2 {w W W' : World} {L : List CellF} {R : List RowF} {base e size n m : Nat} {v v' : Value} {xs ys : List Value} (hc : Cons w L (⟨base, e, size, v, n, xs⟩ :: R) W) (hg : W.grownBy W' v.ownBlock) (ho : W'.ownsRow base e size v' m ys)
    (hb : w.heap.size ≤ base) (hL : ∀ p ∈ L, p.2.1 ≠ e ∨ p.1 < base) (hR : ∀ r ∈ R, r.e ≠ e) : Cons w L (⟨base, e, size, v', m, ys⟩ :: R) W' ∧ ∀ g t cs, Blk W g t cs → t ≠ e → Blk W' g t cs :=
  ⟨cons_app hc hg ho hb hL hR, fun _ _ _ h ht => h.grown hg (own_blk_ne hc.2.2.head h (Ne.symm ht))⟩
section
variable {P : Program} {t e size bytes : Nat} {w W : World} {L : List CellF} {R : List RowF} {base n : Nat} {m : Nat} {v : Value} {xs news : List Value} {nb c : Nat}
theorem tree_appB (et : ElemT P t e size bytes) {dsts : List (Option Tmp)} {E : Act → World → Prop} {S : World → Prop} {r : PlnO} {tmps : Array Value} {defers : List Deferred} {o : Oper} {d : Nat} {s x : Operand} (hd : o.dst = some d) (hw : wanted2 o dsts tmps = true)
    (ho : o.op = .call { callee := .builtin .append, args := #[s, x], argTypes := #[t, t] }) (hs : Act.eval ⟨tmps, defers⟩ s = v) (hc : Cons w L (⟨base, e, size, v, n, xs⟩ :: R) W) (hx : Act.eval ⟨tmps, defers⟩ x = .slice (some ⟨nb, 0, none⟩) m c) (hnb : Blk W nb e news.toArray)
    (hl : news.length = m * size) (h1 : ∀ u ∈ news, u.oneCell' = true) (hb : (n + m) * bytes ≤ 140737488355328) (hbase : w.heap.size ≤ base ∧ base ≤ W.heap.size) (hL : ∀ p ∈ L, p.2.1 ≠ e ∨ p.1 < base) (hR : ∀ r ∈ R, r.e ≠ e)
    (h : ∀ v' W', Cons w L (⟨base, e, size, v', n + m, xs ++ news⟩ :: R) W' → (∀ g t cs, Blk W g t cs → t ≠ e → Blk W' g t cs) → (∀ B, KeepsFrom B W W') → S W' ∧ wpTreeO P dsts E r S ⟨tmps.setIfInBounds d v', defers⟩ W') :
    StepO P dsts o (fun a' w' => ∃ S' : World → Prop, (∀ w, S' w → S w) ∧ S' w' ∧ wpTreeO P dsts E r S' a' w') ⟨tmps, defers⟩ W := by
  obtain ⟨v', w', hrun, h2, h3, h4⟩ := run_app et o.type (c := c) hc.2.2.head hl (by have := Blk.sl hnb 0; simpa using this) h1 hb hbase.2
  obtain ⟨h5, h6⟩ := cons_app2 hc h3 h2 hbase.1 hL hR
  obtain ⟨h7, h8⟩ := h v' w' h5 h6 (fun B => kf_grown (KeepsFrom.refl B W) h3 (own_cells hc.2.2.head))
  refine tree_value (v := v') (w' := w') hd hw ?_ h7 h8
  unfold execOp
  simp only [ho, resolve, invoke, builtin, Sem.run_bind, Sem.run_pure, Result.andThen_ok, List.map_toArray, List.map_cons, List.map_nil, hs, hx, hrun]
theorem wpList_appB (et : ElemT P t e size bytes) {ops : Array Oper} {Q : Exit → Act → World → Prop} {rest : List Oper} {o : Oper} {a : Act} (hgd : o.guard = none) {s x : Operand}
    (ho : o.op = .call { callee := .builtin .append, args := #[s, x], argTypes := #[t, t] }) (hs : a.eval s = v) (hc : Cons w L (⟨base, e, size, v, n, xs⟩ :: R) W) (hx : a.eval x = .slice (some ⟨nb, 0, none⟩) m c) (hnb : Blk W nb e news.toArray)
    (hl : news.length = m * size) (h1 : ∀ u ∈ news, u.oneCell' = true) (hb : (n + m) * bytes ≤ 140737488355328) (hbase : w.heap.size ≤ base ∧ base ≤ W.heap.size) (hL : ∀ p ∈ L, p.2.1 ≠ e ∨ p.1 < base) (hR : ∀ r ∈ R, r.e ≠ e)
    (h : ∀ v' W', Cons w L (⟨base, e, size, v', n + m, xs ++ news⟩ :: R) W' → (∀ g t cs, Blk W g t cs → t ≠ e → Blk W' g t cs) → (∀ B, KeepsFrom B W W') → wpList P ops Q rest (a.put o.dst v') W') : wpList P ops Q (o :: rest) a W := by
  refine wpList_app et hgd ho hs hc.2.2.head hx hl (by have := Blk.sl hnb 0; simpa using this) h1 hb hbase.2 (fun v' W' h2 h3 _ => ?_)
  obtain ⟨h5, h6⟩ := cons_app2 hc h3 h2 hbase.1 hL hR
  exact h v' W' h5 h6 (fun B => kf_grown (KeepsFrom.refl B W) h3 (own_cells hc.2.2.head))
end
theorem cons_cswap {w W : World} {p q : CellF} {L : List CellF} {R : List RowF} (hc : Cons w (p :: q :: L) R W) : Cons w (q :: p :: L) R W :=
  ⟨hc.1, fun r hr => hc.2.1 r (by simp at hr ⊢; rcases hr with h | h | h; exact .inr (.inl h); exact .inl h; exact .inr (.inr h)), hc.2.2⟩
theorem kf_then' {B : Nat} {A W W' : World} (h : KeepsFrom B A W) (k : KeepsFrom B W W') : KeepsFrom B A W' := h.trans k
/-- while a tree is told: two cells, two rows. -/
def trL (h : Nat) (v1 v2 : Value) : List CellF := [(h, 89, #[v1]), (h + 1, 137, #[v2])]
def trR (h : Nat) (cs : List (List UInt8)) (ns : List Int) (j : Nat) (v1 v2 : Value) : List RowF := [⟨h, 9, 1, v1, j, (cs.take j).map strV⟩, ⟨h, 3, 1, v2, j, (ns.take j).map intV⟩]
def trP (v : Value) : Prop := ∃ A n c, v = .slice A n c
theorem tree_round {w W W9 : World} {cs : List (List UInt8)} {ns : List Int} {j n1 n2 c1 c2 : Nat} {c : List UInt8} {k : Int} {A1 A2 : Option Addr} {o1 o2 : Value} {R : List RowF}
    (hc : Cons w [(w.heap.size, 89, #[o1]), (w.heap.size + 1, 137, #[o2])] (⟨w.heap.size, 3, 1, .slice A2 n2 c2, j + 1, (ns.take j).map intV ++ [intV k]⟩ :: ⟨w.heap.size, 9, 1, .slice A1 n1 c1, j + 1, (cs.take j).map strV ++ [strV c]⟩ :: R) W9) (hk : ∀ B, KeepsFrom B W W9) (B : Nat)
    (h1 : cs.take (j + 1) = cs.take j ++ [c]) (h2 : ns.take (j + 1) = ns.take j ++ [k]) (hR : R = []) :
    KeepsFrom B W ((W9.setCell ⟨w.heap.size, 0, none⟩ (.slice A1 n1 c1)).setCell ⟨w.heap.size + 1, 0, none⟩ (.slice A2 n2 c2)) ∧
    Cons w (trL w.heap.size (.slice A1 n1 c1) (.slice A2 n2 c2)) (trR w.heap.size cs ns (j + 1) (.slice A1 n1 c1) (.slice A2 n2 c2)) ((W9.setCell ⟨w.heap.size, 0, none⟩ (.slice A1 n1 c1)).setCell ⟨w.heap.size + 1, 0, none⟩ (.slice A2 n2 c2)) := by
  subst hR
  refine ⟨kf_set (kf_set (hk B) _ _) _ _, ?_⟩
  unfold trL trR
  rw [h1, h2, List.map_append, List.map_append]
  exact cons_swap (cons_cswap (cons_set (cons_cswap (cons_set hc (Nat.le_refl _) 0 (.slice A1 n1 c1) (by simp) (by simp))) (Nat.le_succ _) 0 (.slice A2 n2 c2) (by simp) (by simp)))
theorem two_get2 {w W : World} {L : List CellF} {b1 b2 : Nat} {cs : List (List UInt8)} {ns : List Int} {v1 v2 : Value} (h : Cons w L [⟨b1, 9, 1, v1, cs.length, cs.map strV⟩, ⟨b2, 3, 1, v2, cs.length, ns.map intV⟩] W) (h1 : 0 < cs.length) : ∃ A B c d, v1 = .slice A cs.length c ∧ v2 = .slice B cs.length d ∧ Sl W A (cs.map strV) ∧ Sl W B (ns.map intV) ∧ Below w.heap.size w W := by
  obtain ⟨g1, c1, e1, _⟩ := own_pos h.2.2.head h1
  obtain ⟨g2, c2, e2, _⟩ := own_pos h.2.2.tail.head h1
  dsimp only at e1 e2
  subst e1 e2
  exact ⟨_, _, _, _, rfl, rfl, own_sl' h.2.2.head, own_sl' h.2.2.tail.head, h.1⟩
end Go.Proofs.YtcojnigkgbmbmaaGreatDoor
namespace Go.Proofs.YtcojnigkgbmbmaaGreatDoor
open Go Go.RowKit
set_option maxRecDepth 100000 in
theorem vec_base1 (w : World) : Calls Tryz.prog 153 #[.int .i64 1] w fun e w' => e = .returned (.string (bs [48, 49])) ∧ w = w' := by
  go_enter Tryz.func153, Tryz.ntmps153
  go_wp2
  go_ret
  exact ⟨ret_strk (by kernel_rfl), rfl⟩
set_option maxRecDepth 100000 in
theorem vec_base2 (w : World) : Calls Tryz.prog 153 #[.int .i64 2] w fun e w' => e = .returned (.string (bs [48, 48, 49])) ∧ w = w' := by
  go_enter Tryz.func153, Tryz.ntmps153
  go_wp2
  go_ret
  exact ⟨ret_strk (by kernel_rfl), rfl⟩
set_option maxRecDepth 100000 in
theorem vec_base3 (w : World) : Calls Tryz.prog 153 #[.int .i64 3] w fun e w' => e = .returned (.string (bs [48, 48, 48, 49])) ∧ w = w' := by
  go_enter Tryz.func153, Tryz.ntmps153
  go_wp2
  go_ret
  exact ⟨ret_strk (by kernel_rfl), rfl⟩
set_option maxRecDepth 100000 in
theorem vec_base4 (w : World) : Calls Tryz.prog 153 #[.int .i64 4] w fun e w' => e = .returned (.string (bs [48, 48, 48, 48, 49, 49])) ∧ w = w' := by
  go_enter Tryz.func153, Tryz.ntmps153
  go_wp2
  go_ret
  exact ⟨ret_strk (by kernel_rfl), rfl⟩
set_option maxRecDepth 100000 in
theorem vec_base5 (w : World) : Calls Tryz.prog 153 #[.int .i64 5] w fun e w' => e = .returned (.string (bs [48, 48, 48, 48, 49, 48, 49])) ∧ w = w' := by
  have ix : ∀ W : World, (Instr.index 203 (.agg #[.string ⟨#[49, 48, 49]⟩, .string ⟨#[49, 48, 48]⟩, .string ⟨#[48, 49, 49]⟩]) (.int .i64 0)).run Tryz.prog W = .ok (.string ⟨#[49, 48, 49]⟩) W := fun _ => by kernel_rfl
  go_enter Tryz.func153, Tryz.ntmps153
  go_wp2
  go_ret
  exact ⟨ret_strk (by kernel_rfl), rfl⟩
set_option maxRecDepth 100000 in
theorem vec_base6 (w : World) : Calls Tryz.prog 153 #[.int .i64 6] w fun e w' => e = .returned (.string (bs [48, 48, 48, 48, 49, 48, 48])) ∧ w = w' := by
  have ix : ∀ W : World, (Instr.index 203 (.agg #[.string ⟨#[49, 48, 49]⟩, .string ⟨#[49, 48, 48]⟩, .string ⟨#[48, 49, 49]⟩]) (.int .i64 1)).run Tryz.prog W = .ok (.string ⟨#[49, 48, 48]⟩) W := fun _ => by kernel_rfl
  go_enter Tryz.func153, Tryz.ntmps153
  go_wp2
  go_ret
  exact ⟨ret_strk (by kernel_rfl), rfl⟩
set_option maxRecDepth 100000 in
theorem vec_base7 (w : World) : Calls Tryz.prog 153 #[.int .i64 7] w fun e w' => e = .returned (.string (bs [48, 48, 48, 48, 48, 49, 49])) ∧ w = w' := by
  have ix : ∀ W : World, (Instr.index 203 (.agg #[.string ⟨#[49, 48, 49]⟩, .string ⟨#[49, 48, 48]⟩, .string ⟨#[48, 49, 49]⟩]) (.int .i64 2)).run Tryz.prog W = .ok (.string ⟨#[48, 49, 49]⟩) W := fun _ => by kernel_rfl
  go_enter Tryz.func153, Tryz.ntmps153
  go_wp2
  go_ret
  exact ⟨ret_strk (by kernel_rfl), rfl⟩
set_option maxRecDepth 100000 in
theorem vec_base8 (w : World) : Calls Tryz.prog 153 #[.int .i64 8] w fun e w' => e = .returned (.string (bs [48, 48, 48, 48, 48, 49, 48, 49, 49])) ∧ w = w' := by
  have ix : ∀ W : World, (Instr.index 203 (.agg #[.string ⟨#[49, 48, 49, 49]⟩, .string ⟨#[49, 48, 49, 48]⟩, .string ⟨#[49, 48, 48, 49]⟩]) (.int .i64 0)).run Tryz.prog W = .ok (.string ⟨#[49, 48, 49, 49]⟩) W := fun _ => by kernel_rfl
  go_enter Tryz.func153, Tryz.ntmps153
  go_wp2
  go_ret
  exact ⟨ret_strk (by kernel_rfl), rfl⟩
set_option maxRecDepth 100000 in
theorem vec_base9 (w : World) : Calls Tryz.prog 153 #[.int .i64 9] w fun e w' => e = .returned (.string (bs [48, 48, 48, 48, 48, 49, 48, 49, 48])) ∧ w = w' := by
  have ix : ∀ W : World, (Instr.index 203 (.agg #[.string ⟨#[49, 48, 49, 49]⟩, .string ⟨#[49, 48, 49, 48]⟩, .string ⟨#[49, 48, 48, 49]⟩]) (.int .i64 1)).run Tryz.prog W = .ok (.string ⟨#[49, 48, 49, 48]⟩) W := fun _ => by kernel_rfl
  go_enter Tryz.func153, Tryz.ntmps153
  go_wp2
  go_ret
  exact ⟨ret_strk (by kernel_rfl), rfl⟩
set_option maxRecDepth 100000 in
theorem vec_base10 (w : World) : Calls Tryz.prog 153 #[.int .i64 10] w fun e w' => e = .returned (.string (bs [48, 48, 48, 48, 48, 49, 48, 48, 49])) ∧ w = w' := by
  have ix : ∀ W : World, (Instr.index 203 (.agg #[.string ⟨#[49, 48, 49, 49]⟩, .string ⟨#[49, 48, 49, 48]⟩, .string ⟨#[49, 48, 48, 49]⟩]) (.int .i64 2)).run Tryz.prog W = .ok (.string ⟨#[49, 48, 48, 49]⟩) W := fun _ => by kernel_rfl
  go_enter Tryz.func153, Tryz.ntmps153
  go_wp2
  go_ret
  exact ⟨ret_strk (by kernel_rfl), rfl⟩
set_option maxRecDepth 100000 in
theorem vec_base11 (w : World) : Calls Tryz.prog 153 #[.int .i64 11] w fun e w' => e = .returned (.string (bs [48, 48, 48, 48, 48, 49, 48, 48, 48, 49])) ∧ w = w' := by
  have ix : ∀ W : World, (Instr.index 205 (.agg #[.string ⟨#[48, 49]⟩, .string ⟨#[48, 48]⟩]) (.int .i64 0)).run Tryz.prog W = .ok (.string ⟨#[48, 49]⟩) W := fun _ => by kernel_rfl
  go_enter Tryz.func153, Tryz.ntmps153
  go_wp2
  go_ret
  exact ⟨ret_strk (by kernel_rfl), rfl⟩
set_option maxRecDepth 100000 in
theorem vec_base12 (w : World) : Calls Tryz.prog 153 #[.int .i64 12] w fun e w' => e = .returned (.string (bs [48, 48, 48, 48, 48, 49, 48, 48, 48, 48])) ∧ w = w' := by
  have ix : ∀ W : World, (Instr.index 205 (.agg #[.string ⟨#[48, 49]⟩, .string ⟨#[48, 48]⟩]) (.int .i64 1)).run Tryz.prog W = .ok (.string ⟨#[48, 48]⟩) W := fun _ => by kernel_rfl
  go_enter Tryz.func153, Tryz.ntmps153
  go_wp2
  go_ret
  exact ⟨ret_strk (by kernel_rfl), rfl⟩
set_option maxRecDepth 100000 in
theorem vec_base13 (w : World) : Calls Tryz.prog 153 #[.int .i64 13] w fun e w' => e = .returned (.string (bs [48, 48, 48, 48, 48, 48, 49, 49, 49, 49])) ∧ w = w' := by
  have ix : ∀ W : World, (Instr.index 204 (.agg #[.string ⟨#[49, 49, 49]⟩, .string ⟨#[49, 49, 48]⟩, .string ⟨#[49, 48, 49]⟩, .string ⟨#[49, 48, 48]⟩]) (.int .i64 0)).run Tryz.prog W = .ok (.string ⟨#[49, 49, 49]⟩) W := fun _ => by kernel_rfl
  go_enter Tryz.func153, Tryz.ntmps153
  go_wp2
  go_ret
  exact ⟨ret_strk (by kernel_rfl), rfl⟩
set_option maxRecDepth 100000 in
theorem vec_base14 (w : World) : Calls Tryz.prog 153 #[.int .i64 14] w fun e w' => e = .returned (.string (bs [48, 48, 48, 48, 48, 48, 49, 49, 49, 48])) ∧ w = w' := by
  have ix : ∀ W : World, (Instr.index 204 (.agg #[.string ⟨#[49, 49, 49]⟩, .string ⟨#[49, 49, 48]⟩, .string ⟨#[49, 48, 49]⟩, .string ⟨#[49, 48, 48]⟩]) (.int .i64 1)).run Tryz.prog W = .ok (.string ⟨#[49, 49, 48]⟩) W := fun _ => by kernel_rfl
  go_enter Tryz.func153, Tryz.ntmps153
  go_wp2
  go_ret
  exact ⟨ret_strk (by kernel_rfl), rfl⟩
set_option maxRecDepth 100000 in
theorem vec_base15 (w : World) : Calls Tryz.prog 153 #[.int .i64 15] w fun e w' => e = .returned (.string (bs [48, 48, 48, 48, 48, 48, 49, 49, 48, 49])) ∧ w = w' := by
  have ix : ∀ W : World, (Instr.index 204 (.agg #[.string ⟨#[49, 49, 49]⟩, .string ⟨#[49, 49, 48]⟩, .string ⟨#[49, 48, 49]⟩, .string ⟨#[49, 48, 48]⟩]) (.int .i64 2)).run Tryz.prog W = .ok (.string ⟨#[49, 48, 49]⟩) W := fun _ => by kernel_rfl
  go_enter Tryz.func153, Tryz.ntmps153
  go_wp2
  go_ret
  exact ⟨ret_strk (by kernel_rfl), rfl⟩
set_option maxRecDepth 100000 in
theorem vec_base16 (w : World) : Calls Tryz.prog 153 #[.int .i64 16] w fun e w' => e = .returned (.string (bs [48, 48, 48, 48, 48, 48, 49, 49, 48, 48])) ∧ w = w' := by
  have ix : ∀ W : World, (Instr.index 204 (.agg #[.string ⟨#[49, 49, 49]⟩, .string ⟨#[49, 49, 48]⟩, .string ⟨#[49, 48, 49]⟩, .string ⟨#[49, 48, 48]⟩]) (.int .i64 3)).run Tryz.prog W = .ok (.string ⟨#[49, 48, 48]⟩) W := fun _ => by kernel_rfl
  go_enter Tryz.func153, Tryz.ntmps153
  go_wp2
  go_ret
  exact ⟨ret_strk (by kernel_rfl), rfl⟩
theorem vec_code_m16 (w : World) : Calls Tryz.prog 129 #[.int .i64 (-16)] w fun e w' => e = .returned (.string (bs [48, 48, 48, 48, 48, 48, 49, 49, 48, 48, 49])) ∧ w = w' := by
  go_enter Tryz.func129, Tryz.ntmps129
  go_wp2_with (go_at_call 153; refine (vec_base16 _).mono ?_; rintro e w' ⟨rfl, rfl⟩)
  go_ret
  exact ⟨ret_strk (by kernel_rfl), rfl⟩
theorem vec_code_m15 (w : World) : Calls Tryz.prog 129 #[.int .i64 (-15)] w fun e w' => e = .returned (.string (bs [48, 48, 48, 48, 48, 48, 49, 49, 48, 49, 49])) ∧ w = w' := by
  go_enter Tryz.func129, Tryz.ntmps129
  go_wp2_with (go_at_call 153; refine (vec_base15 _).mono ?_; rintro e w' ⟨rfl, rfl⟩)
  go_ret
  exact ⟨ret_strk (by kernel_rfl), rfl⟩
theorem vec_code_m14 (w : World) : Calls Tryz.prog 129 #[.int .i64 (-14)] w fun e w' => e = .returned (.string (bs [48, 48, 48, 48, 48, 48, 49, 49, 49, 48, 49])) ∧ w = w' := by
  go_enter Tryz.func129, Tryz.ntmps129
  go_wp2_with (go_at_call 153; refine (vec_base14 _).mono ?_; rintro e w' ⟨rfl, rfl⟩)
  go_ret
  exact ⟨ret_strk (by kernel_rfl), rfl⟩
theorem vec_code_m13 (w : World) : Calls Tryz.prog 129 #[.int .i64 (-13)] w fun e w' => e = .returned (.string (bs [48, 48, 48, 48, 48, 48, 49, 49, 49, 49, 49])) ∧ w = w' := by
  go_enter Tryz.func129, Tryz.ntmps129
  go_wp2_with (go_at_call 153; refine (vec_base13 _).mono ?_; rintro e w' ⟨rfl, rfl⟩)
  go_ret
  exact ⟨ret_strk (by kernel_rfl), rfl⟩
theorem vec_code_m12 (w : World) : Calls Tryz.prog 129 #[.int .i64 (-12)] w fun e w' => e = .returned (.string (bs [48, 48, 48, 48, 48, 49, 48, 48, 48, 48, 49])) ∧ w = w' := by
  go_enter Tryz.func129, Tryz.ntmps129
  go_wp2_with (go_at_call 153; refine (vec_base12 _).mono ?_; rintro e w' ⟨rfl, rfl⟩)
  go_ret
  exact ⟨ret_strk (by kernel_rfl), rfl⟩
theorem vec_code_m11 (w : World) : Calls Tryz.prog 129 #[.int .i64 (-11)] w fun e w' => e = .returned (.string (bs [48, 48, 48, 48, 48, 49, 48, 48, 48, 49, 49])) ∧ w = w' := by
  go_enter Tryz.func129, Tryz.ntmps129
  go_wp2_with (go_at_call 153; refine (vec_base11 _).mono ?_; rintro e w' ⟨rfl, rfl⟩)
  go_ret
  exact ⟨ret_strk (by kernel_rfl), rfl⟩
theorem vec_code_m10 (w : World) : Calls Tryz.prog 129 #[.int .i64 (-10)] w fun e w' => e = .returned (.string (bs [48, 48, 48, 48, 48, 49, 48, 48, 49, 49])) ∧ w = w' := by
  go_enter Tryz.func129, Tryz.ntmps129
  go_wp2_with (go_at_call 153; refine (vec_base10 _).mono ?_; rintro e w' ⟨rfl, rfl⟩)
  go_ret
  exact ⟨ret_strk (by kernel_rfl), rfl⟩
theorem vec_code_m9 (w : World) : Calls Tryz.prog 129 #[.int .i64 (-9)] w fun e w' => e = .returned (.string (bs [48, 48, 48, 48, 48, 49, 48, 49, 48, 49])) ∧ w = w' := by
  go_enter Tryz.func129, Tryz.ntmps129
  go_wp2_with (go_at_call 153; refine (vec_base9 _).mono ?_; rintro e w' ⟨rfl, rfl⟩)
  go_ret
  exact ⟨ret_strk (by kernel_rfl), rfl⟩
theorem vec_code_m8 (w : World) : Calls Tryz.prog 129 #[.int .i64 (-8)] w fun e w' => e = .returned (.string (bs [48, 48, 48, 48, 48, 49, 48, 49, 49, 49])) ∧ w = w' := by
  go_enter Tryz.func129, Tryz.ntmps129
  go_wp2_with (go_at_call 153; refine (vec_base8 _).mono ?_; rintro e w' ⟨rfl, rfl⟩)
  go_ret
  exact ⟨ret_strk (by kernel_rfl), rfl⟩
theorem vec_code_m7 (w : World) : Calls Tryz.prog 129 #[.int .i64 (-7)] w fun e w' => e = .returned (.string (bs [48, 48, 48, 48, 48, 49, 49, 49])) ∧ w = w' := by
  go_enter Tryz.func129, Tryz.ntmps129
  go_wp2_with (go_at_call 153; refine (vec_base7 _).mono ?_; rintro e w' ⟨rfl, rfl⟩)
  go_ret
  exact ⟨ret_strk (by kernel_rfl), rfl⟩
theorem vec_code_m6 (w : World) : Calls Tryz.prog 129 #[.int .i64 (-6)] w fun e w' => e = .returned (.string (bs [48, 48, 48, 48, 49, 48, 48, 49])) ∧ w = w' := by
  go_enter Tryz.func129, Tryz.ntmps129
  go_wp2_with (go_at_call 153; refine (vec_base6 _).mono ?_; rintro e w' ⟨rfl, rfl⟩)
  go_ret
  exact ⟨ret_strk (by kernel_rfl), rfl⟩
theorem vec_code_m5 (w : World) : Calls Tryz.prog 129 #[.int .i64 (-5)] w fun e w' => e = .returned (.string (bs [48, 48, 48, 48, 49, 48, 49, 49])) ∧ w = w' := by
  go_enter Tryz.func129, Tryz.ntmps129
  go_wp2_with (go_at_call 153; refine (vec_base5 _).mono ?_; rintro e w' ⟨rfl, rfl⟩)
  go_ret
  exact ⟨ret_strk (by kernel_rfl), rfl⟩
theorem vec_code_m4 (w : World) : Calls Tryz.prog 129 #[.int .i64 (-4)] w fun e w' => e = .returned (.string (bs [48, 48, 48, 48, 49, 49, 49])) ∧ w = w' := by
  go_enter Tryz.func129, Tryz.ntmps129
  go_wp2_with (go_at_call 153; refine (vec_base4 _).mono ?_; rintro e w' ⟨rfl, rfl⟩)
  go_ret
  exact ⟨ret_strk (by kernel_rfl), rfl⟩
theorem vec_code_m3 (w : World) : Calls Tryz.prog 129 #[.int .i64 (-3)] w fun e w' => e = .returned (.string (bs [48, 48, 48, 49, 49])) ∧ w = w' := by
  go_enter Tryz.func129, Tryz.ntmps129
  go_wp2_with (go_at_call 153; refine (vec_base3 _).mono ?_; rintro e w' ⟨rfl, rfl⟩)
  go_ret
  exact ⟨ret_strk (by kernel_rfl), rfl⟩
theorem vec_code_m2 (w : World) : Calls Tryz.prog 129 #[.int .i64 (-2)] w fun e w' => e = .returned (.string (bs [48, 48, 49, 49])) ∧ w = w' := by
  go_enter Tryz.func129, Tryz.ntmps129
  go_wp2_with (go_at_call 153; refine (vec_base2 _).mono ?_; rintro e w' ⟨rfl, rfl⟩)
  go_ret
  exact ⟨ret_strk (by kernel_rfl), rfl⟩
theorem vec_code_m1 (w : World) : Calls Tryz.prog 129 #[.int .i64 (-1)] w fun e w' => e = .returned (.string (bs [48, 49, 49])) ∧ w = w' := by
  go_enter Tryz.func129, Tryz.ntmps129
  go_wp2_with (go_at_call 153; refine (vec_base1 _).mono ?_; rintro e w' ⟨rfl, rfl⟩)
  go_ret
  exact ⟨ret_strk (by kernel_rfl), rfl⟩
theorem vec_code_p0 (w : World) : Calls Tryz.prog 129 #[.int .i64 0] w fun e w' => e = .returned (.string (bs [49])) ∧ w = w' := by
  go_enter Tryz.func129, Tryz.ntmps129
  go_wp2_with fail
  go_ret
  exact ⟨ret_strk (by kernel_rfl), rfl⟩
theorem vec_code_p1 (w : World) : Calls Tryz.prog 129 #[.int .i64 1] w fun e w' => e = .returned (.string (bs [48, 49, 48])) ∧ w = w' := by
  go_enter Tryz.func129, Tryz.ntmps129
  go_wp2_with (go_at_call 153; refine (vec_base1 _).mono ?_; rintro e w' ⟨rfl, rfl⟩)
  go_ret
  exact ⟨ret_strk (by kernel_rfl), rfl⟩
theorem vec_code_p2 (w : World) : Calls Tryz.prog 129 #[.int .i64 2] w fun e w' => e = .returned (.string (bs [48, 48, 49, 48])) ∧ w = w' := by
  go_enter Tryz.func129, Tryz.ntmps129
  go_wp2_with (go_at_call 153; refine (vec_base2 _).mono ?_; rintro e w' ⟨rfl, rfl⟩)
  go_ret
  exact ⟨ret_strk (by kernel_rfl), rfl⟩
theorem vec_code_p3 (w : World) : Calls Tryz.prog 129 #[.int .i64 3] w fun e w' => e = .returned (.string (bs [48, 48, 48, 49, 48])) ∧ w = w' := by
  go_enter Tryz.func129, Tryz.ntmps129
  go_wp2_with (go_at_call 153; refine (vec_base3 _).mono ?_; rintro e w' ⟨rfl, rfl⟩)
  go_ret
  exact ⟨ret_strk (by kernel_rfl), rfl⟩
theorem vec_code_p4 (w : World) : Calls Tryz.prog 129 #[.int .i64 4] w fun e w' => e = .returned (.string (bs [48, 48, 48, 48, 49, 49, 48])) ∧ w = w' := by
  go_enter Tryz.func129, Tryz.ntmps129
  go_wp2_with (go_at_call 153; refine (vec_base4 _).mono ?_; rintro e w' ⟨rfl, rfl⟩)
  go_ret
  exact ⟨ret_strk (by kernel_rfl), rfl⟩
theorem vec_code_p5 (w : World) : Calls Tryz.prog 129 #[.int .i64 5] w fun e w' => e = .returned (.string (bs [48, 48, 48, 48, 49, 48, 49, 48])) ∧ w = w' := by
  go_enter Tryz.func129, Tryz.ntmps129
  go_wp2_with (go_at_call 153; refine (vec_base5 _).mono ?_; rintro e w' ⟨rfl, rfl⟩)
  go_ret
  exact ⟨ret_strk (by kernel_rfl), rfl⟩
theorem vec_code_p6 (w : World) : Calls Tryz.prog 129 #[.int .i64 6] w fun e w' => e = .returned (.string (bs [48, 48, 48, 48, 49, 48, 48, 48])) ∧ w = w' := by
  go_enter Tryz.func129, Tryz.ntmps129
  go_wp2_with (go_at_call 153; refine (vec_base6 _).mono ?_; rintro e w' ⟨rfl, rfl⟩)
  go_ret
  exact ⟨ret_strk (by kernel_rfl), rfl⟩
theorem vec_code_p7 (w : World) : Calls Tryz.prog 129 #[.int .i64 7] w fun e w' => e = .returned (.string (bs [48, 48, 48, 48, 48, 49, 49, 48])) ∧ w = w' := by
  go_enter Tryz.func129, Tryz.ntmps129
  go_wp2_with (go_at_call 153; refine (vec_base7 _).mono ?_; rintro e w' ⟨rfl, rfl⟩)
  go_ret
  exact ⟨ret_strk (by kernel_rfl), rfl⟩
theorem vec_code_p8 (w : World) : Calls Tryz.prog 129 #[.int .i64 8] w fun e w' => e = .returned (.string (bs [48, 48, 48, 48, 48, 49, 48, 49, 49, 48])) ∧ w = w' := by
  go_enter Tryz.func129, Tryz.ntmps129
  go_wp2_with (go_at_call 153; refine (vec_base8 _).mono ?_; rintro e w' ⟨rfl, rfl⟩)
  go_ret
  exact ⟨ret_strk (by kernel_rfl), rfl⟩
theorem vec_code_p9 (w : World) : Calls Tryz.prog 129 #[.int .i64 9] w fun e w' => e = .returned (.string (bs [48, 48, 48, 48, 48, 49, 48, 49, 48, 48])) ∧ w = w' := by
  go_enter Tryz.func129, Tryz.ntmps129
  go_wp2_with (go_at_call 153; refine (vec_base9 _).mono ?_; rintro e w' ⟨rfl, rfl⟩)
  go_ret
  exact ⟨ret_strk (by kernel_rfl), rfl⟩
theorem vec_code_p10 (w : World) : Calls Tryz.prog 129 #[.int .i64 10] w fun e w' => e = .returned (.string (bs [48, 48, 48, 48, 48, 49, 48, 48, 49, 48])) ∧ w = w' := by
  go_enter Tryz.func129, Tryz.ntmps129
  go_wp2_with (go_at_call 153; refine (vec_base10 _).mono ?_; rintro e w' ⟨rfl, rfl⟩)
  go_ret
  exact ⟨ret_strk (by kernel_rfl), rfl⟩
theorem vec_code_p11 (w : World) : Calls Tryz.prog 129 #[.int .i64 11] w fun e w' => e = .returned (.string (bs [48, 48, 48, 48, 48, 49, 48, 48, 48, 49, 48])) ∧ w = w' := by
  go_enter Tryz.func129, Tryz.ntmps129
  go_wp2_with (go_at_call 153; refine (vec_base11 _).mono ?_; rintro e w' ⟨rfl, rfl⟩)
  go_ret
  exact ⟨ret_strk (by kernel_rfl), rfl⟩
theorem vec_code_p12 (w : World) : Calls Tryz.prog 129 #[.int .i64 12] w fun e w' => e = .returned (.string (bs [48, 48, 48, 48, 48, 49, 48, 48, 48, 48, 48])) ∧ w = w' := by
  go_enter Tryz.func129, Tryz.ntmps129
  go_wp2_with (go_at_call 153; refine (vec_base12 _).mono ?_; rintro e w' ⟨rfl, rfl⟩)
  go_ret
  exact ⟨ret_strk (by kernel_rfl), rfl⟩
theorem vec_code_p13 (w : World) : Calls Tryz.prog 129 #[.int .i64 13] w fun e w' => e = .returned (.string (bs [48, 48, 48, 48, 48, 48, 49, 49, 49, 49, 48])) ∧ w = w' := by
  go_enter Tryz.func129, Tryz.ntmps129
  go_wp2_with (go_at_call 153; refine (vec_base13 _).mono ?_; rintro e w' ⟨rfl, rfl⟩)
  go_ret
  exact ⟨ret_strk (by kernel_rfl), rfl⟩
theorem vec_code_p14 (w : World) : Calls Tryz.prog 129 #[.int .i64 14] w fun e w' => e = .returned (.string (bs [48, 48, 48, 48, 48, 48, 49, 49, 49, 48, 48])) ∧ w = w' := by
  go_enter Tryz.func129, Tryz.ntmps129
  go_wp2_with (go_at_call 153; refine (vec_base14 _).mono ?_; rintro e w' ⟨rfl, rfl⟩)
  go_ret
  exact ⟨ret_strk (by kernel_rfl), rfl⟩
theorem vec_code_p15 (w : World) : Calls Tryz.prog 129 #[.int .i64 15] w fun e w' => e = .returned (.string (bs [48, 48, 48, 48, 48, 48, 49, 49, 48, 49, 48])) ∧ w = w' := by
  go_enter Tryz.func129, Tryz.ntmps129
  go_wp2_with (go_at_call 153; refine (vec_base15 _).mono ?_; rintro e w' ⟨rfl, rfl⟩)
  go_ret
  exact ⟨ret_strk (by kernel_rfl), rfl⟩
theorem vector_code (d : Int) (h1 : -16 ≤ d) (h2 : d ≤ 15) (w : World) : Calls Tryz.prog 129 #[.int .i64 d] w fun e w' => e = .returned (.string (bs (vecP d))) ∧ w = w' := by
  have h : d = (-16) ∨ d = (-15) ∨ d = (-14) ∨ d = (-13) ∨ d = (-12) ∨ d = (-11) ∨ d = (-10) ∨ d = (-9) ∨ d = (-8) ∨ d = (-7) ∨ d = (-6) ∨ d = (-5) ∨ d = (-4) ∨ d = (-3) ∨ d = (-2) ∨ d = (-1) ∨ d = 0 ∨ d = 1 ∨ d = 2 ∨ d = 3 ∨ d = 4 ∨ d = 5 ∨ d = 6 ∨ d = 7 ∨ d = 8 ∨ d = 9 ∨ d = 10 ∨ d = 11 ∨ d = 12 ∨ d = 13 ∨ d = 14 ∨ d = 15 := by omega
  rcases h with rfl | rfl | rfl | rfl | rfl | rfl | rfl | rfl | rfl | rfl | rfl | rfl | rfl | rfl | rfl | rfl | rfl | rfl | rfl | rfl | rfl | rfl | rfl | rfl | rfl | rfl | rfl | rfl | rfl | rfl | rfl | rfl
  · rw [show vecP (-16) = [48, 48, 48, 48, 48, 48, 49, 49, 48, 48, 49] by kernel_rfl]; exact vec_code_m16 w
  · rw [show vecP (-15) = [48, 48, 48, 48, 48, 48, 49, 49, 48, 49, 49] by kernel_rfl]; exact vec_code_m15 w
  · rw [show vecP (-14) = [48, 48, 48, 48, 48, 48, 49, 49, 49, 48, 49] by kernel_rfl]; exact vec_code_m14 w
  · rw [show vecP (-13) = [48, 48, 48, 48, 48, 48, 49, 49, 49, 49, 49] by kernel_rfl]; exact vec_code_m13 w
  · rw [show vecP (-12) = [48, 48, 48, 48, 48, 49, 48, 48, 48, 48, 49] by kernel_rfl]; exact vec_code_m12 w
  · rw [show vecP (-11) = [48, 48, 48, 48, 48, 49, 48, 48, 48, 49, 49] by kernel_rfl]; exact vec_code_m11 w
  · rw [show vecP (-10) = [48, 48, 48, 48, 48, 49, 48, 48, 49, 49] by kernel_rfl]; exact vec_code_m10 w
  · rw [show vecP (-9) = [48, 48, 48, 48, 48, 49, 48, 49, 48, 49] by kernel_rfl]; exact vec_code_m9 w
  · rw [show vecP (-8) = [48, 48, 48, 48, 48, 49, 48, 49, 49, 49] by kernel_rfl]; exact vec_code_m8 w
  · rw [show vecP (-7) = [48, 48, 48, 48, 48, 49, 49, 49] by kernel_rfl]; exact vec_code_m7 w
  · rw [show vecP (-6) = [48, 48, 48, 48, 49, 48, 48, 49] by kernel_rfl]; exact vec_code_m6 w
  · rw [show vecP (-5) = [48, 48, 48, 48, 49, 48, 49, 49] by kernel_rfl]; exact vec_code_m5 w
  · rw [show vecP (-4) = [48, 48, 48, 48, 49, 49, 49] by kernel_rfl]; exact vec_code_m4 w
  · rw [show vecP (-3) = [48, 48, 48, 49, 49] by kernel_rfl]; exact vec_code_m3 w
  · rw [show vecP (-2) = [48, 48, 49, 49] by kernel_rfl]; exact vec_code_m2 w
  · rw [show vecP (-1) = [48, 49, 49] by kernel_rfl]; exact vec_code_m1 w
  · rw [show vecP 0 = [49] by kernel_rfl]; exact vec_code_p0 w
  · rw [show vecP 1 = [48, 49, 48] by kernel_rfl]; exact vec_code_p1 w
  · rw [show vecP 2 = [48, 48, 49, 48] by kernel_rfl]; exact vec_code_p2 w
  · rw [show vecP 3 = [48, 48, 48, 49, 48] by kernel_rfl]; exact vec_code_p3 w
  · rw [show vecP 4 = [48, 48, 48, 48, 49, 49, 48] by kernel_rfl]; exact vec_code_p4 w
  · rw [show vecP 5 = [48, 48, 48, 48, 49, 48, 49, 48] by kernel_rfl]; exact vec_code_p5 w
  · rw [show vecP 6 = [48, 48, 48, 48, 49, 48, 48, 48] by kernel_rfl]; exact vec_code_p6 w
  · rw [show vecP 7 = [48, 48, 48, 48, 48, 49, 49, 48] by kernel_rfl]; exact vec_code_p7 w
  · rw [show vecP 8 = [48, 48, 48, 48, 48, 49, 48, 49, 49, 48] by kernel_rfl]; exact vec_code_p8 w
  · rw [show vecP 9 = [48, 48, 48, 48, 48, 49, 48, 49, 48, 48] by kernel_rfl]; exact vec_code_p9 w
  · rw [show vecP 10 = [48, 48, 48, 48, 48, 49, 48, 48, 49, 48] by kernel_rfl]; exact vec_code_p10 w
  · rw [show vecP 11 = [48, 48, 48, 48, 48, 49, 48, 48, 48, 49, 48] by kernel_rfl]; exact vec_code_p11 w
  · rw [show vecP 12 = [48, 48, 48, 48, 48, 49, 48, 48, 48, 48, 48] by kernel_rfl]; exact vec_code_p12 w
  · rw [show vecP 13 = [48, 48, 48, 48, 48, 48, 49, 49, 49, 49, 48] by kernel_rfl]; exact vec_code_p13 w
  · rw [show vecP 14 = [48, 48, 48, 48, 48, 48, 49, 49, 49, 48, 48] by kernel_rfl]; exact vec_code_p14 w
  · rw [show vecP 15 = [48, 48, 48, 48, 48, 48, 49, 49, 48, 49, 48] by kernel_rfl]; exact vec_code_p15 w
theorem vector_part (n : Int) (w : World) : Calls Tryz.prog 128 #[.int .i64 n] w fun e w' => e = .returned (.bool (partB n)) ∧ w = w' := by
  by_cases a : -15 ≤ n
  · have a1 : decide (-15 ≤ n) = true := decide_eq_true a
    by_cases b : n ≤ 15
    · have b1 : decide (n ≤ 15) = true := decide_eq_true b
      have hv : partB n = true := by simp [partB, a, b]
      rw [hv]; clear hv
      go_enter Tryz.func128, Tryz.ntmps128
      go_wp2
      go_ret
      exact ⟨rfl, rfl⟩
    · have b1 : decide (n ≤ 15) = false := decide_eq_false b
      have hv : partB n = false := by simp [partB]; omega
      rw [hv]; clear hv
      go_enter Tryz.func128, Tryz.ntmps128
      go_wp2
      go_ret
      exact ⟨rfl, rfl⟩
  · have a1 : decide (-15 ≤ n) = false := decide_eq_false a
    have hv : partB n = false := by simp [partB]; omega
    rw [hv]; clear hv
    go_enter Tryz.func128, Tryz.ntmps128
    go_wp2
    go_ret
    exact ⟨rfl, rfl⟩
theorem vector_Diff (fr to : Int) (w : World) (h1 : partB fr = true) (h2 : partB to = true) : Calls Tryz.prog 92 #[.int .i64 fr, .int .i64 to] w fun e w' => e = .returned (.tuple #[.int .i64 (diffP fr to), .int .i64 0]) ∧ w = w' := by
  have ⟨a1, a2⟩ : -15 ≤ fr ∧ fr ≤ 15 := by simpa [partB] using h1
  have ⟨b1, b2⟩ : -15 ≤ to ∧ to ≤ 15 := by simpa [partB] using h2
  have hp : 0 ≤ to - fr + 16 + 64 := by omega
  have hd := Lib.hid (show diffP fr to = (to - fr + 80) % 32 - 16 from rfl)
  go_enter Tryz.func92, Tryz.ntmps92
  go_wp2_with (go_at_call 128; refine (vector_part _ _).mono ?_; rintro e w' ⟨rfl, rfl⟩)
  go_ret2
  rw [hd.out, show to - fr + 80 = to - fr + 16 + 64 by omega]
  exact ⟨rfl, rfl⟩
theorem vector_Predict (ad d : Int) (had : Bool) (x y : Int) (w : World) : Calls Tryz.prog 70 #[.int .i64 ad, .int .i64 d, .bool had, .int .i64 x, .int .i64 y] w fun e w' => e = .returned (.tuple #[.int .i64 (predP ad d had x y).1, .int .i64 (predP ad d had x y).2]) ∧ w = w' := by
  unfold predP
  obtain ⟨b, hb⟩ : ∃ b, newB ad d had = b := ⟨_, rfl⟩
  rw [hb]
  unfold newB at hb
  cases had with
  | false =>
    simp at hb; subst hb
    go_enter Tryz.func70, Tryz.ntmps70
    go_wp2
    go_ret2
    exact ⟨rfl, rfl⟩
  | true =>
    by_cases h1 : d = 1
    · subst h1
      by_cases h2 : ad = 1
      · subst h2
        simp at hb; subst hb
        go_enter Tryz.func70, Tryz.ntmps70
        go_wp2
        go_ret2
        exact ⟨rfl, rfl⟩
      · have h2b : (ad == 1) = false := beq_eq_false_iff_ne.2 h2
        by_cases h3 : ad = 12
        · subst h3
          simp at hb; subst hb
          go_enter Tryz.func70, Tryz.ntmps70
          go_wp2
          go_ret2
          exact ⟨rfl, rfl⟩
        · have h3b : (ad == 12) = false := beq_eq_false_iff_ne.2 h3
          by_cases h4 : ad = 23
          · subst h4
            simp at hb; subst hb
            go_enter Tryz.func70, Tryz.ntmps70
            go_wp2
            go_ret2
            exact ⟨rfl, rfl⟩
          · have h4b : (ad == 23) = false := beq_eq_false_iff_ne.2 h4
            simp [h2b, h3b, h4b] at hb; subst hb
            clear h2 h3 h4
            go_enter Tryz.func70, Tryz.ntmps70
            go_wp2
            go_ret2
            exact ⟨rfl, rfl⟩
    · have h1b : (d != 1) = true := bne_iff_ne.2 h1
      simp [h1b] at hb; subst hb
      clear h1
      go_enter Tryz.func70, Tryz.ntmps70
      go_wp2
      go_ret2
      exact ⟨rfl, rfl⟩
set_option maxRecDepth 100000 in
theorem vector_Put (d : Int) (w : World) (h1 : -16 ≤ d) (h2 : d ≤ 15) : Calls Tryz.prog 93 #[.int .i64 d] w fun e w' => e = .returned (.tuple #[.string (bs (vecP d)), .int .i64 0]) ∧ w = w' := by
  have C := Lib.hid (fun W => vector_code d h1 h2 W)
  have a1 : decide (d < -16) = false := decide_eq_false (by omega)
  have a2 : decide (15 < d) = false := decide_eq_false (by omega)
  go_enter Tryz.func93, Tryz.ntmps93
  go_wp2_with (go_at_call 129; refine (C.out _).mono ?_; rintro e w' ⟨rfl, rfl⟩)
  go_ret2
  exact ⟨rfl, rfl⟩
theorem turn_ok {pr d : Int} (h1 : partB pr = true) (h2 : -16 ≤ d) (h3 : d ≤ 15) : turnP pr d = if partB (pr + d) then (pr + d, 0) else if partB (pr + d + 32) then (pr + d + 32, 0) else if partB (pr + d - 32) then (pr + d - 32, 0) else (0, 12) := by
  unfold turnP
  rw [h1]
  simp [decide_eq_false (show ¬ d < -16 by omega), decide_eq_false (show ¬ 15 < d by omega)]
set_option maxRecDepth 100000 in
set_option maxHeartbeats 1000000 in
theorem vector_Turn (pr d : Int) (w : World) (h1 : partB pr = true) (h2 : -16 ≤ d) (h3 : d ≤ 15) : Calls Tryz.prog 113 #[.int .i64 pr, .int .i64 d] w fun e w' => e = .returned (.tuple #[.int .i64 (turnP pr d).1, .int .i64 (turnP pr d).2]) ∧ w = w' := by
  have HT := Lib.hid (turn_ok h1 h2 h3)
  have P1 := Lib.hid (fun W => vector_part pr W)
  rw [h1] at P1
  have hpr : -15 ≤ pr ∧ pr ≤ 15 := by simpa [partB] using h1
  obtain ⟨a1, a2⟩ := hpr
  have b1 : decide (d < -16) = false := decide_eq_false (by omega)
  have b2 : decide (15 < d) = false := decide_eq_false (by omega)
  have i0 : ∀ W : World, (Instr.index 171 (.agg #[.int .i64 0, .int .i64 32, .int .i64 (-32)]) (.int .i64 0)).run Tryz.prog W = .ok (.int .i64 0) W := fun _ => by kernel_rfl
  have i1 : ∀ W : World, (Instr.index 171 (.agg #[.int .i64 0, .int .i64 32, .int .i64 (-32)]) (.int .i64 1)).run Tryz.prog W = .ok (.int .i64 32) W := fun _ => by kernel_rfl
  have i2 : ∀ W : World, (Instr.index 171 (.agg #[.int .i64 0, .int .i64 32, .int .i64 (-32)]) (.int .i64 2)).run Tryz.prog W = .ok (.int .i64 (-32)) W := fun _ => by kernel_rfl
  clear h1
  go_enter Tryz.func113, Tryz.ntmps113
  go_wp2_with (go_at_call 128; refine (P1.out _).mono ?_; rintro e w' ⟨rfl, rfl⟩)
  go_step3
  go_wp2_with (go_at_call 128; refine (P1.out _).mono ?_; rintro e w' ⟨rfl, rfl⟩)
  go_step3
  go_wp2_with fail
  go_loopg [6, 7, 23] 3 (fun g x e i => fun wr => ∃ j : Nat, j + g = 3 ∧ x = .int .i64 0 ∧ e = .int .i64 12 ∧ i = .int .i64 (j : Int) ∧ w = wr ∧ Hid ((1 ≤ j → partB (pr + d) = false) ∧ (2 ≤ j → partB (pr + d + 32) = false) ∧ (3 ≤ j → partB (pr + d + (-32)) = false)))
  case atStart => exact ⟨0, by omega, rfl, rfl, rfl, rfl, Lib.hid ⟨by omega, by omega, by omega⟩⟩
  case round =>
    obtain ⟨j, hj, rfl, rfl, rfl, rfl, HJ⟩ := hrel
    rw [show pr + d - 32 = pr + d + (-32) by omega] at HT
    have hj4 : j = 0 ∨ j = 1 ∨ j = 2 ∨ j = 3 := by omega
    rcases hj4 with rfl | rfl | rfl | rfl
    · by_cases hp : partB (pr + d) = true
      · go_wp2_with (go_at_call 128; refine (vector_part _ _).mono ?_; rintro e w' ⟨rfl, rfl⟩)
        rw [Exit.noGoto_ret]
        go_ret2
        rw [HT.out, if_pos hp]
        exact ⟨rfl, rfl⟩
      · have hp : partB (pr + d) = false := by simpa using hp
        go_wp2_with (go_at_call 128; refine (vector_part _ _).mono ?_; rintro e w' ⟨rfl, rfl⟩)
        go_roundg 2
        case measure => omega
        case rel => exact ⟨1, by omega, rfl, rfl, rfl, rfl, Lib.hid ⟨fun _ => hp, by omega, by omega⟩⟩
    · by_cases hp : partB (pr + d + 32) = true
      · go_wp2_with (go_at_call 128; refine (vector_part _ _).mono ?_; rintro e w' ⟨rfl, rfl⟩)
        rw [Exit.noGoto_ret]
        go_ret2
        rw [HT.out, if_neg (by rw [HJ.out.1 (by omega)]; decide), if_pos hp]
        exact ⟨rfl, rfl⟩
      · have hp : partB (pr + d + 32) = false := by simpa using hp
        go_wp2_with (go_at_call 128; refine (vector_part _ _).mono ?_; rintro e w' ⟨rfl, rfl⟩)
        go_roundg 1
        case measure => omega
        case rel => exact ⟨2, by omega, rfl, rfl, rfl, rfl, Lib.hid ⟨fun _ => HJ.out.1 (by omega), fun _ => hp, by omega⟩⟩
    · by_cases hp : partB (pr + d + (-32)) = true
      · go_wp2_with (go_at_call 128; refine (vector_part _ _).mono ?_; rintro e w' ⟨rfl, rfl⟩)
        rw [Exit.noGoto_ret]
        go_ret2
        rw [HT.out, if_neg (by rw [HJ.out.1 (by omega)]; decide), if_neg (by rw [HJ.out.2.1 (by omega)]; decide), if_pos hp]
        exact ⟨rfl, rfl⟩
      · have hp : partB (pr + d + (-32)) = false := by simpa using hp
        go_wp2_with (go_at_call 128; refine (vector_part _ _).mono ?_; rintro e w' ⟨rfl, rfl⟩)
        go_roundg 0
        case measure => omega
        case rel => exact ⟨3, by omega, rfl, rfl, rfl, rfl, Lib.hid ⟨fun _ => HJ.out.1 (by omega), fun _ => HJ.out.2.1 (by omega), fun _ => hp⟩⟩
    · go_wp2_with fail
      rw [Exit.noGoto_ret]
      go_ret2
      rw [HT.out, if_neg (by rw [HJ.out.1 (by omega)]; decide), if_neg (by rw [HJ.out.2.1 (by omega)]; decide), if_neg (by rw [HJ.out.2.2 (by omega)]; decide)]
      exact ⟨rfl, rfl⟩
set_option maxRecDepth 100000 in
set_option maxHeartbeats 2000000 in
theorem vector_tree (w : World) : Calls Tryz.prog 144 #[] w (TreePost vecC vecN w) := by
  have hc : ∀ j (h : j < 32), vecC.take (j + 1) = vecC.take j ++ [vecP ((j : Int) - 16)] := by decide +kernel
  have hn : ∀ j (h : j < 32), vecN.take (j + 1) = vecN.take j ++ [(j : Int) - 16] := by decide +kernel
  have HC := Lib.hid hc; have HN := Lib.hid hn
  clear hc hn
  go_enter Tryz.func144, Tryz.ntmps144
  go_wp2_with fail
  go_loopg [1, 2, 3] 32 (fun g v1 v2 i => fun wr => ∃ j : Nat, j + g = 32 ∧ i = .int .i64 ((j : Int) - 16) ∧ Hid (TwoRows w (vecC.take j) (vecN.take j) v1 v2 wr))
  case atStart => exact ⟨0, by omega, rfl, Lib.hid (two_start w)⟩
  case round =>
    obtain ⟨j, hj, rfl, HR⟩ := hrel
    cases gk with
    | succ g =>
      have hlt : ((j : Int) - 16) < 16 := by omega
      have hl1 : (vecC.take j).length = j := by rw [List.length_take, vecC_len]; omega
      have hl2 : (vecN.take j).length = j := by rw [List.length_take, show vecN.length = 32 by kernel_rfl]; omega
      have hr := HR.out
      unfold TwoRows at hr
      rw [hl1, hl2] at hr
      obtain ⟨A1, c1, e1, _⟩ := own_sl hr.2.2.head
      obtain ⟨A2, c2, e2, _⟩ := own_sl hr.2.2.tail.head
      dsimp only at e1 e2
      subst e1 e2
      have HR1 := Lib.hid hr
      have hj32 : j ≤ 31 := by omega
      have HHJ := Lib.hid hj
      have tok : True := trivial
      clear hl1 hl2 hr hj
      obtain ⟨d, hd⟩ : ∃ d, d = (j : Int) - 16 := ⟨_, rfl⟩
      have hd1 : -16 ≤ d := by omega
      have hd2 : d ≤ 15 := by omega
      rw [← hd] at hlt ⊢
      have HDD := Lib.hid hd
      clear hd
      go_wp2_with (first
        | (go_at_call 129; refine (vector_code d hd1 hd2 _).mono ?_; rintro e w' ⟨rfl, rfl⟩)
        | (at_builtin; have _t := tok; refine wpList_appC etStr rfl rfl 1 [strV (vecP d)] rfl HR1.out rfl rfl (strV1 _) (by omega) ⟨Nat.le_refl _, HR1.out.1.size⟩ (by simp) (by simp) ?_; clear tok; intro v1 W1 hc1; have HC1 := Lib.hid hc1; clear hc1)
        | (at_builtin; refine wpList_appC etInt rfl rfl 1 [intV d] rfl (cons_swap HC1.out) rfl rfl (intV1 _) (by omega) ⟨Nat.le_refl _, HC1.out.1.size⟩ (by simp) (by simp) ?_; intro v2 W2 hc2; have HC2 := Lib.hid hc2; clear hc2))
      go_roundg g
      case measure => omega
      case rel =>
        refine ⟨j + 1, by have := HHJ.out; omega, ?_, Lib.hid ?_⟩
        · rw [HDD.out]; congr 1; omega
        · unfold TwoRows
          rw [HC.out j (by omega), HN.out j (by omega), ← HDD.out]
          simp only [List.length_append, List.map_append, List.length_take, vecC_len, show vecN.length = 32 by kernel_rfl, Nat.min_eq_left (show j ≤ 32 by omega), List.length_cons, List.length_nil, List.map_cons, List.map_nil]
          exact cons_swap HC2.out
    | zero =>
      obtain rfl : j = 32 := by omega
      have hr := HR.out
      rw [show vecC.take 32 = vecC by kernel_rfl, show vecN.take 32 = vecN by kernel_rfl] at hr
      obtain ⟨A, B, c, d, rfl, rfl, hA, hB, hb⟩ := two_get hr (by rw [vecC_len]; decide) (by kernel_rfl)
      have CM := Lib.hid (make_tree vec_codes A B c d wr hA hB)
      have HB := Lib.hid hb
      rw [vecC_len] at CM ⊢
      clear hr hA hB hb
      go_wp2_with (go_at_call 125; refine CM.out.mono ?_; rintro e w' ⟨T, rfl, hpt⟩; have HPT := Lib.hid hpt; clear hpt)
      go_ret
      exact ⟨_, T, rfl, HPT.out.1, HB.out.trans (HPT.out.2.mono HB.out.size)⟩
theorem vector_Get (A : Option Addr) (n c : Nat) (l : List UInt8) (i : Int) (w : World) (hA : Sl w A (l.map byteV)) (hn : l.length = n) (hsz : n ≤ 2 ^ 47) (hi : -9223372036854775808 ≤ i ∧ i ≤ 9223372036854775807) :
    Calls Tryz.prog 112 #[.slice A n c, .int .i64 i] w fun e w' => e = .returned (.tuple #[.int .i64 (treeR vecC vecN l i).1, .int .i64 (treeR vecC vecN l i).2.1, .int .i64 (treeR vecC vecN l i).2.2]) ∧ Below w.heap.size w w' := by
  have HA := Lib.hid hA; have Hn := Lib.hid hn
  clear hA hn
  go_enter Tryz.func112, Tryz.ntmps112
  go_wp2_with (first
    | (go_at_call 144; refine (vector_tree _).mono ?_; rintro e w1 ⟨base, T, rfl, hpt, hb1⟩; have HPT := Lib.hid hpt; have HB1 := Lib.hid hb1; clear hpt hb1)
    | (go_at_call 141; refine (get_tree vec_codes _ base T HPT.out A n c l i (HA.out.below HB1.out) Hn.out hsz hi).mono ?_; rintro e w2 ⟨rfl, hb2⟩; have HB2 := Lib.hid hb2; clear hb2))
  go_ret3
  exact ⟨rfl, HB1.out.trans (HB2.out.mono HB1.out.size)⟩
end Go.Proofs.YtcojnigkgbmbmaaGreatDoor
namespace Go.Proofs.YtcojnigkgbmbmaaGreatDoor
open Go Go.RowKit
def hasB (p : Int) (k : Nat) : Bool := decide (1 ≤ p) && decide (p ≤ 63) && (p.toNat / 2 ^ (6 - k) % 2 == 1)
theorem and_bit : ∀ n : Nat, n < 64 → (bits .and .i64 (n : Int) 32 = if n / 32 % 2 = 1 then 32 else 0) ∧ (bits .and .i64 (n : Int) 16 = if n / 16 % 2 = 1 then 16 else 0) ∧ (bits .and .i64 (n : Int) 8 = if n / 8 % 2 = 1 then 8 else 0) ∧
    (bits .and .i64 (n : Int) 4 = if n / 4 % 2 = 1 then 4 else 0) ∧ (bits .and .i64 (n : Int) 2 = if n / 2 % 2 = 1 then 2 else 0) ∧ (bits .and .i64 (n : Int) 1 = if n / 1 % 2 = 1 then 1 else 0) := by decide +kernel
def cntJ (p : Int) : Nat → Nat
  | 0 => 0
  | j + 1 => cntJ p j + (if hasB p (j + 1) then 1 else 0)
theorem cntJ_6 (p : Int) : cntJ p 6 = cntP p := by
  unfold cntP
  by_cases h : 1 ≤ p ∧ p ≤ 63
  · rw [if_pos h]
    simp only [cntJ, hasB, decide_eq_true h.1, decide_eq_true h.2, Bool.true_and, Nat.reduceSub, Nat.reducePow, Nat.reduceAdd, beq_iff_eq, Nat.div_one]
    have e : ∀ q : Nat, (if q % 2 = 1 then 1 else 0) = q % 2 := fun q => by split <;> omega
    simp only [e]
    omega
  · rw [if_neg h]
    have e : ∀ k, hasB p k = false := fun k => by
      unfold hasB
      by_cases h1 : 1 ≤ p
      · rw [decide_eq_false (show ¬ p ≤ 63 by omega)]; simp
      · rw [decide_eq_false h1]; simp
    simp [cntJ, e]
theorem pattern_Has1 (p : Int) (w : World) : Calls Tryz.prog 104 #[.int .i64 p, .int .i64 1] w fun e w' => e = .returned (.bool (hasB p 1)) ∧ Below w.heap.size w w' := by
  unfold hasB
  by_cases h1 : 1 ≤ p
  · have d1 : decide (1 ≤ p) = true := decide_eq_true h1
    by_cases h2 : p ≤ 63
    · have d2 : decide (p ≤ 63) = true := decide_eq_true h2
      obtain ⟨n, rfl⟩ := Int.eq_ofNat_of_zero_le (by omega : 0 ≤ p)
      have hb := (and_bit n (by omega)).1
      rw [d1, d2, Int.toNat_natCast, show 2 ^ (6 - 1) = 32 by rfl]
      by_cases hq : n / 32 % 2 = 1
      · rw [if_pos hq] at hb
        have HQ := Lib.hid hq
        clear hq h1 h2
        go_enter Tryz.func104, Tryz.ntmps104
        go_wp2
        go_ret
        rw [HQ.out]
        exact ⟨rfl, (Below.refl _ _).alloc (Nat.le_refl _) _⟩
      · rw [if_neg hq] at hb
        have HQ := Lib.hid (show (n / 32 % 2 == 1) = false by simpa using hq)
        clear hq h1 h2
        go_enter Tryz.func104, Tryz.ntmps104
        go_wp2
        go_ret
        rw [HQ.out]
        exact ⟨rfl, (Below.refl _ _).alloc (Nat.le_refl _) _⟩
    · have d2 : decide (p ≤ 63) = false := decide_eq_false h2
      rw [d1, d2]
      clear h1 h2
      go_enter Tryz.func104, Tryz.ntmps104
      go_wp2
      go_ret
      exact ⟨rfl, (Below.refl _ _).alloc (Nat.le_refl _) _⟩
  · have d1 : decide (1 ≤ p) = false := decide_eq_false h1
    rw [d1]
    clear h1
    go_enter Tryz.func104, Tryz.ntmps104
    go_wp2
    go_ret
    exact ⟨rfl, (Below.refl _ _).alloc (Nat.le_refl _) _⟩
theorem pattern_Has2 (p : Int) (w : World) : Calls Tryz.prog 104 #[.int .i64 p, .int .i64 2] w fun e w' => e = .returned (.bool (hasB p 2)) ∧ Below w.heap.size w w' := by
  unfold hasB
  by_cases h1 : 1 ≤ p
  · have d1 : decide (1 ≤ p) = true := decide_eq_true h1
    by_cases h2 : p ≤ 63
    · have d2 : decide (p ≤ 63) = true := decide_eq_true h2
      obtain ⟨n, rfl⟩ := Int.eq_ofNat_of_zero_le (by omega : 0 ≤ p)
      have hb := (and_bit n (by omega)).2.1
      rw [d1, d2, Int.toNat_natCast, show 2 ^ (6 - 2) = 16 by rfl]
      by_cases hq : n / 16 % 2 = 1
      · rw [if_pos hq] at hb
        have HQ := Lib.hid hq
        clear hq h1 h2
        go_enter Tryz.func104, Tryz.ntmps104
        go_wp2
        go_ret
        rw [HQ.out]
        exact ⟨rfl, (Below.refl _ _).alloc (Nat.le_refl _) _⟩
      · rw [if_neg hq] at hb
        have HQ := Lib.hid (show (n / 16 % 2 == 1) = false by simpa using hq)
        clear hq h1 h2
        go_enter Tryz.func104, Tryz.ntmps104
        go_wp2
        go_ret
        rw [HQ.out]
        exact ⟨rfl, (Below.refl _ _).alloc (Nat.le_refl _) _⟩
    · have d2 : decide (p ≤ 63) = false := decide_eq_false h2
      rw [d1, d2]
      clear h1 h2
      go_enter Tryz.func104, Tryz.ntmps104
      go_wp2
      go_ret
      exact ⟨rfl, (Below.refl _ _).alloc (Nat.le_refl _) _⟩
  · have d1 : decide (1 ≤ p) = false := decide_eq_false h1
    rw [d1]
    clear h1
    go_enter Tryz.func104, Tryz.ntmps104
    go_wp2
    go_ret
    exact ⟨rfl, (Below.refl _ _).alloc (Nat.le_refl _) _⟩
theorem pattern_Has3 (p : Int) (w : World) : Calls Tryz.prog 104 #[.int .i64 p, .int .i64 3] w fun e w' => e = .returned (.bool (hasB p 3)) ∧ Below w.heap.size w w' := by
  unfold hasB
  by_cases h1 : 1 ≤ p
  · have d1 : decide (1 ≤ p) = true := decide_eq_true h1
    by_cases h2 : p ≤ 63
    · have d2 : decide (p ≤ 63) = true := decide_eq_true h2
      obtain ⟨n, rfl⟩ := Int.eq_ofNat_of_zero_le (by omega : 0 ≤ p)
      have hb := (and_bit n (by omega)).2.2.1
      rw [d1, d2, Int.toNat_natCast, show 2 ^ (6 - 3) = 8 by rfl]
      by_cases hq : n / 8 % 2 = 1
      · rw [if_pos hq] at hb
        have HQ := Lib.hid hq
        clear hq h1 h2
        go_enter Tryz.func104, Tryz.ntmps104
        go_wp2
        go_ret
        rw [HQ.out]
        exact ⟨rfl, (Below.refl _ _).alloc (Nat.le_refl _) _⟩
      · rw [if_neg hq] at hb
        have HQ := Lib.hid (show (n / 8 % 2 == 1) = false by simpa using hq)
        clear hq h1 h2
        go_enter Tryz.func104, Tryz.ntmps104
        go_wp2
        go_ret
        rw [HQ.out]
        exact ⟨rfl, (Below.refl _ _).alloc (Nat.le_refl _) _⟩
    · have d2 : decide (p ≤ 63) = false := decide_eq_false h2
      rw [d1, d2]
      clear h1 h2
      go_enter Tryz.func104, Tryz.ntmps104
      go_wp2
      go_ret
      exact ⟨rfl, (Below.refl _ _).alloc (Nat.le_refl _) _⟩
  · have d1 : decide (1 ≤ p) = false := decide_eq_false h1
    rw [d1]
    clear h1
    go_enter Tryz.func104, Tryz.ntmps104
    go_wp2
    go_ret
    exact ⟨rfl, (Below.refl _ _).alloc (Nat.le_refl _) _⟩
theorem pattern_Has4 (p : Int) (w : World) : Calls Tryz.prog 104 #[.int .i64 p, .int .i64 4] w fun e w' => e = .returned (.bool (hasB p 4)) ∧ Below w.heap.size w w' := by
  unfold hasB
  by_cases h1 : 1 ≤ p
  · have d1 : decide (1 ≤ p) = true := decide_eq_true h1
    by_cases h2 : p ≤ 63
    · have d2 : decide (p ≤ 63) = true := decide_eq_true h2
      obtain ⟨n, rfl⟩ := Int.eq_ofNat_of_zero_le (by omega : 0 ≤ p)
      have hb := (and_bit n (by omega)).2.2.2.1
      rw [d1, d2, Int.toNat_natCast, show 2 ^ (6 - 4) = 4 by rfl]
      by_cases hq : n / 4 % 2 = 1
      · rw [if_pos hq] at hb
        have HQ := Lib.hid hq
        clear hq h1 h2
        go_enter Tryz.func104, Tryz.ntmps104
        go_wp2
        go_ret
        rw [HQ.out]
        exact ⟨rfl, (Below.refl _ _).alloc (Nat.le_refl _) _⟩
      · rw [if_neg hq] at hb
        have HQ := Lib.hid (show (n / 4 % 2 == 1) = false by simpa using hq)
        clear hq h1 h2
        go_enter Tryz.func104, Tryz.ntmps104
        go_wp2
        go_ret
        rw [HQ.out]
        exact ⟨rfl, (Below.refl _ _).alloc (Nat.le_refl _) _⟩
    · have d2 : decide (p ≤ 63) = false := decide_eq_false h2
      rw [d1, d2]
      clear h1 h2
      go_enter Tryz.func104, Tryz.ntmps104
      go_wp2
      go_ret
      exact ⟨rfl, (Below.refl _ _).alloc (Nat.le_refl _) _⟩
  · have d1 : decide (1 ≤ p) = false := decide_eq_false h1
    rw [d1]
    clear h1
    go_enter Tryz.func104, Tryz.ntmps104
    go_wp2
    go_ret
    exact ⟨rfl, (Below.refl _ _).alloc (Nat.le_refl _) _⟩
theorem pattern_Has5 (p : Int) (w : World) : Calls Tryz.prog 104 #[.int .i64 p, .int .i64 5] w fun e w' => e = .returned (.bool (hasB p 5)) ∧ Below w.heap.size w w' := by
  unfold hasB
  by_cases h1 : 1 ≤ p
  · have d1 : decide (1 ≤ p) = true := decide_eq_true h1
    by_cases h2 : p ≤ 63
    · have d2 : decide (p ≤ 63) = true := decide_eq_true h2
      obtain ⟨n, rfl⟩ := Int.eq_ofNat_of_zero_le (by omega : 0 ≤ p)
      have hb := (and_bit n (by omega)).2.2.2.2.1
      rw [d1, d2, Int.toNat_natCast, show 2 ^ (6 - 5) = 2 by rfl]
      by_cases hq : n / 2 % 2 = 1
      · rw [if_pos hq] at hb
        have HQ := Lib.hid hq
        clear hq h1 h2
        go_enter Tryz.func104, Tryz.ntmps104
        go_wp2
        go_ret
        rw [HQ.out]
        exact ⟨rfl, (Below.refl _ _).alloc (Nat.le_refl _) _⟩
      · rw [if_neg hq] at hb
        have HQ := Lib.hid (show (n / 2 % 2 == 1) = false by simpa using hq)
        clear hq h1 h2
        go_enter Tryz.func104, Tryz.ntmps104
        go_wp2
        go_ret
        rw [HQ.out]
        exact ⟨rfl, (Below.refl _ _).alloc (Nat.le_refl _) _⟩
    · have d2 : decide (p ≤ 63) = false := decide_eq_false h2
      rw [d1, d2]
      clear h1 h2
      go_enter Tryz.func104, Tryz.ntmps104
      go_wp2
      go_ret
      exact ⟨rfl, (Below.refl _ _).alloc (Nat.le_refl _) _⟩
  · have d1 : decide (1 ≤ p) = false := decide_eq_false h1
    rw [d1]
    clear h1
    go_enter Tryz.func104, Tryz.ntmps104
    go_wp2
    go_ret
    exact ⟨rfl, (Below.refl _ _).alloc (Nat.le_refl _) _⟩
theorem pattern_Has6 (p : Int) (w : World) : Calls Tryz.prog 104 #[.int .i64 p, .int .i64 6] w fun e w' => e = .returned (.bool (hasB p 6)) ∧ Below w.heap.size w w' := by
  unfold hasB
  by_cases h1 : 1 ≤ p
  · have d1 : decide (1 ≤ p) = true := decide_eq_true h1
    by_cases h2 : p ≤ 63
    · have d2 : decide (p ≤ 63) = true := decide_eq_true h2
      obtain ⟨n, rfl⟩ := Int.eq_ofNat_of_zero_le (by omega : 0 ≤ p)
      have hb := (and_bit n (by omega)).2.2.2.2.2
      rw [d1, d2, Int.toNat_natCast, show 2 ^ (6 - 6) = 1 by rfl]
      by_cases hq : n / 1 % 2 = 1
      · rw [if_pos hq] at hb
        have HQ := Lib.hid hq
        clear hq h1 h2
        go_enter Tryz.func104, Tryz.ntmps104
        go_wp2
        go_ret
        rw [HQ.out]
        exact ⟨rfl, (Below.refl _ _).alloc (Nat.le_refl _) _⟩
      · rw [if_neg hq] at hb
        have HQ := Lib.hid (show (n / 1 % 2 == 1) = false by simpa using hq)
        clear hq h1 h2
        go_enter Tryz.func104, Tryz.ntmps104
        go_wp2
        go_ret
        rw [HQ.out]
        exact ⟨rfl, (Below.refl _ _).alloc (Nat.le_refl _) _⟩
    · have d2 : decide (p ≤ 63) = false := decide_eq_false h2
      rw [d1, d2]
      clear h1 h2
      go_enter Tryz.func104, Tryz.ntmps104
      go_wp2
      go_ret
      exact ⟨rfl, (Below.refl _ _).alloc (Nat.le_refl _) _⟩
  · have d1 : decide (1 ≤ p) = false := decide_eq_false h1
    rw [d1]
    clear h1
    go_enter Tryz.func104, Tryz.ntmps104
    go_wp2
    go_ret
    exact ⟨rfl, (Below.refl _ _).alloc (Nat.le_refl _) _⟩
theorem pattern_Has (p : Int) (j : Nat) (hj : j < 6) (w : World) : Calls Tryz.prog 104 #[.int .i64 p, .int .i64 ((j : Int) + 1)] w fun e w' => e = .returned (.bool (hasB p (j + 1))) ∧ Below w.heap.size w w' := by
  have h : j = 0 ∨ j = 1 ∨ j = 2 ∨ j = 3 ∨ j = 4 ∨ j = 5 := by omega
  rcases h with rfl | rfl | rfl | rfl | rfl | rfl
  · exact pattern_Has1 p w
  · exact pattern_Has2 p w
  · exact pattern_Has3 p w
  · exact pattern_Has4 p w
  · exact pattern_Has5 p w
  · exact pattern_Has6 p w
theorem pattern_Count (p : Int) (w : World) : Calls Tryz.prog 60 #[.int .i64 p] w fun e w' => e = .returned (.int .i64 (cntP p : Nat)) ∧ Below w.heap.size w w' := by
  rw [← cntJ_6]
  go_enter Tryz.func60, Tryz.ntmps60
  go_wp2_with fail
  go_loopg [2, 4] 6 (fun g v2 v4 => fun wr => ∃ j : Nat, j + g = 6 ∧ v2 = .int .i64 (cntJ p j : Nat) ∧ v4 = .int .i64 (j : Int) ∧ cntJ p j ≤ j ∧ Below w.heap.size w wr)
  case atStart => exact ⟨0, by omega, rfl, rfl, by simp [cntJ], Below.refl _ _⟩
  case round =>
    obtain ⟨j, hj, rfl, rfl, hle, hb⟩ := hrel
    cases gk with
    | zero =>
      obtain rfl : j = 6 := by omega
      have hlt : ¬ (((6 : Nat) : Int) < 6) := by omega
      go_wp2_with fail
      go_ret
      exact ⟨rfl, hb⟩
    | succ g =>
      have hlt : ((j : Int) < 6) := by omega
      have hj6 : j < 6 := by omega
      have CH := Lib.hid (pattern_Has p j hj6 wr)
      have hs : cntJ p (j + 1) = cntJ p j + (if hasB p (j + 1) then 1 else 0) := rfl
      have HB := Lib.hid hb
      obtain ⟨q, hq⟩ : ∃ q, cntJ p j = q := ⟨_, rfl⟩
      rw [hq] at hs hle ⊢
      clear hb hq
      by_cases hh : hasB p (j + 1) = true
      · rw [hh] at CH hs
        have HSS := Lib.hid hs
        clear hs hh
        go_wp2_with (go_at_call 104; refine CH.out.mono ?_; rintro e w2 ⟨rfl, hb2⟩; have HB2 := Lib.hid hb2; clear hb2)
        go_roundg g
        case measure => omega
        case rel => exact ⟨j + 1, by omega, by rw [HSS.out]; simp, by simp, by rw [HSS.out]; simp; omega, HB.out.trans (HB2.out.mono HB.out.size)⟩
      · have hh : hasB p (j + 1) = false := by simpa using hh
        rw [hh] at CH hs
        have HSS := Lib.hid hs
        clear hs hh
        go_wp2_with (go_at_call 104; refine CH.out.mono ?_; rintro e w2 ⟨rfl, hb2⟩; have HB2 := Lib.hid hb2; clear hb2)
        go_roundg g
        case measure => omega
        case rel => exact ⟨j + 1, by omega, by rw [HSS.out]; simp, by simp, by rw [HSS.out]; simp; omega, HB.out.trans (HB2.out.mono HB.out.size)⟩
end Go.Proofs.YtcojnigkgbmbmaaGreatDoor
