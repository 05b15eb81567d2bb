/- PfxT -/
import Derived.Test.YtcojnigkgbmbmaaGreatDoorK10
import Derived.Test.YtcojnigkgbmbmaaGreatDoorK11
namespace Go.Proofs.YtcojnigkgbmbmaaGreatDoor
open Go Go.RowKit Go.Maps
theorem ret_strk {a : ByteArray} {l : List UInt8} (h : a = bs l) : Ending.returned (.string a) = .returned (.string (bs l)) := by rw [h]
/-- codes, and their numbers, that make a tree. -/
structure CodesOk (cs : List (List UInt8)) (ns : List Int) : Prop where
  ok : okT 24 (treeN cs ns) 0 (cs.zip ns) = true
  wf : wfN (treeN cs ns) = true
  put : (putAll [nd0] cs ns).isSome = true
  code : cs.all isCode = true
  len : ns.length = cs.length
  pos : 1 ≤ cs.length
  le : cs.length ≤ 300
  num : ns.all (fun k => (Lit.int .i64 k).wf) = true
  has : 0 < (treeN cs ns).length
theorem kind_codes : CodesOk kindC kindN := ⟨kind_ok, kind_wf, kind_put, kind_code, by kernel_rfl, by decide, by decide, by kernel_rfl, of_decide_eq_true (by kernel_rfl)⟩
theorem vec_codes : CodesOk vecC vecN := ⟨vec_ok, vec_wf, vec_put, Go.Proofs.YtcojnigkgbmbmaaGreatDoor.vec_code, by kernel_rfl, by decide, by decide, by kernel_rfl, of_decide_eq_true (by kernel_rfl)⟩
theorem pat_codes : CodesOk patC patN := ⟨pat_ok, pat_wf, pat_put, pat_code, by kernel_rfl, by decide, by decide, by kernel_rfl, of_decide_eq_true (by kernel_rfl)⟩
/-- a tree is handed back. -/
def TreePost (cs : List (List UInt8)) (ns : List Int) (w : World) (e : Ending) (w' : World) : Prop := ∃ base T, e = .returned (.pointer (some ⟨T, 0, none⟩)) ∧ PTree w' base T (treeN cs ns) (mapT cs ns) cs.length ∧ Below w.heap.size w w'
theorem make_tree {cs : List (List UInt8)} {ns : List Int} (h : CodesOk cs ns) (A B : Option Addr) (c d : Nat) (w : World) (hA : Sl w A (cs.map strV)) (hB : Sl w B (ns.map intV)) : Calls Tryz.prog 125 #[.slice A cs.length c, .slice B cs.length d] w (MkPost cs ns w) :=
  prefix_Make A B cs.length c d cs ns w hA hB rfl h.len h.pos h.le h.code h.put h.num
theorem get_tree {cs : List (List UInt8)} {ns : List Int} (h : CodesOk cs ns) (w : World) (base T : Nat) (hT : PTree w base T (treeN cs ns) (mapT cs ns) cs.length) (A : Option Addr) (n c : Nat) (l : List UInt8) (i : Int) (hA : Sl w A (l.map byteV)) (hn : l.length = n) (hsz : n ≤ 2 ^ 47) (hi : -9223372036854775808 ≤ i ∧ i ≤ 9223372036854775807) :
    Calls Tryz.prog 141 #[.pointer (some ⟨T, 0, none⟩), .slice A n c, .int .i64 i] w fun e w' => e = .returned (.tuple #[.int .i64 (treeR cs ns l i).1, .int .i64 (treeR cs ns l i).2.1, .int .i64 (treeR cs ns l i).2.2]) ∧ Below w.heap.size w w' := by
  have hr : (if i < 0 then ((0, 0, 3) : Int × Int × Int) else walkT (treeN cs ns) 0 (bitsL l i.toNat (8 * n - i.toNat)) 0) = treeR cs ns l i := by
    by_cases h1 : i < 0
    · unfold treeR; rw [if_pos h1, if_pos h1]
    · obtain ⟨k, rfl⟩ := Int.eq_ofNat_of_zero_le (by omega : 0 ≤ i)
      rw [if_neg h1, ← hn, Int.toNat_natCast]
      exact walk_tree _ _ _ h.ok h.len.symm l k
  have := prefix_Get w base T _ _ _ hT (by have := h.pos; omega) h.wf h.has A n c l i hA hn hsz hi
  rw [hr] at this
  exact this
theorem put_tree {cs : List (List UInt8)} {ns : List Int} (h : CodesOk cs ns) (w : World) (base T : Nat) (hT : PTree w base T (treeN cs ns) (mapT cs ns) cs.length) (num : Int) (hnum : (Lit.int .i64 num).wf = true) :
    Calls Tryz.prog 90 #[.pointer (some ⟨T, 0, none⟩), .int .i64 num] w fun e w' => e = .returned (.tuple #[.string (bs ((codeF cs ns num).getD [])), .int .i64 (if (codeF cs ns num).isSome then 0 else 18)]) ∧ Below w.heap.size w w' :=
  prefix_Put w base T _ _ _ _ hT (by have := h.pos; omega) (tells_map cs ns) num hnum
/-- rows of texts and of numbers, while a tree is told. -/
def TwoRows (w : World) (cs : List (List UInt8)) (ns : List Int) (v1 v2 : Value) (W : World) : Prop := Cons w [] [⟨w.heap.size, 9, 1, v1, cs.length, cs.map strV⟩, ⟨w.heap.size, 3, 1, v2, ns.length, ns.map intV⟩] W
theorem two_start (w : World) : TwoRows w [] [] (.slice none 0 0) (.slice none 0 0) w := cons_nilrow (cons_nilrow (cons_start w) _ _ _) _ _ _
theorem strV1 (c : List UInt8) : ∀ u ∈ [strV c], u.oneCell' = true := by intro u hu; simp at hu; subst hu; rfl
theorem intV1 (k : Int) : ∀ u ∈ [intV k], u.oneCell' = true := by intro u hu; simp at hu; subst hu; rfl
theorem two_get {w W : World} {cs : List (List UInt8)} {ns : List Int} {v1 v2 : Value} (h : TwoRows w cs ns v1 v2 W) (h1 : 0 < cs.length) (h2 : ns.length = cs.length) : ∃ A B c d, v1 = .slice A cs.length c ∧ v2 = .slice B cs.length d ∧ Sl W A (cs.map strV) ∧ Sl W B (ns.map intV) ∧ Below w.heap.size w W := by
  obtain ⟨g1, c1, e1, _⟩ := own_pos h.2.2.head h1
  obtain ⟨g2, c2, e2, _⟩ := own_pos h.2.2.tail.head (show 0 < ns.length by omega)
  dsimp only at e1 e2
  subst e1 e2
  exact ⟨_, _, _, _, rfl, by rw [h2], own_sl' h.2.2.head, own_sl' h.2.2.tail.head, h.1⟩
end Go.Proofs.YtcojnigkgbmbmaaGreatDoor
