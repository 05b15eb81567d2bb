/- The map of words: what the program's words makes, and a look-up in it. -/
import Derived.Test.YthcbidbhkikhmaaDoorUnh31
import Derived.Test.YthcbidbhkikhmaaDoorTree
import Derived.Maps.OwnIn
namespace Go.Proofs.YthcbidbhkikhmaaDoor
open Go Go.RowKit
theorem run_newmap {P : Program} (t : TypeId) (W : World) : (Instr.makeMap t none).run P W = .ok (.map (some W.heap.size)) (W.alloc (.map #[] 0)) := rfl
theorem alloc_set (W : World) (o o' : Obj) : ({ (W.alloc o) with heap := (W.alloc o).heap.setIfInBounds W.heap.size o' } : World) = W.alloc o' := by
  have h : (W.heap.push o).setIfInBounds W.heap.size o' = W.heap.push o' := by
    apply Array.ext_getElem?
    intro i
    rw [Array.getElem?_setIfInBounds, Array.getElem?_push, Array.getElem?_push, Array.size_push]
    by_cases h : W.heap.size = i
    · subst h; simp
    · rw [if_neg h, if_neg (fun e => h e.symm), if_neg (fun e => h e.symm)]
  show World.mk ((W.heap.push o).setIfInBounds W.heap.size o') _ _ _ _ = _
  rw [h]
  rfl
theorem run_upd {P : Program} {T key elem : TypeId} (hT : P.underlying T = some (.map key elem)) (hK : P.underlying key = some .string) (W : World) (b : Nat) (hb : b = W.heap.size) (es : Array MapEntry) (c : Nat) (k : ByteArray) (v : Value)
    (hn : Instr.findNow .string (.string k) es.toList 0 = some none) :
    (Instr.mapUpdate T (.map (some b)) (.string k) v).run P (W.alloc (.map es c)) = .ok () (W.alloc (.map (es.push { key := .string k, val := v, born := c }) (c + 1))) := by
  subst hb
  have h1 : (W.alloc (.map es c)).heap[W.heap.size]? = some (.map es c) := heap_alloc_new W _
  have h2 : MapKept.IsKey .string (.string k) := trivial
  simp only [Instr.mapUpdate, Sem.run_bind, run_underlying hT, MapKept.run_getObj_map h1, MapKept.run_checkKey hK h2, MapKept.run_findKey hK hn, MapKept.run_setObj_map _ h1, Result.andThen]
  rw [alloc_set]
theorem run_look {P : Program} {T key elem : TypeId} (hT : P.underlying T = some (.map key elem)) (hK : P.underlying key = some .string) (W : World) (b : Nat) (es : Array MapEntry) (c : Nat) (k : ByteArray) (ok : Bool) (z : Value) (r : Option (Nat × Value))
    (h1 : W.heap[b]? = some (.map es c)) (hn : Instr.findNow .string (.string k) es.toList 0 = some r) (hz : ∀ w, (zeroValue elem).run P w = .ok z w) :
    (Instr.lookup T (.map (some b)) (.string k) ok).run P W = .ok (if ok then .tuple #[(r.map (·.2)).getD z, .bool r.isSome] else (r.map (·.2)).getD z) W := by
  have h2 : MapKept.IsKey .string (.string k) := trivial
  simp only [Instr.lookup, Sem.run_bind, run_underlying hT, MapKept.run_getObj_map h1, MapKept.run_checkKey hK h2, MapKept.run_findKey hK hn, Result.andThen, Sem.run_pure]
  cases r with
  | none => simp only [Sem.run_bind, hz, Result.andThen, Sem.run_pure]; cases ok <;> rfl
  | some p => cases ok <;> rfl
/-- the value at a word -/
def pV (i n b : Bool) : Value := .agg #[.bool i, .bool n, .bool b]
def wordE : List (List UInt8 × Bool × Bool × Bool) :=
  [(wOpen, false, false, false), (wFeed, true, false, true), (wEnd, true, false, false), (wDrain, true, false, false), (wClose, true, false, false), (wEvict, true, false, false), (wStatus, true, false, false), (wPick, true, true, false), (wPress, false, true, false)]
def entE (k : Nat) (e : List UInt8 × Bool × Bool × Bool) : MapEntry := { key := .string (bs e.1), val := pV e.2.1 e.2.2.1 e.2.2.2, born := k }
def entsE : Array MapEntry := (wordE.zipIdx.map fun p => entE p.2 p.1).toArray
def wordsW (w : World) : World := (w.alloc (.cells #[.bool true, .bool false, .bool false] 54)).alloc (.map entsE 9)
set_option maxRecDepth 100000 in
set_option maxHeartbeats 4000000 in
theorem lines_words (w : World) : Calls Tryd.prog 28 #[] w fun e w' => e = .returned (.map (some (w.heap.size + 1))) ∧ w' = wordsW w := by
  go_enter Tryd.func28, Tryd.ntmps28
  go_wp2_with fail
  rw [run_newmap]
  simp only [Result.andThen]
  rw [Oper.upon_value]
  go_wp2_with fail
  rw [run_upd Tryd.underlying55 Tryd.underlying9 _ _ (by simp) _ _ _ _ (by rfl)]
  simp only [Result.andThen]
  rw [Oper.upon_skip]
  go_wp2_with fail
  rw [run_upd Tryd.underlying55 Tryd.underlying9 _ _ (by simp) _ _ _ _ (by rfl)]
  simp only [Result.andThen]
  rw [Oper.upon_skip]
  go_wp2_with fail
  rw [run_upd Tryd.underlying55 Tryd.underlying9 _ _ (by simp) _ _ _ _ (by rfl)]
  simp only [Result.andThen]
  rw [Oper.upon_skip]
  go_wp2_with fail
  rw [run_upd Tryd.underlying55 Tryd.underlying9 _ _ (by simp) _ _ _ _ (by rfl)]
  simp only [Result.andThen]
  rw [Oper.upon_skip]
  go_wp2_with fail
  rw [run_upd Tryd.underlying55 Tryd.underlying9 _ _ (by simp) _ _ _ _ (by rfl)]
  simp only [Result.andThen]
  rw [Oper.upon_skip]
  go_wp2_with fail
  rw [run_upd Tryd.underlying55 Tryd.underlying9 _ _ (by simp) _ _ _ _ (by rfl)]
  simp only [Result.andThen]
  rw [Oper.upon_skip]
  go_wp2_with fail
  rw [run_upd Tryd.underlying55 Tryd.underlying9 _ _ (by simp) _ _ _ _ (by rfl)]
  simp only [Result.andThen]
  rw [Oper.upon_skip]
  go_wp2_with fail
  rw [run_upd Tryd.underlying55 Tryd.underlying9 _ _ (by simp) _ _ _ _ (by rfl)]
  simp only [Result.andThen]
  rw [Oper.upon_skip]
  go_wp2_with fail
  rw [run_upd Tryd.underlying55 Tryd.underlying9 _ _ (by simp) _ _ _ _ (by rfl)]
  simp only [Result.andThen]
  rw [Oper.upon_skip]
  go_wp2_with fail
  go_ret
  exact ⟨rfl, rfl⟩
theorem words_below (w : World) : Below w.heap.size w (wordsW w) := ((Below.refl _ _).alloc (Nat.le_refl _) _).alloc (by simp) _
theorem words_at (w : World) : (wordsW w).heap[w.heap.size + 1]? = some (.map entsE 9) := by
  have := heap_alloc_new (w.alloc (.cells #[.bool true, .bool false, .bool false] 54)) (.map entsE 9)
  simpa [wordsW] using this
def WordsPost (w : World) (e : Ending) (w' : World) : Prop := ∃ b, e = .returned (.map (some b)) ∧ w'.heap[b]? = some (.map entsE 9) ∧ Below w.heap.size w w'
theorem lines_words' (w : World) : Calls Tryd.prog 28 #[] w (WordsPost w) := (lines_words w).mono fun _ _ ⟨h1, h2⟩ => ⟨_, h1, by rw [h2]; exact words_at w, by rw [h2]; exact words_below w⟩
def partsR (s : List UInt8) : Option (Bool × Bool × Bool) := (wordE.find? fun e => s == e.1).map (·.2)
theorem bs_beq (s t : List UInt8) : (bs s == bs t) = (s == t) := by
  rw [Bool.eq_iff_iff, MapKept.bytes_beq, beq_iff_eq]; exact bs_inj
theorem find_list (s : List UInt8) : ∀ (l : List (List UInt8 × Bool × Bool × Bool)) (n i : Nat), ∃ j, Instr.findNow .string (.string (bs s)) ((l.zipIdx n).map fun p => entE p.2 p.1) i = some ((l.find? fun e => s == e.1).map fun e => (j, pV e.2.1 e.2.2.1 e.2.2.2))
  | [], n, i => ⟨0, rfl⟩
  | e :: l, n, i => by
    have hs : Instr.sameNow .string (.string (bs s)) (entE n e).key = some (s == e.1) := by
      show some (bs s == bs e.1) = _
      rw [bs_beq]
    rw [List.zipIdx_cons, List.map_cons, List.find?_cons]
    unfold Instr.findNow
    simp only [hs]
    cases h : s == e.1 with
    | true => exact ⟨i, rfl⟩
    | false => exact find_list s l (n + 1) (i + 1)
def pvR (r : Option (Bool × Bool × Bool)) : Value := match r with | none => pV false false false | some p => pV p.1 p.2.1 p.2.2
theorem run_word (s : List UInt8) (W : World) (b : Nat) (ok : Bool) (h1 : W.heap[b]? = some (.map entsE 9)) :
    (Instr.lookup 55 (.map (some b)) (.string (bs s)) ok).run Tryd.prog W = .ok (if ok then .tuple #[pvR (partsR s), .bool (partsR s).isSome] else pvR (partsR s)) W := by
  obtain ⟨j, hj⟩ := find_list s wordE 0 0
  have := run_look (P := Tryd.prog) Tryd.underlying55 Tryd.underlying9 W b entsE 9 (bs s) ok (pV false false false) _ h1 (by simpa [entsE] using hj) Tryd.zeroValue54
  rw [this]
  unfold partsR
  cases (wordE.find? fun e => s == e.1) <;> rfl
end Go.Proofs.YthcbidbhkikhmaaDoor
