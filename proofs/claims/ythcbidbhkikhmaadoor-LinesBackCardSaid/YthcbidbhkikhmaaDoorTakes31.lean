/- What the program's takes makes: the readers of a word's parts, in order. -/
import Derived.Test.YthcbidbhkikhmaaDoorTake31
namespace Go.Proofs.YthcbidbhkikhmaaDoor
open Go Go.RowKit
theorem etFn : ElemT Tryd.prog 64 43 1 8 := .mk' (z := .nilFunc) (by kernel_rfl) (by kernel_rfl) rfl (by decide) (by decide)
def RdV (W : World) (bop : Nat) (c : UInt8) (v : Value) : Prop :=
  if c = 105 then ∃ g, v = .func (.func 47) #[] #[.pointer (some ⟨g, 0, none⟩)] ∧ Blk W g 84 #[.pointer (some ⟨bop, 1, none⟩)]
  else if c = 110 then ∃ g, v = .func (.func 47) #[] #[.pointer (some ⟨g, 0, none⟩)] ∧ Blk W g 84 #[.pointer (some ⟨bop, 2, none⟩)]
  else ∃ g, v = .func (.func 49) #[] #[.pointer (some ⟨g, 0, none⟩)] ∧ Blk W g 69 #[.pointer (some ⟨bop, 0, none⟩)]
def Rds (W : World) (bop : Nat) : List UInt8 → List Value → Prop
  | [], [] => True
  | c :: t, v :: vs => RdV W bop c v ∧ Rds W bop t vs
  | _, _ => False
theorem RdV.kept {W W' : World} {bop : Nat} {c : UInt8} {v : Value} (h : RdV W bop c v) (hk : ∀ g t cs, (t = 84 ∨ t = 69) → Blk W g t cs → Blk W' g t cs) : RdV W' bop c v := by
  unfold RdV at *
  split
  · rename_i hc
    rw [if_pos hc] at h
    obtain ⟨g, h1, h2⟩ := h
    exact ⟨g, h1, hk _ _ _ (Or.inl rfl) h2⟩
  · rename_i hc
    rw [if_neg hc] at h
    split
    · rename_i hc2
      rw [if_pos hc2] at h
      obtain ⟨g, h1, h2⟩ := h
      exact ⟨g, h1, hk _ _ _ (Or.inl rfl) h2⟩
    · rename_i hc2
      rw [if_neg hc2] at h
      obtain ⟨g, h1, h2⟩ := h
      exact ⟨g, h1, hk _ _ _ (Or.inr rfl) h2⟩
theorem Rds.kept {W W' : World} {bop : Nat} (hk : ∀ g t cs, (t = 84 ∨ t = 69) → Blk W g t cs → Blk W' g t cs) : ∀ (t : List UInt8) (vs : List Value), Rds W bop t vs → Rds W' bop t vs
  | [], [], _ => trivial
  | _ :: t, _ :: vs, h => ⟨h.1.kept hk, Rds.kept hk t vs h.2⟩
  | [], _ :: _, h => h.elim
  | _ :: _, [], h => h.elim
/-- a slice of readers -/
def NextV (W : World) (v : Value) (vs : List Value) : Prop :=
  ∃ A c, v = .slice A vs.length c ∧ vs.length ≤ c ∧ c ≤ maxLen ∧ (vs ≠ [] → ∃ gv k cs, A = some ⟨gv, k, none⟩ ∧ Blk W gv 43 cs ∧ ∀ j v, vs[j]? = some v → cs[k + j]? = some v)
theorem NextV.of_own {W : World} {base n : Nat} {v : Value} {vs : List Value} (h : W.ownsRow base 43 1 v n vs) : NextV W v vs := by
  have hn : vs.length = n := by have := h.1; omega
  subst hn
  rcases h.2 with ⟨rfl, h0⟩ | ⟨g, cap, cur, rfl, hbg, hh, h1, h2, h3, h4⟩
  · exact ⟨none, 0, by rw [h0], by omega, Nat.zero_le _, fun hv => absurd (List.eq_nil_of_length_eq_zero h0) hv⟩
  · refine ⟨_, cap, rfl, h1, h2, fun _ => ⟨g, 0, cur, rfl, hh, fun j v hj => ?_⟩⟩
    rw [← h4, List.getElem?_take] at hj
    split at hj
    · rw [Nat.zero_add]; simpa using hj
    · cases hj
theorem NextV.kept {W W' : World} {v : Value} {vs : List Value} (h : NextV W v vs) (hk : ∀ g cs, Blk W g 43 cs → Blk W' g 43 cs) : NextV W' v vs := by
  obtain ⟨A, c, h1, h2, h3, h4⟩ := h
  refine ⟨A, c, h1, h2, h3, fun hv => ?_⟩
  obtain ⟨gv, k, cs, h5, h6, h7⟩ := h4 hv
  exact ⟨gv, k, cs, h5, hk _ _ h6, h7⟩
def TakesPost (bop : Nat) (t : List UInt8) (w : World) (e : Ending) (w' : World) : Prop := ∃ v vs, e = .returned v ∧ NextV w' v vs ∧ Rds w' bop t vs ∧ Below w.heap.size w w'
theorem below_of_grown' {a b : World} (h : a.grownBy b none) : Below a.heap.size a b := ⟨h.os, h.tape, h.output, h.size, fun k hk => h.block k hk (by simp)⟩
theorem Blk.at_eq {w : World} {g g' : Nat} {t : TypeId} {cs : Array Value} (h : Blk w g t cs) (e : g = g') : Blk w g' t cs := e ▸ h
set_option maxRecDepth 100000 in
set_option maxHeartbeats 2000000 in
theorem takes_000 (bop : Nat) (w : World) : Calls Tryd.prog 37 #[.pointer (some ⟨bop, 0, none⟩), .agg #[.bool false, .bool false, .bool false]] w (TakesPost bop [] w) := by
  have hX0 := (Blk.new w 69 #[.pointer (some ⟨bop, 0, none⟩)]).alloc (.cells #[.bool false, .bool false, .bool false] 54)
  have hP0 := (Blk.new (w.alloc (.cells #[.pointer (some ⟨bop, 0, none⟩)] 69)) 54 #[.bool false, .bool false, .bool false]).at_eq (World.size_alloc w _)
  have hB0 : Below w.heap.size w ((w.alloc (.cells #[.pointer (some ⟨bop, 0, none⟩)] 69)).alloc (.cells #[.bool false, .bool false, .bool false] 54)) := ((Below.refl _ _).alloc (Nat.le_refl _) _).alloc (by simp) _
  have hsz : ((w.alloc (.cells #[.pointer (some ⟨bop, 0, none⟩)] 69)).alloc (.cells #[.bool false, .bool false, .bool false] 54)).heap.size = w.heap.size + 2 := by simp
  clear hX0 hP0 hsz
  have HB0 := Lib.hid hB0; clear hB0
  go_enter Tryd.func37, Tryd.ntmps37
  go_wp2_with fail
  go_ret
  exact ⟨_, [], rfl, NextV.of_own (base := w.heap.size) (World.ownsRow_nil _ _ _ _), trivial, HB0.out⟩
set_option maxRecDepth 100000 in
set_option maxHeartbeats 2000000 in
theorem takes_100 (bop : Nat) (w : World) : Calls Tryd.prog 37 #[.pointer (some ⟨bop, 0, none⟩), .agg #[.bool true, .bool false, .bool false]] w (TakesPost bop [105] w) := by
  have hX0 := (Blk.new w 69 #[.pointer (some ⟨bop, 0, none⟩)]).alloc (.cells #[.bool true, .bool false, .bool false] 54)
  have hP0 := (Blk.new (w.alloc (.cells #[.pointer (some ⟨bop, 0, none⟩)] 69)) 54 #[.bool true, .bool false, .bool false]).at_eq (World.size_alloc w _)
  have hB0 : Below w.heap.size w ((w.alloc (.cells #[.pointer (some ⟨bop, 0, none⟩)] 69)).alloc (.cells #[.bool true, .bool false, .bool false] 54)) := ((Below.refl _ _).alloc (Nat.le_refl _) _).alloc (by simp) _
  have hsz : ((w.alloc (.cells #[.pointer (some ⟨bop, 0, none⟩)] 69)).alloc (.cells #[.bool true, .bool false, .bool false] 54)).heap.size = w.heap.size + 2 := by simp
  have hC1 := ((Blk.new ((w.alloc (.cells #[.pointer (some ⟨bop, 0, none⟩)] 69)).alloc (.cells #[.bool true, .bool false, .bool false] 54)) 84 #[.pointer (some ⟨bop, 1, none⟩)]).at_eq hsz).alloc (.cells #[(.func (.func 47) #[] #[.pointer (some ⟨w.heap.size + 2, 0, none⟩)])] 43)
  have HX1 := Lib.hid ((hX0.alloc (.cells #[.pointer (some ⟨bop, 1, none⟩)] 84)).alloc (.cells #[(.func (.func 47) #[] #[.pointer (some ⟨w.heap.size + 2, 0, none⟩)])] 43))
  have HP1 := Lib.hid ((hP0.alloc (.cells #[.pointer (some ⟨bop, 1, none⟩)] 84)).alloc (.cells #[(.func (.func 47) #[] #[.pointer (some ⟨w.heap.size + 2, 0, none⟩)])] 43))
  have HC1 := Lib.hid hC1
  have HB1 := Lib.hid (show Below w.heap.size w ((((w.alloc (.cells #[.pointer (some ⟨bop, 0, none⟩)] 69)).alloc (.cells #[.bool true, .bool false, .bool false] 54)).alloc (.cells #[.pointer (some ⟨bop, 1, none⟩)] 84)).alloc (.cells #[(.func (.func 47) #[] #[.pointer (some ⟨w.heap.size + 2, 0, none⟩)])] 43)) from (hB0.alloc (by rw [hsz]; omega) _).alloc (by rw [World.size_alloc, hsz]; omega) _)
  have HR1 := Lib.hid (show Sl ((((w.alloc (.cells #[.pointer (some ⟨bop, 0, none⟩)] 69)).alloc (.cells #[.bool true, .bool false, .bool false] 54)).alloc (.cells #[.pointer (some ⟨bop, 1, none⟩)] 84)).alloc (.cells #[(.func (.func 47) #[] #[.pointer (some ⟨w.heap.size + 2, 0, none⟩)])] 43)) (some ⟨w.heap.size + 3, 0, none⟩) [(.func (.func 47) #[] #[.pointer (some ⟨w.heap.size + 2, 0, none⟩)])] from ((Blk.new (((w.alloc (.cells #[.pointer (some ⟨bop, 0, none⟩)] 69)).alloc (.cells #[.bool true, .bool false, .bool false] 54)).alloc (.cells #[.pointer (some ⟨bop, 1, none⟩)] 84)) 43 #[(.func (.func 47) #[] #[.pointer (some ⟨w.heap.size + 2, 0, none⟩)])]).at_eq (by rw [World.size_alloc, hsz])).sl 0)
  clear hX0 hP0 hB0 hsz hC1
  have tok1 : True := trivial
  go_enter Tryd.func37, Tryd.ntmps37
  go_wp2_with (first
    | (go_at_call 46; refine (lines_to _ _).mono ?_; rintro e w' ⟨rfl, rfl⟩)
    | (at_builtin; have _t := tok1; refine wpList_app etFn rfl rfl rfl (World.ownsRow_nil _ w.heap.size _ _) rfl (m := 1) (news := [(.func (.func 47) #[] #[.pointer (some ⟨w.heap.size + 2, 0, none⟩)])]) rfl HR1.out (by intro u hu; simp at hu; subst hu; rfl) (by decide) (by have h1 := HB1.out.size; exact h1) ?_; intro v1 w1 ho1 hg1 _; clear tok1; have hbg := below_of_grown' hg1; have hX1' := HX1.out.below hbg HX1.out.lt; have hP1' := HP1.out.below hbg HP1.out.lt; have x0 := hX1'.cell 0; have y1 := hP1'.cell 1; have y2 := hP1'.cell 2; have HX2 := Lib.hid hX1'; have HC2 := Lib.hid (HC1.out.below hbg HC1.out.lt); have HB2 := Lib.hid (HB1.out.trans (hbg.mono HB1.out.size)); have HO1 := Lib.hid ho1; obtain ⟨A1, c1, rfl, _⟩ := own_sl ho1; clear hbg hX1' hP1' ho1 hg1))
  go_ret
  exact ⟨_, _, rfl, NextV.of_own HO1.out, ⟨(show RdV _ _ 105 _ by unfold RdV; rw [if_pos rfl]; exact ⟨_, rfl, HC2.out⟩), trivial⟩, HB2.out⟩
set_option maxRecDepth 100000 in
set_option maxHeartbeats 2000000 in
theorem takes_010 (bop : Nat) (w : World) : Calls Tryd.prog 37 #[.pointer (some ⟨bop, 0, none⟩), .agg #[.bool false, .bool true, .bool false]] w (TakesPost bop [110] w) := by
  have hX0 := (Blk.new w 69 #[.pointer (some ⟨bop, 0, none⟩)]).alloc (.cells #[.bool false, .bool true, .bool false] 54)
  have hP0 := (Blk.new (w.alloc (.cells #[.pointer (some ⟨bop, 0, none⟩)] 69)) 54 #[.bool false, .bool true, .bool false]).at_eq (World.size_alloc w _)
  have hB0 : Below w.heap.size w ((w.alloc (.cells #[.pointer (some ⟨bop, 0, none⟩)] 69)).alloc (.cells #[.bool false, .bool true, .bool false] 54)) := ((Below.refl _ _).alloc (Nat.le_refl _) _).alloc (by simp) _
  have hsz : ((w.alloc (.cells #[.pointer (some ⟨bop, 0, none⟩)] 69)).alloc (.cells #[.bool false, .bool true, .bool false] 54)).heap.size = w.heap.size + 2 := by simp
  have hC1 := ((Blk.new ((w.alloc (.cells #[.pointer (some ⟨bop, 0, none⟩)] 69)).alloc (.cells #[.bool false, .bool true, .bool false] 54)) 84 #[.pointer (some ⟨bop, 2, none⟩)]).at_eq hsz).alloc (.cells #[(.func (.func 47) #[] #[.pointer (some ⟨w.heap.size + 2, 0, none⟩)])] 43)
  have HX1 := Lib.hid ((hX0.alloc (.cells #[.pointer (some ⟨bop, 2, none⟩)] 84)).alloc (.cells #[(.func (.func 47) #[] #[.pointer (some ⟨w.heap.size + 2, 0, none⟩)])] 43))
  have HP1 := Lib.hid ((hP0.alloc (.cells #[.pointer (some ⟨bop, 2, none⟩)] 84)).alloc (.cells #[(.func (.func 47) #[] #[.pointer (some ⟨w.heap.size + 2, 0, none⟩)])] 43))
  have HC1 := Lib.hid hC1
  have HB1 := Lib.hid (show Below w.heap.size w ((((w.alloc (.cells #[.pointer (some ⟨bop, 0, none⟩)] 69)).alloc (.cells #[.bool false, .bool true, .bool false] 54)).alloc (.cells #[.pointer (some ⟨bop, 2, none⟩)] 84)).alloc (.cells #[(.func (.func 47) #[] #[.pointer (some ⟨w.heap.size + 2, 0, none⟩)])] 43)) from (hB0.alloc (by rw [hsz]; omega) _).alloc (by rw [World.size_alloc, hsz]; omega) _)
  have HR1 := Lib.hid (show Sl ((((w.alloc (.cells #[.pointer (some ⟨bop, 0, none⟩)] 69)).alloc (.cells #[.bool false, .bool true, .bool false] 54)).alloc (.cells #[.pointer (some ⟨bop, 2, none⟩)] 84)).alloc (.cells #[(.func (.func 47) #[] #[.pointer (some ⟨w.heap.size + 2, 0, none⟩)])] 43)) (some ⟨w.heap.size + 3, 0, none⟩) [(.func (.func 47) #[] #[.pointer (some ⟨w.heap.size + 2, 0, none⟩)])] from ((Blk.new (((w.alloc (.cells #[.pointer (some ⟨bop, 0, none⟩)] 69)).alloc (.cells #[.bool false, .bool true, .bool false] 54)).alloc (.cells #[.pointer (some ⟨bop, 2, none⟩)] 84)) 43 #[(.func (.func 47) #[] #[.pointer (some ⟨w.heap.size + 2, 0, none⟩)])]).at_eq (by rw [World.size_alloc, hsz])).sl 0)
  clear hX0 hP0 hB0 hsz hC1
  have tok1 : True := trivial
  go_enter Tryd.func37, Tryd.ntmps37
  go_wp2_with (first
    | (go_at_call 46; refine (lines_to _ _).mono ?_; rintro e w' ⟨rfl, rfl⟩)
    | (at_builtin; have _t := tok1; refine wpList_app etFn rfl rfl rfl (World.ownsRow_nil _ w.heap.size _ _) rfl (m := 1) (news := [(.func (.func 47) #[] #[.pointer (some ⟨w.heap.size + 2, 0, none⟩)])]) rfl HR1.out (by intro u hu; simp at hu; subst hu; rfl) (by decide) (by have h1 := HB1.out.size; exact h1) ?_; intro v1 w1 ho1 hg1 _; clear tok1; have hbg := below_of_grown' hg1; have hX1' := HX1.out.below hbg HX1.out.lt; have hP1' := HP1.out.below hbg HP1.out.lt; have x0 := hX1'.cell 0; have y1 := hP1'.cell 1; have y2 := hP1'.cell 2; have HX2 := Lib.hid hX1'; have HC2 := Lib.hid (HC1.out.below hbg HC1.out.lt); have HB2 := Lib.hid (HB1.out.trans (hbg.mono HB1.out.size)); have HO1 := Lib.hid ho1; obtain ⟨A1, c1, rfl, _⟩ := own_sl ho1; clear hbg hX1' hP1' ho1 hg1))
  go_ret
  exact ⟨_, _, rfl, NextV.of_own HO1.out, ⟨(show RdV _ _ 110 _ by unfold RdV; rw [if_neg (by decide), if_pos rfl]; exact ⟨_, rfl, HC2.out⟩), trivial⟩, HB2.out⟩
set_option maxRecDepth 100000 in
set_option maxHeartbeats 2000000 in
theorem takes_110 (bop : Nat) (w : World) : Calls Tryd.prog 37 #[.pointer (some ⟨bop, 0, none⟩), .agg #[.bool true, .bool true, .bool false]] w (TakesPost bop [105, 110] w) := by
  have hX0 := (Blk.new w 69 #[.pointer (some ⟨bop, 0, none⟩)]).alloc (.cells #[.bool true, .bool true, .bool false] 54)
  have hP0 := (Blk.new (w.alloc (.cells #[.pointer (some ⟨bop, 0, none⟩)] 69)) 54 #[.bool true, .bool true, .bool false]).at_eq (World.size_alloc w _)
  have hB0 : Below w.heap.size w ((w.alloc (.cells #[.pointer (some ⟨bop, 0, none⟩)] 69)).alloc (.cells #[.bool true, .bool true, .bool false] 54)) := ((Below.refl _ _).alloc (Nat.le_refl _) _).alloc (by simp) _
  have hsz : ((w.alloc (.cells #[.pointer (some ⟨bop, 0, none⟩)] 69)).alloc (.cells #[.bool true, .bool true, .bool false] 54)).heap.size = w.heap.size + 2 := by simp
  have hC1 := ((Blk.new ((w.alloc (.cells #[.pointer (some ⟨bop, 0, none⟩)] 69)).alloc (.cells #[.bool true, .bool true, .bool false] 54)) 84 #[.pointer (some ⟨bop, 1, none⟩)]).at_eq hsz).alloc (.cells #[(.func (.func 47) #[] #[.pointer (some ⟨w.heap.size + 2, 0, none⟩)])] 43)
  have HX1 := Lib.hid ((hX0.alloc (.cells #[.pointer (some ⟨bop, 1, none⟩)] 84)).alloc (.cells #[(.func (.func 47) #[] #[.pointer (some ⟨w.heap.size + 2, 0, none⟩)])] 43))
  have HP1 := Lib.hid ((hP0.alloc (.cells #[.pointer (some ⟨bop, 1, none⟩)] 84)).alloc (.cells #[(.func (.func 47) #[] #[.pointer (some ⟨w.heap.size + 2, 0, none⟩)])] 43))
  have HC1 := Lib.hid hC1
  have HB1 := Lib.hid (show Below w.heap.size w ((((w.alloc (.cells #[.pointer (some ⟨bop, 0, none⟩)] 69)).alloc (.cells #[.bool true, .bool true, .bool false] 54)).alloc (.cells #[.pointer (some ⟨bop, 1, none⟩)] 84)).alloc (.cells #[(.func (.func 47) #[] #[.pointer (some ⟨w.heap.size + 2, 0, none⟩)])] 43)) from (hB0.alloc (by rw [hsz]; omega) _).alloc (by rw [World.size_alloc, hsz]; omega) _)
  have HR1 := Lib.hid (show Sl ((((w.alloc (.cells #[.pointer (some ⟨bop, 0, none⟩)] 69)).alloc (.cells #[.bool true, .bool true, .bool false] 54)).alloc (.cells #[.pointer (some ⟨bop, 1, none⟩)] 84)).alloc (.cells #[(.func (.func 47) #[] #[.pointer (some ⟨w.heap.size + 2, 0, none⟩)])] 43)) (some ⟨w.heap.size + 3, 0, none⟩) [(.func (.func 47) #[] #[.pointer (some ⟨w.heap.size + 2, 0, none⟩)])] from ((Blk.new (((w.alloc (.cells #[.pointer (some ⟨bop, 0, none⟩)] 69)).alloc (.cells #[.bool true, .bool true, .bool false] 54)).alloc (.cells #[.pointer (some ⟨bop, 1, none⟩)] 84)) 43 #[(.func (.func 47) #[] #[.pointer (some ⟨w.heap.size + 2, 0, none⟩)])]).at_eq (by rw [World.size_alloc, hsz])).sl 0)
  clear hX0 hP0 hB0 hsz hC1
  have tok1 : True := trivial
  go_enter Tryd.func37, Tryd.ntmps37
  go_wp2_with (first
    | (go_at_call 46; refine (lines_to _ _).mono ?_; rintro e w' ⟨rfl, rfl⟩)
    | (at_builtin; have _t := tok1; refine wpList_app etFn rfl rfl rfl (World.ownsRow_nil _ w.heap.size _ _) rfl (m := 1) (news := [(.func (.func 47) #[] #[.pointer (some ⟨w.heap.size + 2, 0, none⟩)])]) rfl HR1.out (by intro u hu; simp at hu; subst hu; rfl) (by decide) (by have h1 := HB1.out.size; exact h1) ?_; intro v1 w1 ho1 hg1 _; clear tok1; have hbg := below_of_grown' hg1; have hX1' := HX1.out.below hbg HX1.out.lt; have hP1' := HP1.out.below hbg HP1.out.lt; have x0 := hX1'.cell 0; have y1 := hP1'.cell 1; have y2 := hP1'.cell 2; have HX2 := Lib.hid hX1'; have HP2 := Lib.hid hP1'; have HC2 := Lib.hid (HC1.out.below hbg HC1.out.lt); have HB2 := Lib.hid (HB1.out.trans (hbg.mono HB1.out.size)); have HO1 := Lib.hid ho1; obtain ⟨A1, c1, rfl, _⟩ := own_sl ho1; clear hbg hX1' hP1' ho1 hg1)
    | (at_builtin; refine wpList_app etFn rfl rfl rfl ((HO1.out.alloc _).alloc _) rfl (m := 1) (news := [(.func (.func 47) #[] #[.pointer (some ⟨w1.heap.size, 0, none⟩)])]) rfl (((Blk.new (w1.alloc (.cells #[.pointer (some ⟨bop, 2, none⟩)] 84)) 43 #[(.func (.func 47) #[] #[.pointer (some ⟨w1.heap.size, 0, none⟩)])]).at_eq (World.size_alloc _ _)).sl 0) (by intro u hu; simp at hu; subst hu; rfl) (by decide) (by have := HB2.out.size; simp; omega) ?_; intro v2 w2 ho2 hg2 _; have hne1 := own_blk_ne ((HO1.out.alloc _).alloc _) ((HC2.out.alloc (.cells #[.pointer (some ⟨bop, 2, none⟩)] 84)).alloc (.cells #[(.func (.func 47) #[] #[.pointer (some ⟨w1.heap.size, 0, none⟩)])] 43)) (by decide); have hne3 := own_blk_ne ((HO1.out.alloc _).alloc _) ((HP2.out.alloc (.cells #[.pointer (some ⟨bop, 2, none⟩)] 84)).alloc (.cells #[(.func (.func 47) #[] #[.pointer (some ⟨w1.heap.size, 0, none⟩)])] 43)) (by decide); have hP3 := ((HP2.out.alloc (.cells #[.pointer (some ⟨bop, 2, none⟩)] 84)).alloc (.cells #[(.func (.func 47) #[] #[.pointer (some ⟨w1.heap.size, 0, none⟩)])] 43)).grown hg2 (fun e => hne3 e); have y3 := hP3.cell 2; clear hP3 hne3; have hne2 := own_blk_ne ((HO1.out.alloc _).alloc _) ((Blk.new w1 84 #[.pointer (some ⟨bop, 2, none⟩)]).alloc (.cells #[(.func (.func 47) #[] #[.pointer (some ⟨w1.heap.size, 0, none⟩)])] 43)) (by decide); have HC3 := Lib.hid (((HC2.out.alloc (.cells #[.pointer (some ⟨bop, 2, none⟩)] 84)).alloc (.cells #[(.func (.func 47) #[] #[.pointer (some ⟨w1.heap.size, 0, none⟩)])] 43)).grown hg2 (fun e => hne1 e)); have HN3 := Lib.hid (((Blk.new w1 84 #[.pointer (some ⟨bop, 2, none⟩)]).alloc (.cells #[(.func (.func 47) #[] #[.pointer (some ⟨w1.heap.size, 0, none⟩)])] 43)).grown hg2 (fun e => hne2 e)); have HB3 := Lib.hid (below_app ((HB2.out.alloc HB2.out.size _).alloc (by have := HB2.out.size; simp; omega) _) ((HO1.out.alloc _).alloc _) hg2 (by have := HB2.out.size; simp; omega) (Nat.le_refl _)); have HO2 := Lib.hid ho2; obtain ⟨A2, c2, rfl, _⟩ := own_sl ho2; clear ho2 hg2 hne1 hne2))
  go_ret
  exact ⟨_, _, rfl, NextV.of_own HO2.out, ⟨(show RdV _ _ 105 _ by unfold RdV; rw [if_pos rfl]; exact ⟨_, rfl, HC3.out⟩), (show RdV _ _ 110 _ by unfold RdV; rw [if_neg (by decide), if_pos rfl]; exact ⟨_, rfl, HN3.out⟩), trivial⟩, HB3.out⟩
set_option maxRecDepth 100000 in
set_option maxHeartbeats 2000000 in
theorem takes_101 (bop : Nat) (w : World) : Calls Tryd.prog 37 #[.pointer (some ⟨bop, 0, none⟩), .agg #[.bool true, .bool false, .bool true]] w (TakesPost bop [105, 98] w) := by
  have hX0 := (Blk.new w 69 #[.pointer (some ⟨bop, 0, none⟩)]).alloc (.cells #[.bool true, .bool false, .bool true] 54)
  have hP0 := (Blk.new (w.alloc (.cells #[.pointer (some ⟨bop, 0, none⟩)] 69)) 54 #[.bool true, .bool false, .bool true]).at_eq (World.size_alloc w _)
  have hB0 : Below w.heap.size w ((w.alloc (.cells #[.pointer (some ⟨bop, 0, none⟩)] 69)).alloc (.cells #[.bool true, .bool false, .bool true] 54)) := ((Below.refl _ _).alloc (Nat.le_refl _) _).alloc (by simp) _
  have hsz : ((w.alloc (.cells #[.pointer (some ⟨bop, 0, none⟩)] 69)).alloc (.cells #[.bool true, .bool false, .bool true] 54)).heap.size = w.heap.size + 2 := by simp
  have hC1 := ((Blk.new ((w.alloc (.cells #[.pointer (some ⟨bop, 0, none⟩)] 69)).alloc (.cells #[.bool true, .bool false, .bool true] 54)) 84 #[.pointer (some ⟨bop, 1, none⟩)]).at_eq hsz).alloc (.cells #[(.func (.func 47) #[] #[.pointer (some ⟨w.heap.size + 2, 0, none⟩)])] 43)
  have HX1 := Lib.hid ((hX0.alloc (.cells #[.pointer (some ⟨bop, 1, none⟩)] 84)).alloc (.cells #[(.func (.func 47) #[] #[.pointer (some ⟨w.heap.size + 2, 0, none⟩)])] 43))
  have HP1 := Lib.hid ((hP0.alloc (.cells #[.pointer (some ⟨bop, 1, none⟩)] 84)).alloc (.cells #[(.func (.func 47) #[] #[.pointer (some ⟨w.heap.size + 2, 0, none⟩)])] 43))
  have HC1 := Lib.hid hC1
  have HB1 := Lib.hid (show Below w.heap.size w ((((w.alloc (.cells #[.pointer (some ⟨bop, 0, none⟩)] 69)).alloc (.cells #[.bool true, .bool false, .bool true] 54)).alloc (.cells #[.pointer (some ⟨bop, 1, none⟩)] 84)).alloc (.cells #[(.func (.func 47) #[] #[.pointer (some ⟨w.heap.size + 2, 0, none⟩)])] 43)) from (hB0.alloc (by rw [hsz]; omega) _).alloc (by rw [World.size_alloc, hsz]; omega) _)
  have HR1 := Lib.hid (show Sl ((((w.alloc (.cells #[.pointer (some ⟨bop, 0, none⟩)] 69)).alloc (.cells #[.bool true, .bool false, .bool true] 54)).alloc (.cells #[.pointer (some ⟨bop, 1, none⟩)] 84)).alloc (.cells #[(.func (.func 47) #[] #[.pointer (some ⟨w.heap.size + 2, 0, none⟩)])] 43)) (some ⟨w.heap.size + 3, 0, none⟩) [(.func (.func 47) #[] #[.pointer (some ⟨w.heap.size + 2, 0, none⟩)])] from ((Blk.new (((w.alloc (.cells #[.pointer (some ⟨bop, 0, none⟩)] 69)).alloc (.cells #[.bool true, .bool false, .bool true] 54)).alloc (.cells #[.pointer (some ⟨bop, 1, none⟩)] 84)) 43 #[(.func (.func 47) #[] #[.pointer (some ⟨w.heap.size + 2, 0, none⟩)])]).at_eq (by rw [World.size_alloc, hsz])).sl 0)
  clear hX0 hP0 hB0 hsz hC1
  have tok1 : True := trivial
  go_enter Tryd.func37, Tryd.ntmps37
  go_wp2_with (first
    | (go_at_call 46; refine (lines_to _ _).mono ?_; rintro e w' ⟨rfl, rfl⟩)
    | (at_builtin; have _t := tok1; refine wpList_app etFn rfl rfl rfl (World.ownsRow_nil _ w.heap.size _ _) rfl (m := 1) (news := [(.func (.func 47) #[] #[.pointer (some ⟨w.heap.size + 2, 0, none⟩)])]) rfl HR1.out (by intro u hu; simp at hu; subst hu; rfl) (by decide) (by have h1 := HB1.out.size; exact h1) ?_; intro v1 w1 ho1 hg1 _; clear tok1; have hbg := below_of_grown' hg1; have hX1' := HX1.out.below hbg HX1.out.lt; have hP1' := HP1.out.below hbg HP1.out.lt; have x0 := hX1'.cell 0; have y1 := hP1'.cell 1; have y2 := hP1'.cell 2; have HX2 := Lib.hid hX1'; have HC2 := Lib.hid (HC1.out.below hbg HC1.out.lt); have HB2 := Lib.hid (HB1.out.trans (hbg.mono HB1.out.size)); have HO1 := Lib.hid ho1; obtain ⟨A1, c1, rfl, _⟩ := own_sl ho1; clear hbg hX1' hP1' ho1 hg1)
    | (at_builtin; refine wpList_app etFn rfl rfl rfl (HO1.out.alloc _) rfl (m := 1) (news := [(.func (.func 49) #[] #[.pointer (some ⟨w.heap.size, 0, none⟩)])]) rfl ((Blk.new w1 43 #[(.func (.func 49) #[] #[.pointer (some ⟨w.heap.size, 0, none⟩)])]).sl 0) (by intro u hu; simp at hu; subst hu; rfl) (by decide) (by have := HB2.out.size; simp; omega) ?_; intro v2 w2 ho2 hg2 _; have hne1 := own_blk_ne (HO1.out.alloc _) (HC2.out.alloc (.cells #[(.func (.func 49) #[] #[.pointer (some ⟨w.heap.size, 0, none⟩)])] 43)) (by decide); have hne2 := own_blk_ne (HO1.out.alloc _) (HX2.out.alloc (.cells #[(.func (.func 49) #[] #[.pointer (some ⟨w.heap.size, 0, none⟩)])] 43)) (by decide); have HC3 := Lib.hid ((HC2.out.alloc (.cells #[(.func (.func 49) #[] #[.pointer (some ⟨w.heap.size, 0, none⟩)])] 43)).grown hg2 (fun e => hne1 e)); have HN3 := Lib.hid ((HX2.out.alloc (.cells #[(.func (.func 49) #[] #[.pointer (some ⟨w.heap.size, 0, none⟩)])] 43)).grown hg2 (fun e => hne2 e)); have HB3 := Lib.hid (below_app (HB2.out.alloc HB2.out.size _) (HO1.out.alloc _) hg2 (by have := HB2.out.size; simp; omega) (Nat.le_refl _)); have HO2 := Lib.hid ho2; obtain ⟨A2, c2, rfl, _⟩ := own_sl ho2; clear ho2 hg2 hne1 hne2))
  go_ret
  exact ⟨_, _, rfl, NextV.of_own HO2.out, ⟨(show RdV _ _ 105 _ by unfold RdV; rw [if_pos rfl]; exact ⟨_, rfl, HC3.out⟩), (show RdV _ _ 98 _ by unfold RdV; rw [if_neg (by decide), if_neg (by decide)]; exact ⟨_, rfl, HN3.out⟩), trivial⟩, HB3.out⟩
theorem parts_five (s : List UInt8) (p : Bool × Bool × Bool) (h : partsR s = some p) : p = (false, false, false) ∨ p = (true, false, false) ∨ p = (false, true, false) ∨ p = (true, true, false) ∨ p = (true, false, true) := by
  unfold partsR at h
  rw [Option.map_eq_some_iff] at h
  obtain ⟨e, he, rfl⟩ := h
  have h2 := List.mem_of_find?_eq_some he
  have : ∀ e ∈ wordE, e.2 = (false, false, false) ∨ e.2 = (true, false, false) ∨ e.2 = (false, true, false) ∨ e.2 = (true, true, false) ∨ e.2 = (true, false, true) := by decide
  exact this e h2
theorem lines_takes (s : List UInt8) (i nn b : Bool) (h : partsR s = some (i, nn, b)) (bop : Nat) (w : World) : Calls Tryd.prog 37 #[.pointer (some ⟨bop, 0, none⟩), .agg #[.bool i, .bool nn, .bool b]] w (TakesPost bop (lettersR (i, nn, b)) w) := by
  rcases parts_five s _ h with h | h | h | h | h <;> cases h
  · exact takes_000 bop w
  · exact takes_100 bop w
  · exact takes_010 bop w
  · exact takes_110 bop w
  · exact takes_101 bop w
end Go.Proofs.YthcbidbhkikhmaaDoor
