/- The reference's All. -/
import Derived.Test.YthcbidbhkikhmaaDoorParse31
namespace Go.Proofs.YthcbidbhkikhmaaDoor
open Go Go.RowKit
abbrev ResA := Except (Nat × Nat) (Nat × List OpN)
def stepA (f : List UInt8 → Except (Nat × Nat) OpN) (st : Nat × List OpN) (line : List UInt8) : ResA :=
  if line ≠ [] ∧ line.getD 0 0 ≠ 35 then
    match f line with
    | .error e => .error (e.1, st.1 + e.2)
    | .ok o => .ok (st.1 + (line.length + 1), st.2 ++ [o])
  else .ok (st.1 + (line.length + 1), st.2)
def nextA (f : List UInt8 → Except (Nat × Nat) OpN) (e : ResA) (line : List UInt8) : ResA :=
  match e with
  | .ok st => stepA f st line
  | .error b => .error b
def runA (f : List UInt8 → Except (Nat × Nat) OpN) (e : ResA) (l : List (List UInt8)) : ResA := l.foldl (nextA f) e
def allP (f : List UInt8 → Except (Nat × Nat) OpN) (text : List UInt8) : Except (Nat × Nat) (List OpN) :=
  match runA f (.ok (0, [])) (splitL 10 text) with
  | .ok st => .ok st.2
  | .error e => .error e
theorem runA_err (f : List UInt8 → Except (Nat × Nat) OpN) (b : Nat × Nat) : ∀ l, runA f (.error b) l = .error b
  | [] => rfl
  | _ :: l => runA_err f b l
theorem etOp : ElemT Tryd.prog 37 24 4 56 := .mk' (z := .agg #[.string ⟨#[]⟩, .int .i64 0, .int .i64 0, .slice none 0 0]) (by kernel_rfl) (by kernel_rfl) rfl (by decide) (by decide)
def cellsOf : List OpN → List Value → List Value
  | o :: os, v :: vs => [Value.string (bs o.w), .int .i64 (o.id : Int), .int .i64 (o.n : Int), v] ++ cellsOf os vs
  | _, _ => []
def OwnBs (W : World) (base : Nat) : List OpN → List Value → Prop
  | [], [] => True
  | o :: os, v :: vs => W.ownsRow base 5 1 v o.b.length (o.b.map byteV) ∧ OwnBs W base os vs
  | _, _ => False
theorem OwnBs.len {W : World} {base : Nat} : ∀ {os : List OpN} {vs : List Value}, OwnBs W base os vs → vs.length = os.length
  | [], [], _ => rfl
  | _ :: os, _ :: vs, h => by simp [OwnBs.len h.2]
  | [], _ :: _, h => h.elim
  | _ :: _, [], h => h.elim
theorem OwnBs.kept {W W' : World} {base : Nat} (hk : ∀ g cs, Blk W g 5 cs → Blk W' g 5 cs) : ∀ {os : List OpN} {vs : List Value}, OwnBs W base os vs → OwnBs W' base os vs
  | [], [], _ => trivial
  | _ :: _, _ :: _, h => ⟨own_kept5 h.1 hk, OwnBs.kept hk h.2⟩
  | [], _ :: _, h => h.elim
  | _ :: _, [], h => h.elim
theorem OwnBs.snoc {W : World} {base : Nat} {o : OpN} {v : Value} (ho : W.ownsRow base 5 1 v o.b.length (o.b.map byteV)) : ∀ {os : List OpN} {vs : List Value}, OwnBs W base os vs → OwnBs W base (os ++ [o]) (vs ++ [v])
  | [], [], _ => ⟨ho, trivial⟩
  | _ :: _, _ :: _, h => ⟨h.1, OwnBs.snoc ho h.2⟩
  | [], _ :: _, h => h.elim
  | _ :: _, [], h => h.elim
theorem cellsOf_snoc (o : OpN) (v : Value) : ∀ (os : List OpN) (vs : List Value), vs.length = os.length → cellsOf (os ++ [o]) (vs ++ [v]) = cellsOf os vs ++ [Value.string (bs o.w), .int .i64 (o.id : Int), .int .i64 (o.n : Int), v]
  | [], [], _ => rfl
  | a :: os, b :: vs, h => by
    have := cellsOf_snoc o v os vs (by simpa using h)
    simp only [List.cons_append, cellsOf, this]
    rfl
  | [], _ :: _, h => by simp at h
  | _ :: _, [], h => by simp at h
/-- a row of operations, of the call's own -/
def OpsRow (W : World) (base : Nat) (v : Value) (os : List OpN) : Prop := ∃ vs, W.ownsRow base 24 4 v os.length (cellsOf os vs) ∧ OwnBs W base os vs
theorem OpsRow.nil (W : World) (base : Nat) : OpsRow W base (.slice none 0 0) [] := ⟨[], World.ownsRow_nil _ _ _ _, trivial⟩
theorem OpsRow.kept {W W' : World} {base : Nat} {v : Value} {os : List OpN} (h : OpsRow W base v os) (hk : ∀ g t cs, (t = 5 ∨ t = 24) → Blk W g t cs → Blk W' g t cs) : OpsRow W' base v os := by
  obtain ⟨vs, h1, h2⟩ := h
  exact ⟨vs, own_kept5 h1 (fun g cs => hk g _ cs (Or.inr rfl)), h2.kept (fun g cs => hk g _ cs (Or.inl rfl))⟩
def opsOf : Except (Nat × Nat) (List OpN) → List OpN
  | .ok l => l
  | .error _ => []
def ferrOf : Except (Nat × Nat) (List OpN) → Nat × Nat
  | .ok _ => (0, 0)
  | .error e => e
def AllPost (r : Except (Nat × Nat) (List OpN)) (w : World) (e : Ending) (w' : World) : Prop :=
  ∃ v, e = .returned (.tuple #[v, .agg #[.int .i64 ((ferrOf r).1 : Nat), .int .i64 ((ferrOf r).2 : Nat)]]) ∧ OpsRow w' w.heap.size v (opsOf r) ∧ Below w.heap.size w w'
def restA (text : List UInt8) (k : Nat) : List (List UInt8) := if k ≤ text.length then splitL 10 (text.drop k) else []
theorem restA_step {text : List UInt8} {k : Nat} (h : k < text.length) : restA text k = (text.drop k).take (cutAt 10 (text.drop k)) :: restA text (k + cutAt 10 (text.drop k) + 1) := by
  have hle := cutAt_le 10 (text.drop k)
  rw [List.length_drop] at hle
  unfold restA
  rw [if_pos (Nat.le_of_lt h)]
  by_cases hc : cutAt 10 (text.drop k) < (text.drop k).length
  · rw [splitL_cons hc, List.drop_drop]
    rw [List.length_drop] at hc
    rw [if_pos (by omega)]
    congr 2
  · rw [splitL_last hc]
    rw [List.length_drop] at hc
    rw [if_neg (by omega), List.take_of_length_le (by rw [List.length_drop]; omega)]
theorem restA_end {f : List UInt8 → Except (Nat × Nat) OpN} {text : List UInt8} {k : Nat} {os : List OpN} (h : ¬ k < text.length) : (match runA f (.ok (k, os)) (restA text k) with | .ok st => Except.ok st.2 | .error e => .error e) = (Except.ok os : Except (Nat × Nat) (List OpN)) := by
  unfold restA
  by_cases hk : k ≤ text.length
  · rw [if_pos hk, List.drop_of_length_le (by omega), splitL_last (by simp [cutAt])]
    rfl
  · rw [if_neg hk]; rfl
theorem ParsePost.of_err {a b : Nat} {w w' : World} {e : Ending} (h : ParsePost (.error (a, b)) w e w') : ∃ A c, e = .returned (.tuple #[.agg #[.string ⟨#[]⟩, .int .i64 0, .int .i64 0, .slice A 0 c], .agg #[.int .i64 (a : Int), .int .i64 (b : Int)]]) ∧ Below w.heap.size w w' := by
  obtain ⟨v, rfl, ho, hb⟩ := h
  obtain ⟨A, c, rfl, _⟩ := own_sl ho
  exact ⟨A, c, rfl, hb⟩
theorem ParsePost.of_ok {o : OpN} {w w' : World} {e : Ending} (h : ParsePost (.ok o) w e w') : ∃ A c, e = .returned (.tuple #[.agg #[.string (bs o.w), .int .i64 (o.id : Int), .int .i64 (o.n : Int), .slice A o.b.length c], .agg #[.int .i64 0, .int .i64 0]]) ∧ w'.ownsRow w.heap.size 5 1 (.slice A o.b.length c) o.b.length (o.b.map byteV) ∧ Below w.heap.size w w' := by
  obtain ⟨v, rfl, ho, hb⟩ := h
  obtain ⟨A, c, rfl, _⟩ := own_sl ho
  exact ⟨A, c, rfl, ho, hb⟩
theorem goR_err (line : List UInt8) : ∀ (t : List UInt8) (k : Nat) (o : OpN) (e : Nat × Nat), k ≤ line.length → goR line t k o = .error e → e.1 = 14 ∧ e.2 ≤ line.length
  | [], k, o, e, hle, h => by
    simp only [goR] at h
    split at h
    · cases h; exact ⟨rfl, by show k ≤ _; omega⟩
    · cases h
  | c :: t, k, o, e, hle, h => by
    simp only [goR] at h
    split at h
    · cases h; exact ⟨rfl, by show k ≤ _; omega⟩
    · split at h
      · rename_i hk _ _
        cases h
        refine ⟨rfl, ?_⟩
        show k + 1 ≤ _
        have := hle
        omega
      · rename_i hk _ _ _
        refine goR_err line t _ _ e ?_ h
        unfold endR
        have h1 := partR_le (line.drop (k + 1))
        rw [List.length_drop] at h1
        omega
theorem refP_err {line : List UInt8} {e : Nat × Nat} (h : refP line = .error e) : (e.1 = 4 ∨ e.1 = 14) ∧ e.2 ≤ line.length := by
  unfold refP at h
  split at h
  · cases h; exact ⟨Or.inl rfl, by show 3000 ≤ _; omega⟩
  · split at h
    · cases h; exact ⟨Or.inr rfl, Nat.zero_le _⟩
    · have := goR_err line _ _ _ e (partR_le line) h
      exact ⟨Or.inr this.1, this.2⟩
def RA (w : World) (v : Value) (os : List OpN) (W : World) : Prop := OpsRow W w.heap.size v os ∧ Blk W w.heap.size 34 #[.int .i64 0, .int .i64 0] ∧ Below w.heap.size w W
set_option maxRecDepth 100000 in
set_option maxHeartbeats 4000000 in
theorem ref31_all (text : List UInt8) (w : World) (hsz : text.length ≤ 10000) : Calls Tryd.prog 19 #[.string (bs text)] w (AllPost (allP refP text) w) := by
  obtain ⟨r, hr⟩ : ∃ r, allP refP text = r := ⟨_, rfl⟩
  rw [hr]
  have Hr : Hid ((match runA refP (.ok (0, [])) (restA text 0) with | .ok st => Except.ok st.2 | .error e => .error e) = r) := Lib.hid (by rw [← hr]; unfold allP restA; rw [if_pos (Nat.zero_le _), List.drop_zero])
  clear hr
  go_enter Tryd.func19, Tryd.ntmps19
  go_wp2_with fail
  go_loopg [4, 5] text.length (fun g v i => fun wr => ∃ (k : Nat) (os : List OpN), Hid (text.length ≤ k + g) ∧ i = .int .i64 (k : Int) ∧ k ≤ 10001 ∧ Hid (os.length ≤ k) ∧ Hid (RA w v os wr) ∧ Hid ((match runA refP (.ok (k, os)) (restA text k) with | .ok st => Except.ok st.2 | .error e => .error e) = r))
  case atStart => exact ⟨0, [], Lib.hid (by omega), rfl, by omega, Lib.hid (Nat.zero_le _), Lib.hid ⟨OpsRow.nil _ _, Blk.new w 34 _, (Below.refl _ _).alloc (Nat.le_refl _) _⟩, Hr⟩
  case round =>
    obtain ⟨k, os, Hg, rfl, hk, Hol, HR, Hrun⟩ := hrel
    by_cases hlt' : k < text.length
    · obtain ⟨g, rfl⟩ : ∃ g', gk = g' + 1 := ⟨gk - 1, by have := Hg.out; omega⟩
      have hlt : (k : Int) < (text.length : Int) := by omega
      have hst := restA_step hlt'
      obtain ⟨m, hm⟩ : ∃ m, m = cutAt 10 (text.drop k) := ⟨_, rfl⟩
      have hml := cutAt_le 10 (text.drop k)
      rw [List.length_drop] at hml
      rw [← hm] at hst hml
      have Hst := Lib.hid hst
      have Hm := Lib.hid hm
      clear hst hm
      go_wp2_with fail
      go_loopg [6] (text.length - k) (fun g2 e => fun wr2 => ∃ (j : Nat), j + g2 = text.length ∧ e = .int .i64 (j : Int) ∧ k ≤ j ∧ Hid (k + m = j + cutAt 10 (text.drop j)) ∧ wr = wr2)
      case atStart => exact ⟨k, by omega, rfl, Nat.le_refl _, Lib.hid (by rw [Hm.out]), rfl⟩
      case round =>
        obtain ⟨j, hj, rfl, hkj0, Hc, rfl⟩ := hrel
        cases gk with
        | zero =>
          have hje : j = text.length := by omega
          have hjlt : ¬ ((j : Int) < (text.length : Int)) := by omega
          have hjm : k + m = j := by rw [Hc.out, hje, List.drop_length]; simp [cutAt]
          clear hje
          have hln : (text.take j).drop k = (text.drop k).take m := by rw [List.drop_take, show j - k = m by omega]
          have hll : ((text.drop k).take m).length = m := by rw [List.length_take, List.length_drop]; omega
          have hkj : (k : Int) ≤ (j : Int) := by omega
          have hjt : (j : Int) ≤ (text.length : Int) := by omega
          obtain ⟨ln, hlnd⟩ : ∃ ln, ln = (text.drop k).take m := ⟨_, rfl⟩
          have Hrun2 := Hrun.out
          rw [Hst.out, ← hlnd] at Hrun2
          rw [← hlnd] at hln hll
          have hw1 : IntKind.i64.wrap ((j : Int) + 1) = (j : Int) + 1 := by rw [IntKind.wrap_i64]; omega
          have hln0 : ln.length ≤ 10000 := by omega
          have hjk : j = k + m := by omega
          have HJK := Lib.hid hjk
          have HLL := Lib.hid hll
          clear hlnd hjk hll
          by_cases hskip : ln ≠ [] ∧ ln.getD 0 0 ≠ 35
          · obtain ⟨hnil, h35⟩ := hskip
            have hpos : 0 < ln.length := List.length_pos_iff.2 hnil
            have hposi : (0 : Int) < (ln.length : Int) := by omega
            rw [List.getD, List.getElem?_eq_getElem hpos, Option.getD_some] at h35
            have q35 : ((ln[0].toNat : Int) != 35) = true := by rw [bne_iff_ne]; intro h; exact h35 (UInt8.toNat_inj.1 (by simpa using (by omega : ln[0].toNat = 35)))
            have hcond : ln ≠ [] ∧ ln.getD 0 0 ≠ 35 := ⟨hnil, by rw [List.getD, List.getElem?_eq_getElem hpos, Option.getD_some]; exact h35⟩
            have Cp := Lib.hid (fun W => ref31_parse ln W hln0)
            obtain ⟨ha1, ha2, ha3⟩ := HR.out
            cases hpar : refP ln with
            | error e =>
              obtain ⟨e1, e2⟩ := e
              rw [hpar] at Cp
              have hst : runA refP (.ok (k, os)) (ln :: restA text (k + m + 1)) = .error (e1, k + e2) := by
                show runA refP (stepA refP (k, os) ln) _ = _
                unfold stepA
                rw [if_pos hcond, hpar]
                exact runA_err _ _ _
              rw [hst] at Hrun2
              have hr2 : Except.error (e1, k + e2) = r := Hrun2
              subst hr2
              obtain ⟨he1, he2⟩ := refP_err hpar
              dsimp only at he1 he2
              have qe : ((e1 : Int) != 0) = true := by rw [bne_iff_ne]; omega
              have HA2 := Lib.hid ha2; have HA3 := Lib.hid ha3
              have hke : (k : Int) + (e2 : Int) = ((k + e2 : Nat) : Int) := by omega
              have HKE := Lib.hid hke
              have hkw : IntKind.i64.wrap ((k : Int) + (e2 : Int)) = (k : Int) + (e2 : Int) := by rw [IntKind.wrap_i64]; omega
              clear hcond h35 hnil hst Hrun2 hpar he1 ha1 ha2 ha3 hke
              go_wp2_with (go_at_call 17; refine (Cp.out _).mono ?_; intro e w2 hpp; obtain ⟨A2, c2, rfl, hb2⟩ := hpp.of_err; have HB2 := Lib.hid hb2; clear hb2 hpp)
              have W3 := (w2.alloc (.cells #[.string ⟨#[]⟩, .int .i64 0, .int .i64 0, .slice A2 0 c2] 24)).alloc (.cells #[.int .i64 (e1 : Int), .int .i64 (e2 : Int)] 34)
              have hF := (Blk.new (w2.alloc (.cells #[.string ⟨#[]⟩, .int .i64 0, .int .i64 0, .slice A2 0 c2] 24)) 34 #[.int .i64 (e1 : Int), .int .i64 (e2 : Int)]).at_eq (World.size_alloc w2 _)
              have hR := ((HA2.out.below HB2.out HA2.out.lt).alloc (.cells #[.string ⟨#[]⟩, .int .i64 0, .int .i64 0, .slice A2 0 c2] 24)).alloc (.cells #[.int .i64 (e1 : Int), .int .i64 (e2 : Int)] 34)
              have hBB : Below w.heap.size w ((w2.alloc (.cells #[.string ⟨#[]⟩, .int .i64 0, .int .i64 0, .slice A2 0 c2] 24)).alloc (.cells #[.int .i64 (e1 : Int), .int .i64 (e2 : Int)] 34)) := ((HA3.out.trans (HB2.out.mono HA3.out.size)).alloc (Nat.le_trans HA3.out.size HB2.out.size) _).alloc (by have h1 := HA3.out.size; have h2 := HB2.out.size; rw [World.size_alloc]; omega) _
              have HF := Lib.hid hF; have HRr := Lib.hid hR; have HBB := Lib.hid hBB
              clear hF hR hBB W3
              generalize (w2.alloc (.cells #[.string ⟨#[]⟩, .int .i64 0, .int .i64 0, .slice A2 0 c2] 24)).alloc (.cells #[.int .i64 (e1 : Int), .int .i64 (e2 : Int)] 34) = W3 at HF HRr HBB ⊢
              have r0 := HRr.out.cell 0
              have r1 := HRr.out.cell 1
              have fr0 := HRr.out.frozen 0
              have fr1 := HRr.out.frozen 1
              refine wp_region_plan2 (fun w' => w'.cell? ⟨w2.heap.size + 1, 0, none⟩ = some (.int .i64 (e1 : Int)) ∧ w'.cell? ⟨w2.heap.size + 1, 1, none⟩ = some (.int .i64 (e2 : Int))) 8 [(0, true), (1, true), (2, true), (3, true), (4, true), (5, true), (6, true), (7, false)] (by kernel_rfl) (by kernel_rfl) (fun _ _ d _ _ h => by cases d <;> exact h) (by decide) (by simp only [List.map_cons, List.map_nil, Array.getD_eq_getD_getElem?, List.getElem?_toArray, List.getElem?_cons_zero, List.getElem?_cons_succ, Option.getD_some]; rfl) (by simp only [List.map_cons, List.map_nil]; rfl) (⟨HF.out.cell 0, HF.out.cell 1⟩) (fun PE hPE => ?_)
              refine plan_take (v := ?_) rfl (by rfl) ?_ ?_
              rotate_left
              · intro _ hSw; (try dsimp only at hSw); go_simp; (try with_reducible rfl)
              simp only [List.setIfInBounds_toArray, List.set_cons_zero, List.set_cons_succ]
              refine plan_take (v := ?_) rfl (by rfl) ?_ ?_
              rotate_left
              · intro _ hSw; (try dsimp only at hSw); go_simp; (try with_reducible rfl)
              simp only [List.setIfInBounds_toArray, List.set_cons_zero, List.set_cons_succ]
              refine plan_take (v := ?_) rfl (by rfl) ?_ ?_
              rotate_left
              · intro _ hSw; (try dsimp only at hSw); go_simp; (try with_reducible rfl)
              simp only [List.setIfInBounds_toArray, List.set_cons_zero, List.set_cons_succ]
              refine plan_take (v := ?_) rfl (by rfl) ?_ ?_
              rotate_left
              · intro _ hSw; (try dsimp only at hSw); go_simp; (try with_reducible rfl)
              simp only [List.setIfInBounds_toArray, List.set_cons_zero, List.set_cons_succ]
              refine plan_take (v := ?_) rfl (by rfl) ?_ ?_
              rotate_left
              · intro _ hSw; (try dsimp only at hSw); go_simp; (try with_reducible rfl)
              simp only [List.setIfInBounds_toArray, List.set_cons_zero, List.set_cons_succ]
              refine plan_take (v := ?_) rfl (by rfl) ?_ ?_
              rotate_left
              · intro _ hSw; (try dsimp only at hSw); go_simp; (try with_reducible rfl)
              simp only [List.setIfInBounds_toArray, List.set_cons_zero, List.set_cons_succ]
              refine plan_take (v := ?_) rfl (by rfl) ?_ ?_
              rotate_left
              · intro _ hSw; (try dsimp only at hSw); go_simp; (try with_reducible rfl)
              simp only [List.setIfInBounds_toArray, List.set_cons_zero, List.set_cons_succ]
              refine plan_value (v := ?_) (w' := ?_) rfl (by rfl) ?_ ?_ ?_
              rotate_left 2
              · go_simp; (try (constructor <;> with_reducible rfl))
              · exact ⟨HF.out.cell 0, HF.out.cell 1⟩
              simp only [List.setIfInBounds_toArray, List.set_cons_zero, List.set_cons_succ]
              (refine hPE _ _ ?_; simp only [List.drop_succ_cons, List.drop_zero]; clear hPE PE)
              go_wp2_with fail
              refine bodyPost_ret (by simp [results, Tryd.results19, go_sem, r0, r1]; try rfl) rfl ?_
              rw [HKE.out]
              exact ⟨_, rfl, OpsRow.nil _ _, ((HBB.out.setCell (p := ⟨w.heap.size, 0, none⟩) (Nat.le_refl _) _).setCell (p := ⟨w.heap.size, 1, none⟩) (Nat.le_refl _) _).drew⟩
            | ok o =>
              rw [hpar] at Cp
              have hst : runA refP (.ok (k, os)) (ln :: restA text (k + m + 1)) = runA refP (.ok (k + m + 1, os ++ [o])) (restA text (k + m + 1)) := by
                show runA refP (stepA refP (k, os) ln) _ = _
                unfold stepA
                rw [if_pos hcond, hpar, HLL.out]
                rfl
              rw [hst] at Hrun2
              have HRUN := Lib.hid Hrun2
              obtain ⟨vs, hr1, hr2⟩ := ha1
              have HA1 := Lib.hid hr1; have HO1 := Lib.hid hr2
              have HA2 := Lib.hid ha2; have HA3 := Lib.hid ha3
              have hol : os.length ≤ 10001 := by have := Hol.out; omega
              clear hcond h35 hnil hst Hrun2 hpar ha2 ha3 hr1 hr2
              go_wp2_with (first
                | (go_at_call 17; refine (Cp.out _).mono ?_; intro e w2 hpp; obtain ⟨A2, c2, rfl, ho2, hb2⟩ := hpp.of_ok; have HB2 := Lib.hid hb2; have HO2 := Lib.hid ho2; clear hb2 hpp ho2)
                | (at_builtin; refine wpList_app etOp rfl rfl rfl ((((own_below HA1.out HB2.out (Nat.le_refl _)).alloc (.cells #[.string (bs o.w), .int .i64 (o.id : Int), .int .i64 (o.n : Int), .slice A2 o.b.length c2] 24)).alloc (.cells #[.int .i64 0, .int .i64 0] 34)).alloc (.cells #[.string (bs o.w), .int .i64 (o.id : Int), .int .i64 (o.n : Int), .slice A2 o.b.length c2] 24)) rfl (m := 1) (news := [Value.string (bs o.w), .int .i64 (o.id : Int), .int .i64 (o.n : Int), .slice A2 o.b.length c2]) rfl (((Blk.new ((w2.alloc (.cells #[.string (bs o.w), .int .i64 (o.id : Int), .int .i64 (o.n : Int), .slice A2 o.b.length c2] 24)).alloc (.cells #[.int .i64 0, .int .i64 0] 34)) 24 #[.string (bs o.w), .int .i64 (o.id : Int), .int .i64 (o.n : Int), .slice A2 o.b.length c2]).at_eq (by rw [World.size_alloc, World.size_alloc])).sl 0) (by intro u hu; simp at hu; rcases hu with rfl | rfl | rfl | rfl <;> rfl) (by omega) (by have h1 := HA3.out.size; have h2 := HB2.out.size; simp; omega) ?_; intro v5 w5 ho5 hg5 _; have HG5 := Lib.hid hg5; have HO5 := Lib.hid ho5; clear hg5 ho5))
              go_roundg g
              case measure => omega
              case rel =>
                have hown := (((own_below HA1.out HB2.out (Nat.le_refl _)).alloc (.cells #[.string (bs o.w), .int .i64 (o.id : Int), .int .i64 (o.n : Int), .slice A2 o.b.length c2] 24)).alloc (.cells #[.int .i64 0, .int .i64 0] 34)).alloc (.cells #[.string (bs o.w), .int .i64 (o.id : Int), .int .i64 (o.n : Int), .slice A2 o.b.length c2] 24)
                have hk : ∀ g t cs, t ≠ 24 → Blk wr g t cs → Blk w5 g t cs := fun g t cs ht h => ((((h.below HB2.out h.lt).alloc (.cells #[.string (bs o.w), .int .i64 (o.id : Int), .int .i64 (o.n : Int), .slice A2 o.b.length c2] 24)).alloc (.cells #[.int .i64 0, .int .i64 0] 34)).alloc (.cells #[.string (bs o.w), .int .i64 (o.id : Int), .int .i64 (o.n : Int), .slice A2 o.b.length c2] 24)).grown HG5.out (fun e => own_blk_ne hown ((((h.below HB2.out h.lt).alloc (.cells #[.string (bs o.w), .int .i64 (o.id : Int), .int .i64 (o.n : Int), .slice A2 o.b.length c2] 24)).alloc (.cells #[.int .i64 0, .int .i64 0] 34)).alloc (.cells #[.string (bs o.w), .int .i64 (o.id : Int), .int .i64 (o.n : Int), .slice A2 o.b.length c2] 24)) (Ne.symm ht) e)
                have hk2 : ∀ g t cs, t ≠ 24 → Blk w2 g t cs → Blk w5 g t cs := fun g t cs ht h => (((h.alloc (.cells #[.string (bs o.w), .int .i64 (o.id : Int), .int .i64 (o.n : Int), .slice A2 o.b.length c2] 24)).alloc (.cells #[.int .i64 0, .int .i64 0] 34)).alloc (.cells #[.string (bs o.w), .int .i64 (o.id : Int), .int .i64 (o.n : Int), .slice A2 o.b.length c2] 24)).grown HG5.out (fun e => own_blk_ne hown (((h.alloc (.cells #[.string (bs o.w), .int .i64 (o.id : Int), .int .i64 (o.n : Int), .slice A2 o.b.length c2] 24)).alloc (.cells #[.int .i64 0, .int .i64 0] 34)).alloc (.cells #[.string (bs o.w), .int .i64 (o.id : Int), .int .i64 (o.n : Int), .slice A2 o.b.length c2] 24)) (Ne.symm ht) e)
                refine ⟨k + m + 1, os ++ [o], Lib.hid (by have := Hg.out; omega), by have := HJK.out; congr 1; omega, by omega, Lib.hid (by rw [List.length_append]; have := Hol.out; simp; omega), Lib.hid ⟨⟨vs ++ [.slice A2 o.b.length c2], ?_, ?_⟩, hk _ _ _ (by decide) HA2.out, ?_⟩, HRUN⟩
                · rw [List.length_append, cellsOf_snoc o _ os vs HO1.out.len]
                  exact HO5.out
                · exact (HO1.out.kept (fun g cs => hk g _ cs (by decide))).snoc (own_kept5 (own_mono HO2.out HA3.out.size) (fun g cs => hk2 g _ cs (by decide)))
                · exact below_app ((((HA3.out.trans (HB2.out.mono HA3.out.size)).alloc (Nat.le_trans HA3.out.size HB2.out.size) _).alloc (by have h1 := HA3.out.size; have h2 := HB2.out.size; rw [World.size_alloc]; omega) _).alloc (by have h1 := HA3.out.size; have h2 := HB2.out.size; rw [World.size_alloc, World.size_alloc]; omega) _) hown HG5.out (by have h1 := HA3.out.size; have h2 := HB2.out.size; simp; omega) (Nat.le_refl _)
          · have hstep : runA refP (.ok (k, os)) (ln :: restA text (k + m + 1)) = runA refP (.ok (k + m + 1, os)) (restA text (k + m + 1)) := by
              show runA refP (stepA refP (k, os) ln) _ = _
              unfold stepA
              rw [if_neg hskip, HLL.out]
              rfl
            rw [hstep] at Hrun2
            have HRUN := Lib.hid Hrun2
            clear Hrun2 hstep
            by_cases hnil : ln = []
            · subst hnil
              clear hskip
              go_wp2_with fail
              go_roundg g
              case measure => omega
              case rel => exact ⟨k + m + 1, os, Lib.hid (by have := Hg.out; omega), by have := HJK.out; congr 1; omega, by omega, Lib.hid (by have := Hol.out; omega), HR, HRUN⟩
            · have hpos : 0 < ln.length := List.length_pos_iff.2 hnil
              have hposi : (0 : Int) < (ln.length : Int) := by omega
              have h35 : ln[0] = 35 := by
                have h1 : ¬ ln.getD 0 0 ≠ 35 := fun h => hskip ⟨hnil, h⟩
                rw [List.getD, List.getElem?_eq_getElem hpos, Option.getD_some] at h1
                exact Classical.not_not.1 h1
              have q35 : ((ln[0].toNat : Int) != 35) = false := by rw [h35]; rfl
              clear hskip h35
              go_wp2_with fail
              go_roundg g
              case measure => omega
              case rel => exact ⟨k + m + 1, os, Lib.hid (by have := Hg.out; omega), by have := HJK.out; congr 1; omega, by omega, Lib.hid (by have := Hol.out; omega), HR, HRUN⟩
        | succ g2 =>
          have hjl : j < text.length := by omega
          have hjlt : (j : Int) < (text.length : Int) := by omega
          by_cases hch : text[j] = 10
          · have q10 : ((text[j].toNat : Int) != 10) = false := by rw [hch]; rfl
            have hjm : k + m = j := by rw [Hc.out, List.drop_eq_getElem_cons hjl, hch]; simp [cutAt]
            clear hch
            have hln : (text.take j).drop k = (text.drop k).take m := by rw [List.drop_take, show j - k = m by omega]
            have hll : ((text.drop k).take m).length = m := by rw [List.length_take, List.length_drop]; omega
            have hkj : (k : Int) ≤ (j : Int) := by omega
            have hjt : (j : Int) ≤ (text.length : Int) := by omega
            obtain ⟨ln, hlnd⟩ : ∃ ln, ln = (text.drop k).take m := ⟨_, rfl⟩
            have Hrun2 := Hrun.out
            rw [Hst.out, ← hlnd] at Hrun2
            rw [← hlnd] at hln hll
            have hw1 : IntKind.i64.wrap ((j : Int) + 1) = (j : Int) + 1 := by rw [IntKind.wrap_i64]; omega
            have hln0 : ln.length ≤ 10000 := by omega
            have hjk : j = k + m := by omega
            have HJK := Lib.hid hjk
            have HLL := Lib.hid hll
            clear hlnd hjk hll
            by_cases hskip : ln ≠ [] ∧ ln.getD 0 0 ≠ 35
            · obtain ⟨hnil, h35⟩ := hskip
              have hpos : 0 < ln.length := List.length_pos_iff.2 hnil
              have hposi : (0 : Int) < (ln.length : Int) := by omega
              rw [List.getD, List.getElem?_eq_getElem hpos, Option.getD_some] at h35
              have q35 : ((ln[0].toNat : Int) != 35) = true := by rw [bne_iff_ne]; intro h; exact h35 (UInt8.toNat_inj.1 (by simpa using (by omega : ln[0].toNat = 35)))
              have hcond : ln ≠ [] ∧ ln.getD 0 0 ≠ 35 := ⟨hnil, by rw [List.getD, List.getElem?_eq_getElem hpos, Option.getD_some]; exact h35⟩
              have Cp := Lib.hid (fun W => ref31_parse ln W hln0)
              obtain ⟨ha1, ha2, ha3⟩ := HR.out
              cases hpar : refP ln with
              | error e =>
                obtain ⟨e1, e2⟩ := e
                rw [hpar] at Cp
                have hst : runA refP (.ok (k, os)) (ln :: restA text (k + m + 1)) = .error (e1, k + e2) := by
                  show runA refP (stepA refP (k, os) ln) _ = _
                  unfold stepA
                  rw [if_pos hcond, hpar]
                  exact runA_err _ _ _
                rw [hst] at Hrun2
                have hr2 : Except.error (e1, k + e2) = r := Hrun2
                subst hr2
                obtain ⟨he1, he2⟩ := refP_err hpar
                dsimp only at he1 he2
                have qe : ((e1 : Int) != 0) = true := by rw [bne_iff_ne]; omega
                have HA2 := Lib.hid ha2; have HA3 := Lib.hid ha3
                have hke : (k : Int) + (e2 : Int) = ((k + e2 : Nat) : Int) := by omega
                have HKE := Lib.hid hke
                have hkw : IntKind.i64.wrap ((k : Int) + (e2 : Int)) = (k : Int) + (e2 : Int) := by rw [IntKind.wrap_i64]; omega
                clear hcond h35 hnil hst Hrun2 hpar he1 ha1 ha2 ha3 hke
                go_wp2_with (go_at_call 17; refine (Cp.out _).mono ?_; intro e w2 hpp; obtain ⟨A2, c2, rfl, hb2⟩ := hpp.of_err; have HB2 := Lib.hid hb2; clear hb2 hpp)
                have W3 := (w2.alloc (.cells #[.string ⟨#[]⟩, .int .i64 0, .int .i64 0, .slice A2 0 c2] 24)).alloc (.cells #[.int .i64 (e1 : Int), .int .i64 (e2 : Int)] 34)
                have hF := (Blk.new (w2.alloc (.cells #[.string ⟨#[]⟩, .int .i64 0, .int .i64 0, .slice A2 0 c2] 24)) 34 #[.int .i64 (e1 : Int), .int .i64 (e2 : Int)]).at_eq (World.size_alloc w2 _)
                have hR := ((HA2.out.below HB2.out HA2.out.lt).alloc (.cells #[.string ⟨#[]⟩, .int .i64 0, .int .i64 0, .slice A2 0 c2] 24)).alloc (.cells #[.int .i64 (e1 : Int), .int .i64 (e2 : Int)] 34)
                have hBB : Below w.heap.size w ((w2.alloc (.cells #[.string ⟨#[]⟩, .int .i64 0, .int .i64 0, .slice A2 0 c2] 24)).alloc (.cells #[.int .i64 (e1 : Int), .int .i64 (e2 : Int)] 34)) := ((HA3.out.trans (HB2.out.mono HA3.out.size)).alloc (Nat.le_trans HA3.out.size HB2.out.size) _).alloc (by have h1 := HA3.out.size; have h2 := HB2.out.size; rw [World.size_alloc]; omega) _
                have HF := Lib.hid hF; have HRr := Lib.hid hR; have HBB := Lib.hid hBB
                clear hF hR hBB W3
                generalize (w2.alloc (.cells #[.string ⟨#[]⟩, .int .i64 0, .int .i64 0, .slice A2 0 c2] 24)).alloc (.cells #[.int .i64 (e1 : Int), .int .i64 (e2 : Int)] 34) = W3 at HF HRr HBB ⊢
                have r0 := HRr.out.cell 0
                have r1 := HRr.out.cell 1
                have fr0 := HRr.out.frozen 0
                have fr1 := HRr.out.frozen 1
                refine wp_region_plan2 (fun w' => w'.cell? ⟨w2.heap.size + 1, 0, none⟩ = some (.int .i64 (e1 : Int)) ∧ w'.cell? ⟨w2.heap.size + 1, 1, none⟩ = some (.int .i64 (e2 : Int))) 8 [(0, true), (1, true), (2, true), (3, true), (4, true), (5, true), (6, true), (7, false)] (by kernel_rfl) (by kernel_rfl) (fun _ _ d _ _ h => by cases d <;> exact h) (by decide) (by simp only [List.map_cons, List.map_nil, Array.getD_eq_getD_getElem?, List.getElem?_toArray, List.getElem?_cons_zero, List.getElem?_cons_succ, Option.getD_some]; rfl) (by simp only [List.map_cons, List.map_nil]; rfl) (⟨HF.out.cell 0, HF.out.cell 1⟩) (fun PE hPE => ?_)
                refine plan_take (v := ?_) rfl (by rfl) ?_ ?_
                rotate_left
                · intro _ hSw; (try dsimp only at hSw); go_simp; (try with_reducible rfl)
                simp only [List.setIfInBounds_toArray, List.set_cons_zero, List.set_cons_succ]
                refine plan_take (v := ?_) rfl (by rfl) ?_ ?_
                rotate_left
                · intro _ hSw; (try dsimp only at hSw); go_simp; (try with_reducible rfl)
                simp only [List.setIfInBounds_toArray, List.set_cons_zero, List.set_cons_succ]
                refine plan_take (v := ?_) rfl (by rfl) ?_ ?_
                rotate_left
                · intro _ hSw; (try dsimp only at hSw); go_simp; (try with_reducible rfl)
                simp only [List.setIfInBounds_toArray, List.set_cons_zero, List.set_cons_succ]
                refine plan_take (v := ?_) rfl (by rfl) ?_ ?_
                rotate_left
                · intro _ hSw; (try dsimp only at hSw); go_simp; (try with_reducible rfl)
                simp only [List.setIfInBounds_toArray, List.set_cons_zero, List.set_cons_succ]
                refine plan_take (v := ?_) rfl (by rfl) ?_ ?_
                rotate_left
                · intro _ hSw; (try dsimp only at hSw); go_simp; (try with_reducible rfl)
                simp only [List.setIfInBounds_toArray, List.set_cons_zero, List.set_cons_succ]
                refine plan_take (v := ?_) rfl (by rfl) ?_ ?_
                rotate_left
                · intro _ hSw; (try dsimp only at hSw); go_simp; (try with_reducible rfl)
                simp only [List.setIfInBounds_toArray, List.set_cons_zero, List.set_cons_succ]
                refine plan_take (v := ?_) rfl (by rfl) ?_ ?_
                rotate_left
                · intro _ hSw; (try dsimp only at hSw); go_simp; (try with_reducible rfl)
                simp only [List.setIfInBounds_toArray, List.set_cons_zero, List.set_cons_succ]
                refine plan_value (v := ?_) (w' := ?_) rfl (by rfl) ?_ ?_ ?_
                rotate_left 2
                · go_simp; (try (constructor <;> with_reducible rfl))
                · exact ⟨HF.out.cell 0, HF.out.cell 1⟩
                simp only [List.setIfInBounds_toArray, List.set_cons_zero, List.set_cons_succ]
                (refine hPE _ _ ?_; simp only [List.drop_succ_cons, List.drop_zero]; clear hPE PE)
                go_wp2_with fail
                refine bodyPost_ret (by simp [results, Tryd.results19, go_sem, r0, r1]; try rfl) rfl ?_
                rw [HKE.out]
                exact ⟨_, rfl, OpsRow.nil _ _, ((HBB.out.setCell (p := ⟨w.heap.size, 0, none⟩) (Nat.le_refl _) _).setCell (p := ⟨w.heap.size, 1, none⟩) (Nat.le_refl _) _).drew⟩
              | ok o =>
                rw [hpar] at Cp
                have hst : runA refP (.ok (k, os)) (ln :: restA text (k + m + 1)) = runA refP (.ok (k + m + 1, os ++ [o])) (restA text (k + m + 1)) := by
                  show runA refP (stepA refP (k, os) ln) _ = _
                  unfold stepA
                  rw [if_pos hcond, hpar, HLL.out]
                  rfl
                rw [hst] at Hrun2
                have HRUN := Lib.hid Hrun2
                obtain ⟨vs, hr1, hr2⟩ := ha1
                have HA1 := Lib.hid hr1; have HO1 := Lib.hid hr2
                have HA2 := Lib.hid ha2; have HA3 := Lib.hid ha3
                have hol : os.length ≤ 10001 := by have := Hol.out; omega
                clear hcond h35 hnil hst Hrun2 hpar ha2 ha3 hr1 hr2
                go_wp2_with (first
                  | (go_at_call 17; refine (Cp.out _).mono ?_; intro e w2 hpp; obtain ⟨A2, c2, rfl, ho2, hb2⟩ := hpp.of_ok; have HB2 := Lib.hid hb2; have HO2 := Lib.hid ho2; clear hb2 hpp ho2)
                  | (at_builtin; refine wpList_app etOp rfl rfl rfl ((((own_below HA1.out HB2.out (Nat.le_refl _)).alloc (.cells #[.string (bs o.w), .int .i64 (o.id : Int), .int .i64 (o.n : Int), .slice A2 o.b.length c2] 24)).alloc (.cells #[.int .i64 0, .int .i64 0] 34)).alloc (.cells #[.string (bs o.w), .int .i64 (o.id : Int), .int .i64 (o.n : Int), .slice A2 o.b.length c2] 24)) rfl (m := 1) (news := [Value.string (bs o.w), .int .i64 (o.id : Int), .int .i64 (o.n : Int), .slice A2 o.b.length c2]) rfl (((Blk.new ((w2.alloc (.cells #[.string (bs o.w), .int .i64 (o.id : Int), .int .i64 (o.n : Int), .slice A2 o.b.length c2] 24)).alloc (.cells #[.int .i64 0, .int .i64 0] 34)) 24 #[.string (bs o.w), .int .i64 (o.id : Int), .int .i64 (o.n : Int), .slice A2 o.b.length c2]).at_eq (by rw [World.size_alloc, World.size_alloc])).sl 0) (by intro u hu; simp at hu; rcases hu with rfl | rfl | rfl | rfl <;> rfl) (by omega) (by have h1 := HA3.out.size; have h2 := HB2.out.size; simp; omega) ?_; intro v5 w5 ho5 hg5 _; have HG5 := Lib.hid hg5; have HO5 := Lib.hid ho5; clear hg5 ho5))
                go_roundg g
                case measure => omega
                case rel =>
                  have hown := (((own_below HA1.out HB2.out (Nat.le_refl _)).alloc (.cells #[.string (bs o.w), .int .i64 (o.id : Int), .int .i64 (o.n : Int), .slice A2 o.b.length c2] 24)).alloc (.cells #[.int .i64 0, .int .i64 0] 34)).alloc (.cells #[.string (bs o.w), .int .i64 (o.id : Int), .int .i64 (o.n : Int), .slice A2 o.b.length c2] 24)
                  have hk : ∀ g t cs, t ≠ 24 → Blk wr g t cs → Blk w5 g t cs := fun g t cs ht h => ((((h.below HB2.out h.lt).alloc (.cells #[.string (bs o.w), .int .i64 (o.id : Int), .int .i64 (o.n : Int), .slice A2 o.b.length c2] 24)).alloc (.cells #[.int .i64 0, .int .i64 0] 34)).alloc (.cells #[.string (bs o.w), .int .i64 (o.id : Int), .int .i64 (o.n : Int), .slice A2 o.b.length c2] 24)).grown HG5.out (fun e => own_blk_ne hown ((((h.below HB2.out h.lt).alloc (.cells #[.string (bs o.w), .int .i64 (o.id : Int), .int .i64 (o.n : Int), .slice A2 o.b.length c2] 24)).alloc (.cells #[.int .i64 0, .int .i64 0] 34)).alloc (.cells #[.string (bs o.w), .int .i64 (o.id : Int), .int .i64 (o.n : Int), .slice A2 o.b.length c2] 24)) (Ne.symm ht) e)
                  have hk2 : ∀ g t cs, t ≠ 24 → Blk w2 g t cs → Blk w5 g t cs := fun g t cs ht h => (((h.alloc (.cells #[.string (bs o.w), .int .i64 (o.id : Int), .int .i64 (o.n : Int), .slice A2 o.b.length c2] 24)).alloc (.cells #[.int .i64 0, .int .i64 0] 34)).alloc (.cells #[.string (bs o.w), .int .i64 (o.id : Int), .int .i64 (o.n : Int), .slice A2 o.b.length c2] 24)).grown HG5.out (fun e => own_blk_ne hown (((h.alloc (.cells #[.string (bs o.w), .int .i64 (o.id : Int), .int .i64 (o.n : Int), .slice A2 o.b.length c2] 24)).alloc (.cells #[.int .i64 0, .int .i64 0] 34)).alloc (.cells #[.string (bs o.w), .int .i64 (o.id : Int), .int .i64 (o.n : Int), .slice A2 o.b.length c2] 24)) (Ne.symm ht) e)
                  refine ⟨k + m + 1, os ++ [o], Lib.hid (by have := Hg.out; omega), by have := HJK.out; congr 1; omega, by omega, Lib.hid (by rw [List.length_append]; have := Hol.out; simp; omega), Lib.hid ⟨⟨vs ++ [.slice A2 o.b.length c2], ?_, ?_⟩, hk _ _ _ (by decide) HA2.out, ?_⟩, HRUN⟩
                  · rw [List.length_append, cellsOf_snoc o _ os vs HO1.out.len]
                    exact HO5.out
                  · exact (HO1.out.kept (fun g cs => hk g _ cs (by decide))).snoc (own_kept5 (own_mono HO2.out HA3.out.size) (fun g cs => hk2 g _ cs (by decide)))
                  · exact below_app ((((HA3.out.trans (HB2.out.mono HA3.out.size)).alloc (Nat.le_trans HA3.out.size HB2.out.size) _).alloc (by have h1 := HA3.out.size; have h2 := HB2.out.size; rw [World.size_alloc]; omega) _).alloc (by have h1 := HA3.out.size; have h2 := HB2.out.size; rw [World.size_alloc, World.size_alloc]; omega) _) hown HG5.out (by have h1 := HA3.out.size; have h2 := HB2.out.size; simp; omega) (Nat.le_refl _)
            · have hstep : runA refP (.ok (k, os)) (ln :: restA text (k + m + 1)) = runA refP (.ok (k + m + 1, os)) (restA text (k + m + 1)) := by
                show runA refP (stepA refP (k, os) ln) _ = _
                unfold stepA
                rw [if_neg hskip, HLL.out]
                rfl
              rw [hstep] at Hrun2
              have HRUN := Lib.hid Hrun2
              clear Hrun2 hstep
              by_cases hnil : ln = []
              · subst hnil
                clear hskip
                go_wp2_with fail
                go_roundg g
                case measure => omega
                case rel => exact ⟨k + m + 1, os, Lib.hid (by have := Hg.out; omega), by have := HJK.out; congr 1; omega, by omega, Lib.hid (by have := Hol.out; omega), HR, HRUN⟩
              · have hpos : 0 < ln.length := List.length_pos_iff.2 hnil
                have hposi : (0 : Int) < (ln.length : Int) := by omega
                have h35 : ln[0] = 35 := by
                  have h1 : ¬ ln.getD 0 0 ≠ 35 := fun h => hskip ⟨hnil, h⟩
                  rw [List.getD, List.getElem?_eq_getElem hpos, Option.getD_some] at h1
                  exact Classical.not_not.1 h1
                have q35 : ((ln[0].toNat : Int) != 35) = false := by rw [h35]; rfl
                clear hskip h35
                go_wp2_with fail
                go_roundg g
                case measure => omega
                case rel => exact ⟨k + m + 1, os, Lib.hid (by have := Hg.out; omega), by have := HJK.out; congr 1; omega, by omega, Lib.hid (by have := Hol.out; omega), HR, HRUN⟩
          · have q10 : ((text[j].toNat : Int) != 10) = true := by rw [bne_iff_ne]; intro h; exact hch (UInt8.toNat_inj.1 (by simpa using (by omega : text[j].toNat = 10)))
            have hc2 : k + m = j + 1 + cutAt 10 (text.drop (j + 1)) := by
              rw [Hc.out, List.drop_eq_getElem_cons hjl]
              have : (text[j] != 10) = true := by rw [bne_iff_ne]; exact hch
              simp only [cutAt, List.takeWhile_cons, this, if_true, List.length_cons]
              omega
            have Hc2 := Lib.hid hc2
            clear hch hc2
            go_wp2_with fail
            go_roundg g2
            case measure => omega
            case rel => exact ⟨j + 1, by omega, rfl, by omega, Hc2, rfl⟩
    · have hlt : ¬ (k : Int) < (text.length : Int) := by omega
      have he := Hrun.out
      rw [restA_end hlt'] at he
      subst he
      obtain ⟨h1, h2, h3⟩ := HR.out
      have s0 := h2.cell 0
      have s1 := h2.cell 1
      have fs0 := h2.frozen 0
      have fs1 := h2.frozen 1
      have H1 := Lib.hid h1; have H2 := Lib.hid h2; have H3 := Lib.hid h3
      clear h1 h2 h3
      go_wp2_with fail
      refine bodyPost_ret (by simp [results, Tryd.results19, go_sem, s0, s1]; try rfl) rfl ?_
      have hne : ∀ g t cs, (t = 5 ∨ t = 24) → Blk wr g t cs → g ≠ w.heap.size := fun g t cs ht h => blk_ne h H2.out (by rcases ht with rfl | rfl <;> decide)
      exact ⟨_, rfl, H1.out.kept (fun g t cs ht h => (h.far (p := ⟨w.heap.size, 0, none⟩) (hne g t cs ht h) _).far (p := ⟨w.heap.size, 1, none⟩) (hne g t cs ht h) _), (H3.out.setCell (p := ⟨w.heap.size, 0, none⟩) (Nat.le_refl _) _).setCell (p := ⟨w.heap.size, 1, none⟩) (Nat.le_refl _) _⟩
end Go.Proofs.YthcbidbhkikhmaaDoor
