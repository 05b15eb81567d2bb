/- Live, Tabs -/
import Derived.Test.YtklelheejopfmaaGreatK08
namespace Go.Proofs.YtklelheejopfmaaGreat
open Go Go.RowKit Go.Maps
attribute [local go_sem] Oper.semAt_some
theorem maps_Keys (mb : Option Nat) (W : World) : Calls Tryz.prog 71 #[.map mb] W fun e w' =>
    e = .returned (.func (.func 78) #[] #[.pointer (some ⟨W.heap.size, 0, none⟩)]) ∧ w' = W.alloc (.cells #[.map mb] 78) :=
  (callsIn_wide (n := 5)).1 (AnyZI.keys_in Tryz.keysA Fence.wide 5 trivial rfl mb W)
theorem sorts_A (m : Nat) : AnyZI.SortsIn Tryz.prog Tryz.sortedA_ren Fence.wide m :=
  ⟨fun blk off cap ss W hH hblk hsz => callsIn_wide.2 (AnyM.slices_Sort_int Tryz.sortA blk off cap ss W hH hblk hsz),
   fun p cap W => callsIn_wide.2 (AnyM.slices_Sort_int_none Tryz.sortA p cap W)⟩
theorem slices_Sorted (tb nn : Nat) (D0 : DataW Value) (W : World) (hown : W.ownsMap Tryz.prog 3 heldR tb nn D0) (hmax : Maps.size D0 ≤ 2147483647) :
    Calls Tryz.prog 70 #[.func (.func 78) #[] #[.pointer (some ⟨W.heap.size, 0, none⟩)]] (W.alloc (.cells #[.map (some tb)] 78)) fun e w' =>
      ∃ (v : Value) (ss : List Int), e = .returned v ∧ ss.Perm (intKeys D0) ∧ w'.ownsRow (W.heap.size + 1) 3 1 v ss.length ((ss.mergeSort (fun x y => decide (x ≤ y))).map encZ) ∧ Below (W.heap.size + 1) (W.alloc (.cells #[.map (some tb)] 78)) w' := by
  have hbl := hown.lt
  have hseq : SeqGives Fence.wide 2 Tryz.prog 78 #[.pointer (some ⟨W.heap.size, 0, none⟩)] encZ (fun ss => ss.Perm (intKeys D0)) (Maps.size D0) (W.alloc (.cells #[.map (some tb)] 78)) :=
    AnyZI.keys_gives (ρ := Tryz.keysA_ren) { Tryz.keysA with } Fence.wide _ trivial rfl (by omega) W.heap.size tb nn D0 _ (by simp) (by simp) (by
      obtain ⟨es, clock, hb, Ft, hs, hD⟩ := hown
      exact ⟨es, clock, (Below.heap_alloc _ _ tb hbl).trans hb, Ft, hs, hD⟩)
  have cS := AnyZI.sorted_in Tryz.sortedA Fence.wide 5 trivial trivial trivial trivial rfl (by omega) (sorts_A _) (enters_of Tryz.func77 (by kernel_rfl) rfl) 78 #[.pointer (some ⟨W.heap.size, 0, none⟩)] trivial
    (enters_of Tryz.func78 (by kernel_rfl) rfl) _ _ (by unfold maxLen; omega) (by omega) _ hseq
  change CallsIn _ _ Tryz.prog 70 _ _ _ at cS
  refine ((callsIn_wide (n := 5)).1 cS).mono ?_
  rintro e w' ⟨v, ss, rfl, hS, hrow, _, hb⟩
  rw [World.size_alloc] at hrow hb
  exact ⟨v, ss, rfl, hS, hrow, hb⟩
theorem liveK_take_none {L : List Ent} {i : Nat} (h : i < L.length) (hc : L[i].1 ≠ 0) : liveK (L.take (i + 1)) = liveK (L.take i) := by
  unfold liveK
  suffices ∀ (L : List Ent) (s i : Nat) (h : i < L.length), L[i].1 ≠ 0 → numK gL s (L.take (i + 1)) = numK gL s (L.take i) from this L 0 i h hc
  intro L
  induction L with
  | nil => intro s i h; simp at h
  | cons x L ih =>
    intro s i h hc
    cases i with
    | zero =>
      have h1 : (gL x).isSome = false := by unfold gL; rw [if_neg (by simpa using hc)]; rfl
      simp [numK, h1]
    | succ i =>
      rw [List.take_succ_cons, List.take_succ_cons, numK, numK, ih (s + 1) i (by simpa using h) (by simpa using hc)]
theorem liveK_take_some {L : List Ent} {i : Nat} (h : i < L.length) (hc : L[i].1 = 0) : liveK (L.take (i + 1)) = liveK (L.take i) ++ [(i : Int) + 1] := by
  unfold liveK
  suffices ∀ (L : List Ent) (s i : Nat) (h : i < L.length), L[i].1 = 0 → numK gL s (L.take (i + 1)) = numK gL s (L.take i) ++ [((s + i : Nat) : Int) + 1] by
    have h1 := this L 0 i h hc
    rwa [Nat.zero_add] at h1
  intro L
  induction L with
  | nil => intro s i h; simp at h
  | cons x L ih =>
    intro s i h hc
    cases i with
    | zero =>
      have h1 : (gL x).isSome = true := by unfold gL; rw [if_pos (by simpa using hc)]; rfl
      simp [numK, h1]
    | succ i =>
      rw [List.take_succ_cons, List.take_succ_cons, numK, numK, ih (s + 1) i (by simpa using h) (by simpa using hc), List.append_assoc]
      have e1 : ((s + 1 + i : Nat) : Int) = ((s + (i + 1) : Nat) : Int) := by omega
      rw [e1]
theorem liveK_take_pre (L : List Ent) (i : Nat) : liveK (L.take i) <+: liveK L := by
  unfold liveK
  suffices ∀ (L : List Ent) (s i : Nat), numK gL s (L.take i) <+: numK gL s L from this L 0 i
  intro L
  induction L with
  | nil => intro s i; simp
  | cons x L ih =>
    intro s i
    cases i with
    | zero => simp [numK]
    | succ i =>
      rw [List.take_succ_cons, numK, numK]
      exact List.prefix_append_right_inj _ |>.2 (ih (s + 1) i)
theorem atL_nat {L : List Ent} {i : Nat} (h : i < L.length) : atL L ((i : Int) + 1) = some L[i] := by
  unfold atL
  rw [if_pos (by omega)]
  have e : ((i : Int) + 1 - 1).toNat = i := by omega
  rw [e, List.getElem?_eq_getElem h]
theorem keys_T {ss : List Int} {L : List Ent} (h : ss.Perm (intKeys (numD gT L))) : ss.length = L.length ∧ (ss.mergeSort (fun x y => decide (x ≤ y))).map encZ = (List.range L.length).map (fun i : Nat => encZ ((i : Int) + 1)) := by
  have h1 := sort_numK L h
  rw [numK_T] at h1
  constructor
  · have h2 := (List.length_mergeSort (le := fun x y => decide (x ≤ y)) ss).symm
    rw [h1] at h2
    simpa using h2
  · rw [h1, List.map_map]
    rfl
theorem Fr.blk {M : World → Nat → Prop} {A B : World} (h : Fr M A B) {g : Nat} {t : TypeId} {cs : Array Value} (hb : Blk A g t cs) (hn : ¬ M A g) : Blk B g t cs := (h.block g hb.lt hn).trans hb
theorem Fr.own {M : World → Nat → Prop} {A B : World} (h : Fr M A B) {P : Program} {k : TypeId} {b n : Nat} {D : DataW Value} (hb : A.ownsMap P k heldR b n D) (hn : ¬ M A b) : B.ownsMap P k heldR b n D := by
  have hl := hb.lt
  obtain ⟨es, clock, hh, r⟩ := hb
  exact ⟨es, clock, (h.block b hl hn).trans hh, r⟩
theorem Fr.sl {M : World → Nat → Prop} {A B : World} (h : Fr M A B) {a : Option Addr} {xs : List Value} (hs : Sl A a xs) (hn : ∀ ad, a = some ad → ¬ M A ad.block) : Sl B a xs := fun k v hk => by
  obtain ⟨ad, rfl, hl, hc⟩ := hs k v hk
  refine ⟨ad, rfl, Nat.lt_of_lt_of_le hl h.size, ?_⟩
  rw [World.cell?_of_block (h.block (ad.add k).block (by rw [addr_add_block]; exact hl) (by rw [addr_add_block]; exact hn ad rfl))]
  exact hc
theorem row_base {w : World} {base e n n' c : Nat} {A : Option Addr} {xs : List Value} (h : w.ownsRow base e 1 (.slice A n c) n' xs) : ∀ ad, A = some ad → base ≤ ad.block := by
  intro ad he
  rcases h.2 with ⟨h1, _⟩ | ⟨g, cap, cur, h1, hb, _⟩
  · cases h1; cases he
  · cases h1; cases he; exact hb
def ixOf : Value → Int | .int _ a => a | _ => 0
set_option maxRecDepth 100000 in
set_option maxHeartbeats 2000000 in
theorem live_seq (n : Nat) (hn : 1 ≤ n) (w : World) (cap bt tb : Nat) (most : Int) (L : List Ent) (hc : Blk w cap 51 #[.pointer (some ⟨bt, 0, none⟩)]) (hT : TabAt w bt tb most L) :
    SeqFresh Fence.wide n Tryz.prog 69 #[.pointer (some ⟨cap, 0, none⟩)] (fun x : Int => #[encZ x]) (fun xs => xs = liveK L) (fun pre => pre <+: liveK L) (fun i => i = cap ∨ i = bt ∨ i = tb) w := by
  intro l M J Jx W hW hJb hJxb hMb hMl hY h0
  refine callsIn_of_wp Tryz.func69 rfl trivial ?_ rfl
  simp only [Tryz.ntmps69, List.size_toArray, List.length_cons, List.length_nil, Nat.reduceAdd, Nat.reduceSub, Array.replicate_succ, Array.replicate_zero, List.push_toArray, List.append_toArray, List.nil_append, List.cons_append]
  have hTW := hT.later hW
  have HC := Lib.hid (hc.below hW hc.lt)
  have HT := Lib.hid (hT.later hW)
  have x0 := HC.out.cell 0
  have x2 := HT.out.1.cell 2
  have HS : Hid (∀ (_ : True), _) := Lib.hid (fun (_ : True) => slices_Sorted tb L.length (numD gT L) W HT.out.2.1 (by rw [size_T]; exact HT.out.2.2.1))
  have HY := Lib.hid hY; have HJb := Lib.hid hJb; have HJx := Lib.hid hJxb; have HMb := Lib.hid hMb; have HMl := Lib.hid hMl; have H0 := Lib.hid h0; have HW := Lib.hid hW; have Hc := Lib.hid hc; have Ht := Lib.hid hT
  clear hY hJb hJxb hMb hMl h0 hW hc hT hTW
  gi_wp2_with (first
    | (refine ⟨trivial, ?_⟩; gi_at_call 71; refine (callsIn_wide.2 (maps_Keys _ _)).mono ?_; rintro e w' ⟨rfl, rfl⟩)
    | (refine ⟨trivial, ?_⟩; gi_at_call 70; refine (callsIn_wide.2 (HS.out trivial)).mono ?_; rintro e w1 ⟨v, ss, rfl, hperm, hrow, hb⟩; obtain ⟨hlen, hks⟩ := keys_T hperm; rw [hlen, hks] at hrow; obtain ⟨A, c, rfl, hsl⟩ := own_sl hrow; have HR := Lib.hid hrow; have HSL := Lib.hid hsl; have HB := Lib.hid (((Below.refl W.heap.size W).alloc (Nat.le_refl _) (.cells #[.map (some tb)] 78)).trans (hb.mono (Nat.le_succ _))); clear hperm hrow hb hlen hks hsl))
  have HC1 := Lib.hid (HC.out.below HB.out HC.out.lt)
  have HT1 := Lib.hid (HT.out.later HB.out)
  have HJ1 := HJb.out _ _ _ H0.out HB.out
  have hold : ∀ k, (k = cap ∨ k = bt ∨ k = tb) → ¬ M w1 k := fun k hk hm => (HMl.out _ _ HJ1 k hm).1 hk
  have hnew : ∀ ad, A = some ad → ¬ M w1 ad.block := fun ad he hm => by
    have h1 := (HMl.out _ _ H0.out _ (HMb.out _ _ _ H0.out HB.out _ hm)).2
    have h2 := row_base HR.out ad he
    omega
  have HOLD := Lib.hid hold; have HNEW := Lib.hid hnew
  clear HJ1 hold hnew x0 x2
  have HFr0 := Lib.hid (show Fr M w1 w1 from Fr.refl _ _)
  have HJ0 := Lib.hid (HJb.out _ _ _ H0.out HB.out)
  gi_loopw [12] (fun v12 wr => ∃ i : Nat, v12 = .int .i64 (i : Int) ∧ i ≤ L.length ∧ Hid (Fr M w1 wr) ∧ Hid (J (liveK (L.take i)) wr)) (fun v12 _ => L.length - (ixOf v12).toNat)
  case atStart => exact ⟨0, rfl, Nat.zero_le _, HFr0, HJ0⟩
  case round =>
    obtain ⟨i, rfl, hi, HF, HJ⟩ := hrel
    have x0 := (HF.out.blk HC1.out (HOLD.out _ (.inl rfl))).cell 0
    have x2 := (HF.out.blk HT1.out.1 (HOLD.out _ (.inr (.inl rfl)))).cell 2
    by_cases hlt : i < L.length
    · have hli : (i : Int) < (L.length : Int) := by omega
      obtain ⟨ad, hA, _, hcell⟩ := (HF.out.sl HSL.out HNEW.out) i (encZ ((i : Int) + 1)) (by simp [hlt])
      subst hA
      obtain ⟨v, ps, hrun, hv⟩ := (HF.out.own HT1.out.2.1 (HOLD.out _ (.inr (.inr rfl)))).lookup (t := 78) keyed_int Tryz.underlying78 (z := entV 0) (Tryz.zeroValue97 _) (zd := .held (entV 0)) (zp := []) rfl (key_int ((i : Int) + 1) (by have := Ht.out.2.2.1; exact WalkArith.wf_i64 (by omega)))
      obtain rfl := look_T hv
      rw [atL_nat hlt] at hrun
      obtain ⟨c, hc⟩ : ∃ c, L[i].1 = c := ⟨_, rfl⟩
      have hrun2 : (Instr.lookup 78 (.map (some tb)) (.int .i64 ((i : Int) + 1)) false).run Tryz.prog wr = .ok (.agg #[.int .i64 c]) wr := by rw [← hc]; exact hrun
      have hw1 : IntKind.i64.wrap ((i : Int) + 1) = ((i + 1 : Nat) : Int) := by have := Ht.out.2.2.1; rw [IntKind.wrap_i64]; omega
      have hi0 : ¬ (i : Int) < 0 := by omega
      have hfd : ∀ W : World, (Instr.field 97 (.agg #[.int .i64 c]) 0).run Tryz.prog W = .ok (.int .i64 c) W := fun _ => by kernel_rfl
      have HLT := Lib.hid hlt
      clear hv hrun
      by_cases hc0 : c = 0
      · have hcb : (c == 0) = true := beq_iff_eq.2 hc0
        have hw2 : liveK (L.take i) ++ [(i : Int) + 1] <+: liveK L := by rw [← liveK_take_some hlt (by rw [hc]; exact hc0)]; exact liveK_take_pre L (i + 1)
        have HN := Lib.hid (liveK_take_some hlt (by rw [hc]; exact hc0))
        obtain ⟨fn, tmps, assign, body, hy, hR⟩ := HY.out _ ((i : Int) + 1) wr HJ.out hw2
        have HRR := Lib.hid hR
        have HW2 := Lib.hid hw2
        clear hR hc hc0 hlt hw2
        gi_wp2
        refine HRR.out.mono ?_
        rintro e W3 (⟨rfl, hJ3, hF3⟩ | ⟨rfl, hJx3⟩)
        · have HF3 := Lib.hid (HF.out.trans hF3)
          have HJ3 := Lib.hid (show J (liveK (L.take (i + 1))) W3 by rw [HN.out]; exact hJ3)
          clear hJ3 hF3
          gi_wp2
          refine ⟨⟨i + 1, by simp, by have := HLT.out; omega, HF3, HJ3⟩, ?_⟩
          have := HLT.out
          show L.length - ((i : Int) + 1).toNat < L.length - (i : Int).toNat
          omega
        · gi_wp2
          refine bodyPost_ret (results_none rfl _ _ _) rfl ?_
          exact ⟨⟨_, rfl⟩, .inr ⟨_, HW2.out, hJx3⟩⟩
      · have hcb : (c == 0) = false := beq_eq_false_iff_ne.2 hc0
        have HN := Lib.hid (liveK_take_none hlt (by rw [hc]; exact hc0))
        clear hc hc0 hlt
        gi_wp2
        refine ⟨fun _ h => (by cases h), ?_⟩
        gi_wp2
        refine ⟨⟨i + 1, by simp, by have := HLT.out; omega, HF, ?_⟩, ?_⟩
        · exact Lib.hid (by rw [HN.out]; exact HJ.out)
        · have := HLT.out
          show L.length - ((i : Int) + 1).toNat < L.length - (i : Int).toNat
          omega
    · have hli : ¬ (i : Int) < (L.length : Int) := by omega
      have HE := Lib.hid (show i = L.length by omega)
      gi_wp2
      go_end0
      exact ⟨⟨_, rfl⟩, .inl (by have h1 := HJ.out; rwa [HE.out, List.take_length] at h1)⟩
theorem table_live (p : Option Addr) (w : World) : Calls Tryz.prog 61 #[.pointer p] w fun e w' => e = .returned (.func (.func 69) #[] #[.pointer (some ⟨w.heap.size, 0, none⟩)]) ∧ w' = w.alloc (.cells #[.pointer p] 51) := by
  go_enter Tryz.func61, Tryz.ntmps61
  go_wp2
  go_ret
  exact ⟨rfl, rfl⟩
theorem numK_len (L : List Ent) : (liveK L).length ≤ L.length := by
  unfold liveK
  suffices ∀ s, (numK gL s L).length ≤ L.length from this 0
  induction L with
  | nil => intro s; simp [numK]
  | cons x L ih =>
    intro s
    rw [numK, List.length_append, List.length_cons]
    have := ih (s + 1)
    split <;> simp <;> omega
/-- between two rounds: the row so far, its variable. -/
def LvI (w : World) (pre : List Int) (W : World) : Prop :=
  ∃ v, Blk W w.heap.size 40 #[v] ∧ W.ownsRow (w.heap.size + 2) 3 1 v pre.length (pre.map encZ) ∧ Below w.heap.size w W ∧ w.heap.size + 2 ≤ W.heap.size
def LvM (w W : World) (i : Nat) : Prop := i = w.heap.size ∨ ∃ v, Blk W w.heap.size 40 #[v] ∧ v.ownBlock = some i
theorem cells_kept {A B : World} {row : Option Nat} {g : Nat} {o : Obj} (hg : A.grownBy B row) (hr : ∀ r, row = some r → ∃ o : Obj, A.heap[r]? = some o ∧ o.isCells = false) (h : A.heap[g]? = some o) (ho : o.isCells = true) : B.heap[g]? = some o := by
  refine (hg.block g (Array.getElem?_eq_some_iff.1 h).1 (fun e => ?_)).trans h
  obtain ⟨o', h1, h2⟩ := hr g e.symm
  rw [h] at h1; cases h1; rw [ho] at h2; cases h2
theorem blk_kept {A B : World} {row : Option Nat} {g : Nat} {t : TypeId} {cs : Array Value} (hg : A.grownBy B row) (hr : ∀ r, row = some r → ∃ o : Obj, A.heap[r]? = some o ∧ o.isCells = false) (h : Blk A g t cs) : Blk B g t cs :=
  cells_kept hg hr h rfl
theorem row_kept {A B : World} {row : Option Nat} {base e size n : Nat} {v : Value} {xs : List Value} (hg : A.grownBy B row) (hr : ∀ r, row = some r → ∃ o : Obj, A.heap[r]? = some o ∧ o.isCells = false) (h : A.ownsRow base e size v n xs) : B.ownsRow base e size v n xs := by
  refine ⟨h.1, ?_⟩
  rcases h.2 with h2 | ⟨g, cap, cur, rfl, hbg, hh, h3⟩
  · exact .inl h2
  · exact .inr ⟨g, cap, cur, rfl, hbg, cells_kept hg hr hh rfl, h3⟩
theorem own_mono {w : World} {base base' e size n : Nat} {v : Value} {xs : List Value} (h : w.ownsRow base' e size v n xs) (hle : base ≤ base') : w.ownsRow base e size v n xs := by
  refine ⟨h.1, ?_⟩
  rcases h.2 with h2 | ⟨g, cap, cur, rfl, hbg, h3⟩
  · exact .inl h2
  · exact .inr ⟨g, cap, cur, rfl, Nat.le_trans hle hbg, h3⟩
theorem row_put {W : World} {D base e size n : Nat} {v : Value} {xs : List Value} {o : Obj} (h : W.ownsRow base e size v n xs) (hD : W.heap[D]? = some (.deferred (some []))) : (W.putObj D o).ownsRow base e size v n xs := by
  refine ⟨h.1, ?_⟩
  rcases h.2 with h2 | ⟨g, cap, cur, rfl, hbg, hh, h3⟩
  · exact .inl h2
  · exact .inr ⟨g, cap, cur, rfl, hbg, (World.putObj_heap_other (fun e => by subst e; rw [hh] at hD; cases hD)).trans hh, h3⟩
theorem lvI_own (w : World) (B : Nat) (hB : w.heap.size ≤ B) : OwnFrom B (LvI w) := by
  intro pre A W row ⟨v, h1, h2, h3, h4⟩ hg hr
  have hr' : ∀ r, row = some r → ∃ o : Obj, A.heap[r]? = some o ∧ o.isCells = false := fun r e => (hr r e).2
  exact ⟨v, blk_kept hg hr' h1, row_kept hg hr' h2, h3.grown hg h3.size (fun k e => Nat.le_trans hB (hr k e).1), Nat.le_trans h4 hg.size⟩
theorem lv_same {w : World} {pre : List Int} {A B : World} {row : Option Nat} (hI : LvI w pre A) (hg : A.grownBy B row) (hr : ∀ r, row = some r → ∃ o : Obj, A.heap[r]? = some o ∧ o.isCells = false) : ∀ i, LvM w B i → LvM w A i := by
  obtain ⟨v, h1, _⟩ := hI
  rintro i (rfl | ⟨v', h2, h3⟩)
  · exact .inl rfl
  · refine .inr ⟨v, h1, ?_⟩
    have h4 := blk_kept hg hr h1
    unfold Blk at h2 h4
    rw [h4] at h2
    cases h2
    exact h3
theorem lv_out {w : World} {pre : List Int} {A : World} (hI : LvI w pre A) : ∀ i, LvM w A i → (i = w.heap.size ∨ w.heap.size + 2 ≤ i) ∧ i < A.heap.size := by
  intro i h
  obtain ⟨v, h1, h2, _⟩ := hI
  rcases h with rfl | ⟨v', h3, h4⟩
  · exact ⟨.inl rfl, h1.lt⟩
  · unfold Blk at h1 h3
    rw [h1] at h3
    cases h3
    have := h2.lt i h4
    exact ⟨.inr this.1, this.2⟩
theorem keeps_grown {A B : World} {base e size n n1 : Nat} {v : Value} {xs : List Value} (hown : A.ownsRow base e size v n xs) (hg : A.grownBy B v.ownBlock) : KeepsFrom n1 A B := by
  refine (KeepsOthers.of_grownBy hg fun j o hj ho => ?_).from n1
  rcases hown.2 with ⟨rfl, _⟩ | ⟨g, cap, cur, rfl, _, hh, _⟩
  · simp [Value.ownBlock] at hj
  · have hjg : j = g := by simpa [Value.ownBlock] using hj.symm
    subst hjg
    rw [hh] at ho; cases ho; rfl
theorem lv_round {w W w5 : World} {pre : List Int} {x : Int} {v v5 : Value} {B l : Nat} (h1 : Blk W w.heap.size 40 #[v]) (h2 : W.ownsRow (w.heap.size + 2) 3 1 v pre.length (pre.map encZ)) (h3 : Below w.heap.size w W) (h4 : w.heap.size + 2 ≤ W.heap.size)
    (ho : w5.ownsRow (w.heap.size + 2) 3 1 v5 (pre.length + 1) (pre.map encZ ++ [encZ x])) (hg : (W.alloc (.cells #[encZ x] 3)).grownBy w5 v.ownBlock)
    (hor : v5.ownBlock = v.ownBlock ∨ v5.ownBlock = some (W.alloc (.cells #[encZ x] 3)).heap.size) :
    KeepsFrom B W (w5.setCell ⟨w.heap.size, 0, none⟩ v5) ∧ Fr (fun A i => i = l ∨ LvM w A i) W (w5.setCell ⟨w.heap.size, 0, none⟩ v5) ∧ LvI w (pre ++ [x]) (w5.setCell ⟨w.heap.size, 0, none⟩ v5) := by
  have hne : v.ownBlock ≠ some w.heap.size := own_blk_ne h2 h1 (by decide)
  have hs5 : Blk w5 w.heap.size 40 #[v] := (h1.alloc _).grown hg hne
  have hne5 : v5.ownBlock ≠ some w.heap.size := own_blk_ne ho hs5 (by decide)
  have hsz : W.heap.size + 1 ≤ w5.heap.size := by have := hg.size; rwa [World.size_alloc] at this
  have hS := hs5.set_ 0 v5
  refine ⟨?_, ⟨?_, ?_, ?_⟩, v5, hS, ?_, ?_, ?_⟩
  · exact ((KeepsOthers.alloc W _).from B).trans ((keeps_grown (h2.alloc _) hg).trans ((KeepsOthers.setCell w5 _ _).from B))
  · rw [World.size_setCell]; omega
  · intro i hi hm
    have h4 : i ≠ w.heap.size := fun e => hm (.inr (.inl e))
    have h5 : some i ≠ v.ownBlock := fun e => hm (.inr (.inr ⟨v, h1, e.symm⟩))
    rw [Below.heap_setCell _ _ _ _ h4, hg.block i (by rw [World.size_alloc]; omega) h5, Below.heap_alloc _ _ _ hi]
  · rintro i (hm | hm | ⟨v', hv', hb⟩) hi
    · exact .inl hm
    · exact .inr (.inl hm)
    · have hv2 : v' = v5 := by
        unfold Blk at hv' hS
        rw [hS] at hv'
        cases hv'; rfl
      subst hv2
      rcases hor with h | h
      · exact .inr (.inr ⟨v, h1, by rw [← h]; exact hb⟩)
      · rw [h, World.size_alloc] at hb
        cases hb
        omega
  · rw [List.length_append, List.map_append]
    exact own_set ho _ _ hne5
  · exact (below_app (h3.alloc h3.size _) (h2.alloc _) hg (by rw [World.size_alloc]; have := h3.size; omega) (by omega)).setCell (Nat.le_refl _) _
  · rw [World.size_setCell]; omega
set_option maxRecDepth 100000 in
set_option maxHeartbeats 2000000 in
theorem table_Live (w : World) (bt tb : Nat) (most : Int) (L : List Ent) (hT : TabAt w bt tb most L) :
    Calls Tryz.prog 42 #[.pointer (some ⟨bt, 0, none⟩)] w fun e w' => ∃ v, e = .returned v ∧ w'.ownsRow w.heap.size 3 1 v (liveK L).length ((liveK L).map encZ) ∧ Below w.heap.size w w' := by
  refine (callsIn_wide (n := 5)).1 ?_
  refine callsIn_of_wp_marks Tryz.func42 rfl trivial ?_ rfl
  simp only [Tryz.ntmps42, List.size_toArray, List.length_cons, List.length_nil, Nat.reduceAdd, Nat.reduceSub, Array.replicate_succ, Array.replicate_zero, List.push_toArray, List.append_toArray, List.nil_append, List.cons_append]
  refine wpIn_wide.2 ?_
  have HT := Lib.hid hT
  clear hT
  go_wp2_with (first
    | (go_at_call 60; refine (table_none _ _ _ _ _ HT.out).mono ?_; rintro e w' ⟨rfl, rfl⟩)
    | (go_at_call 61; refine (table_live _ _).mono ?_; rintro e w' ⟨rfl, rfl⟩))
  have hs0 : Blk ((w.alloc (.cells #[.slice none 0 0] 40)).alloc (.cells #[.pointer (some ⟨bt, 0, none⟩)] 51)) w.heap.size 40 #[.slice none 0 0] := (Blk.new w _ _).alloc _
  have hc0 : Blk ((w.alloc (.cells #[.slice none 0 0] 40)).alloc (.cells #[.pointer (some ⟨bt, 0, none⟩)] 51)) (w.heap.size + 1) 51 #[.pointer (some ⟨bt, 0, none⟩)] := (Blk.new _ _ _).at_eq (World.size_alloc w _)
  have hb0 : Below w.heap.size w ((w.alloc (.cells #[.slice none 0 0] 40)).alloc (.cells #[.pointer (some ⟨bt, 0, none⟩)] 51)) := ((Below.refl _ w).alloc (Nat.le_refl _) _).alloc (by simp) _
  have hsz0 : ((w.alloc (.cells #[.slice none 0 0] 40)).alloc (.cells #[.pointer (some ⟨bt, 0, none⟩)] 51)).heap.size = w.heap.size + 2 := by simp
  generalize ((w.alloc (.cells #[.slice none 0 0] 40)).alloc (.cells #[.pointer (some ⟨bt, 0, none⟩)] 51)) = W0 at hs0 hc0 hb0 hsz0 ⊢
  have HT0 := Lib.hid (HT.out.later hb0)
  have HBT := Lib.hid HT.out.1.lt
  have HTB := Lib.hid HT.out.2.1.lt
  have HLN := Lib.hid (Nat.le_trans (numK_len L) HT.out.2.2.1)
  have HS0 := Lib.hid hs0; have HC0 := Lib.hid hc0; have HB0 := Lib.hid hb0; have HZ0 := Lib.hid hsz0
  clear hs0 hc0 hb0 hsz0 HT
  refine (wpIn_wide (n := 5)).1 ?_
  refine wp_fresh (α := Int) (enc := fun x => #[encZ x]) (S := fun xs => xs = liveK L) (Sp := fun pre => pre <+: liveK L) (Rd := fun i => i = w.heap.size + 1 ∨ i = bt ∨ i = tb) rfl (by decide) (gf := 69)
    (lb := #[.pointer (some ⟨w.heap.size + 1, 0, none⟩)]) rfl trivial (enters_of Tryz.func69 (by kernel_rfl) rfl) (live_seq 4 (by decide) W0 (w.heap.size + 1) bt tb most L HC0.out HT0.out) (Below.refl _ _) (fun _ => rfl)
    (LvM w) (LvI w) (fun _ _ _ => False) (lvI_own w _ (by have := HZ0.out; omega)) (fun c => by intro _ _ _ _ h; exact h.elim) (fun pre A B row hI hg hr => lv_same hI hg hr)
    (fun pre A hI i hm => by have h1 := lv_out hI i hm; have h2 := HBT.out; have h3 := HTB.out; exact ⟨by omega, h1.2⟩) (fun i hi => by have h1 := HZ0.out; have h2 := HBT.out; have h3 := HTB.out; omega) ?start
    (fun x => { tmps := #[.pointer (some ⟨bt, 0, none⟩), undef, .slice none 0 0, .pointer (some ⟨w.heap.size, 0, none⟩), encZ x, .pointer (some ⟨bt, 0, none⟩), .bool false, .pointer (some ⟨bt, 0, none⟩), .func (.func 69) #[] #[.pointer (some ⟨w.heap.size + 1, 0, none⟩)], encZ x, undef, undef, undef, undef, undef], defers := [] }) ?assign ?body ?done ?stop
  case start => exact ⟨_, HS0.out, World.ownsRow_nil _ _ _ _, HB0.out, Nat.le_of_eq HZ0.out.symm⟩
  case assign =>
    intro l x W K hK
    gi_wp2
    exact hK
  case stop => exact fun D c pre W _ _ h => h.elim
  case done =>
    rintro D xs W hD rfl ⟨v, h1, h2, h3, h4⟩ hK
    have s0 := h1.cell 0
    have HK := Lib.hid hK; have H2 := Lib.hid h2; have H3 := Lib.hid h3
    clear h1 h2 h3 hK
    go_wp2_with fail
    have hDs : w.heap.size + 2 ≤ D := by have := HZ0.out; omega
    refine ret_mark HK.out (by simp [results, Tryz.results42, go_sem]; rfl) ?_
    exact ⟨_, rfl, row_put (own_mono H2.out (by omega)) HK.out, H3.out.trans (put_below (by omega))⟩
  case body =>
    rintro l pre x W hl ⟨v, h1, h2, h3, h4⟩ hsp
    have s0 := h1.cell 0
    have f0 := h1.frozen 0
    have hlen := hsp.length_le
    rw [List.length_append, List.length_singleton] at hlen
    have hln := HLN.out
    have H1 := Lib.hid h1; have H2 := Lib.hid h2; have H3 := Lib.hid h3
    have HZ := Lib.hid h4
    clear h1 h2 h3 h4 hsp
    gi_wp2_with (gi_at_builtin; refine wpListIn_app etInt rfl rfl rfl (H2.out.alloc (.cells #[encZ x] 3)) rfl (m := 1) (news := [encZ x]) rfl ((Blk.new W 3 #[encZ x]).sl 0) (by intro u hu; simp at hu; subst hu; rfl) (by omega) (by rw [World.size_alloc]; have := HZ.out; omega) ?_; intro v5 w5 ho5 hg5 hor5; obtain ⟨A5, e5, rfl, _⟩ := own_sl ho5; have hS5 := ((H1.out.alloc (.cells #[encZ x] 3)).grown hg5 (own_blk_ne H2.out H1.out (by decide))); have f5 := hS5.frozen 0; have c5 := hS5.cell 0; have HR := Lib.hid (lv_round (B := W0.heap.size) (l := l) H1.out H2.out H3.out HZ.out ho5 hg5 hor5); clear hS5 ho5 hg5 hor5)
    exact HR.out
end Go.Proofs.YtklelheejopfmaaGreat
namespace Go.Proofs.YtklelheejopfmaaGreat
open Go Go.RowKit Go.Maps
attribute [local go_sem] Oper.semAt_some
set_option maxRecDepth 100000 in
theorem table_Room (w : World) (bt tb : Nat) (most : Int) (L : List Ent) (hT : TabAt w bt tb most L) :
    Calls Tryz.prog 63 #[.pointer (some ⟨bt, 0, none⟩)] w fun e w' => e = .returned (.int .i64 (most - (liveK L).length)) ∧ Below w.heap.size w w' := by
  have HT := Lib.hid hT
  have hl := numK_len L
  have h1 := hT.2.2.1
  have h2 := hT.2.2.2
  have hw : IntKind.i64.wrap (most - ((liveK L).length : Int)) = most - ((liveK L).length : Int) := by rw [IntKind.wrap_i64]; omega
  clear hT hl h1 h2
  go_enter Tryz.func63, Tryz.ntmps63
  go_wp2_with (go_at_call 60; refine (table_none _ _ _ _ _ HT.out).mono ?_; rintro e w' ⟨rfl, rfl⟩)
  refine wp_region_plan2 (fun W => TabAt W bt tb most L ∧ Below w.heap.size w W) 7 [(0, true), (1, true), (2, true), (3, true), (4, true), (5, false), (6, true)] (by kernel_rfl) (by kernel_rfl) (fun _ _ d _ _ h => by cases d <;> exact h) (by decide) (by simp only [List.map_cons, List.map_nil, Array.getD_eq_getD_getElem?, List.getElem?_toArray, List.getElem?_cons_zero, List.getElem?_cons_succ, Option.getD_some]; rfl) (by simp only [List.map_cons, List.map_nil]; rfl) (⟨HT.out.later (Below.refl _ _).drew, (Below.refl _ _).drew⟩) (fun PE hPE => ?_)
  refine plan_take (v := ?_) rfl (by rfl) ?_ ?_
  rotate_left
  · intro _ hSw; (try dsimp only at hSw); have c0 := hSw.1.1.cell 0; go_simp; (try with_reducible rfl)
  simp only [List.setIfInBounds_toArray, List.set_cons_zero, List.set_cons_succ]
  refine plan_take (v := ?_) rfl (by rfl) ?_ ?_
  rotate_left
  · intro _ hSw; (try dsimp only at hSw); have c0 := hSw.1.1.cell 0; go_simp; (try with_reducible rfl)
  simp only [List.setIfInBounds_toArray, List.set_cons_zero, List.set_cons_succ]
  refine plan_take (v := ?_) rfl (by rfl) ?_ ?_
  rotate_left
  · intro _ hSw; (try dsimp only at hSw); have c0 := hSw.1.1.cell 0; go_simp; (try with_reducible rfl)
  simp only [List.setIfInBounds_toArray, List.set_cons_zero, List.set_cons_succ]
  refine plan_take (v := ?_) rfl (by rfl) ?_ ?_
  rotate_left
  · intro _ hSw; (try dsimp only at hSw); have c0 := hSw.1.1.cell 0; go_simp; (try with_reducible rfl)
  simp only [List.setIfInBounds_toArray, List.set_cons_zero, List.set_cons_succ]
  refine plan_take (v := ?_) rfl (by rfl) ?_ ?_
  rotate_left
  · intro _ hSw; (try dsimp only at hSw); have c0 := hSw.1.1.cell 0; go_simp; (try with_reducible rfl)
  simp only [List.setIfInBounds_toArray, List.set_cons_zero, List.set_cons_succ]
  refine plan_call rfl (by rfl) (by first | (go_simp; done) | (go_simp; rfl)) (table_Live _ bt tb most L (HT.out.later (Below.refl _ _).drew)) ?_
  rintro e w4 ⟨v, rfl, ho, hb⟩
  obtain ⟨A, c, rfl, _⟩ := own_sl ho
  have hb2 := below_undrew hb
  refine ⟨_, rfl, ⟨HT.out.later hb2, hb2⟩, ?_⟩
  have HB := Lib.hid hb2
  clear ho hb hb2
  simp only [List.setIfInBounds_toArray, List.set_cons_zero, List.set_cons_succ]
  refine plan_take (v := ?_) rfl (by rfl) ?_ ?_
  rotate_left
  · intro _ hSw; (try dsimp only at hSw); go_simp; (try with_reducible rfl)
  simp only [List.setIfInBounds_toArray, List.set_cons_zero, List.set_cons_succ]
  (refine hPE _ _ ?_; simp only [List.drop_succ_cons, List.drop_zero]; clear hPE PE)
  go_wp2
  go_ret
  exact ⟨rfl, HB.out⟩
set_option maxRecDepth 100000 in
theorem table_Open_full (w : World) (bt tb : Nat) (most : Int) (L : List Ent) (hT : TabAt w bt tb most L) (hf : most - (liveK L).length = 0 ∨ L.length = 2147483647) :
    Calls Tryz.prog 49 #[.pointer (some ⟨bt, 0, none⟩)] w fun e w' => e = .returned (.tuple #[.int .i64 0, .int .i64 15]) ∧ Below w.heap.size w w' := by
  have HT := Lib.hid hT
  obtain ⟨r, hr⟩ : ∃ r, most - ((liveK L).length : Int) = r := ⟨_, rfl⟩
  have CR := Lib.hid (table_Room w bt tb most L hT)
  rw [hr] at CR hf
  by_cases h0 : r = 0
  · have hb : (r == 0) = true := beq_iff_eq.2 h0
    clear hT hf hr h0
    go_enter Tryz.func49, Tryz.ntmps49
    go_wp2_with (first
      | (go_at_call 60; refine (table_none _ _ _ _ _ HT.out).mono ?_; rintro e w' ⟨rfl, rfl⟩)
      | (go_at_call 63; refine CR.out.mono ?_; rintro e w1 ⟨rfl, hb1⟩; have HB := Lib.hid hb1; clear hb1))
    go_returns
    exact ⟨rfl, HB.out⟩
  · have hb : (r == 0) = false := beq_eq_false_iff_ne.2 h0
    have hl : L.length = 2147483647 := hf.resolve_left h0
    have hl2 : ((L.length : Int) == 2147483647) = true := by rw [beq_iff_eq]; omega
    clear hT hf hr h0 hl
    go_enter Tryz.func49, Tryz.ntmps49
    go_wp2_with (first
      | (go_at_call 60; refine (table_none _ _ _ _ _ HT.out).mono ?_; rintro e w' ⟨rfl, rfl⟩)
      | (go_at_call 63; refine CR.out.mono ?_; rintro e w1 ⟨rfl, hb1⟩; have HB := Lib.hid hb1; have x1 := (HT.out.later hb1).1.cell 1; clear hb1))
    go_returns
    exact ⟨rfl, HB.out⟩
theorem put_T (L : List Ent) (k : Kn) : (numD gT L).put (.int .i64 ((L.length : Int) + 1)) (.held (entV 0)) = numD gT (L ++ [(0, k)]) := numD_add L (0, k) (entV 0) rfl
set_option maxRecDepth 100000 in
theorem table_Open_ok (w : World) (bt tb : Nat) (most : Int) (L : List Ent) (hT : TabAt w bt tb most L) (hf : most - (liveK L).length ≠ 0) (hl : L.length ≠ 2147483647) (k : Kn) :
    Calls Tryz.prog 49 #[.pointer (some ⟨bt, 0, none⟩)] w fun e w' => e = .returned (.tuple #[.int .i64 ((L.length : Int) + 1), .int .i64 0]) ∧ TabAt w' bt tb most (L ++ [(0, k)]) ∧ Only [bt, tb] w w' := by
  have HT := Lib.hid hT
  obtain ⟨r, hr⟩ : ∃ r, most - ((liveK L).length : Int) = r := ⟨_, rfl⟩
  have CR := Lib.hid (table_Room w bt tb most L hT)
  rw [hr] at CR hf
  have hb : (r == 0) = false := beq_eq_false_iff_ne.2 hf
  have hl2 : ((L.length : Int) == 2147483647) = false := by rw [beq_eq_false_iff_ne]; omega
  have hw : IntKind.i64.wrap ((L.length : Int) + 1) = (L.length : Int) + 1 := by have := hT.2.2.1; rw [IntKind.wrap_i64]; omega
  have HK := Lib.hid (key_int ((L.length : Int) + 1) (by have := hT.2.2.1; exact WalkArith.wf_i64 (by omega)))
  have HL := Lib.hid (show L.length + 1 ≤ 2147483647 by have := hT.2.2.1; omega)
  have HP := Lib.hid (put_T L k)
  clear hT hf hr hl
  go_enter Tryz.func49, Tryz.ntmps49
  go_wp2_with (first
    | (go_at_call 60; refine (table_none _ _ _ _ _ HT.out).mono ?_; rintro e w' ⟨rfl, rfl⟩)
    | (go_at_call 63; refine CR.out.mono ?_; rintro e w1 ⟨rfl, hb1⟩; have HB := Lib.hid hb1; have HT1 := Lib.hid (HT.out.later hb1); have x1 := HT1.out.1.cell 1; have f1 := HT1.out.1.frozen 1; have HS := Lib.hid (show Blk (w1.setCell ⟨bt, 1, none⟩ (.int .i64 ((L.length : Int) + 1))) bt 80 #[.int .i64 most, .int .i64 ((L.length : Int) + 1), .map (some tb)] ∧ (w1.setCell ⟨bt, 1, none⟩ (.int .i64 ((L.length : Int) + 1))).ownsMap Tryz.prog 3 heldR tb L.length (numD gT L) ∧ Only [bt, tb] w (w1.setCell ⟨bt, 1, none⟩ (.int .i64 ((L.length : Int) + 1))) from ⟨HT1.out.1.set_ 1 _, HT1.out.2.1.setCell (own_ne_blk HT1.out.2.1 HT1.out.1) _, (Only.of_below hb1).set (.inl (by simp)) _⟩); clear hb1))
  refine wp_region_plan2 (fun W => Blk W bt 80 #[.int .i64 most, .int .i64 ((L.length : Int) + 1), .map (some tb)] ∧ W.ownsMap Tryz.prog 3 heldR tb L.length (numD gT L) ∧ Only [bt, tb] w W) 9 [(0, true), (1, true), (2, true), (3, true), (4, true), (5, true), (6, true), (7, true), (8, true)] (by kernel_rfl) (by kernel_rfl) (fun _ _ d _ _ h => by cases d <;> exact h) (by decide) (by simp only [List.map_cons, List.map_nil, Array.getD_eq_getD_getElem?, List.getElem?_toArray, List.getElem?_cons_zero, List.getElem?_cons_succ, Option.getD_some]; rfl) (by simp only [List.map_cons, List.map_nil]; rfl) (⟨HS.out.1, HS.out.2.1, HS.out.2.2.trans (Only.of_below (Below.refl _ _).drew)⟩) (fun PE hPE => ?_)
  refine plan_take (v := ?_) rfl (by rfl) ?_ ?_
  rotate_left
  · intro _ hSw; (try dsimp only at hSw); have c1 := hSw.1.cell 1; have c2 := hSw.1.cell 2; go_simp; (try with_reducible rfl)
  simp only [List.setIfInBounds_toArray, List.set_cons_zero, List.set_cons_succ]
  refine plan_take (v := ?_) rfl (by rfl) ?_ ?_
  rotate_left
  · intro _ hSw; (try dsimp only at hSw); have c1 := hSw.1.cell 1; have c2 := hSw.1.cell 2; go_simp; (try with_reducible rfl)
  simp only [List.setIfInBounds_toArray, List.set_cons_zero, List.set_cons_succ]
  refine plan_take (v := ?_) rfl (by rfl) ?_ ?_
  rotate_left
  · intro _ hSw; (try dsimp only at hSw); have c1 := hSw.1.cell 1; have c2 := hSw.1.cell 2; go_simp; (try with_reducible rfl)
  simp only [List.setIfInBounds_toArray, List.set_cons_zero, List.set_cons_succ]
  refine plan_take (v := ?_) rfl (by rfl) ?_ ?_
  rotate_left
  · intro _ hSw; (try dsimp only at hSw); have c1 := hSw.1.cell 1; have c2 := hSw.1.cell 2; go_simp; (try with_reducible rfl)
  simp only [List.setIfInBounds_toArray, List.set_cons_zero, List.set_cons_succ]
  refine plan_take (v := ?_) rfl (by rfl) ?_ ?_
  rotate_left
  · intro _ hSw; (try dsimp only at hSw); have c1 := hSw.1.cell 1; have c2 := hSw.1.cell 2; go_simp; (try with_reducible rfl)
  simp only [List.setIfInBounds_toArray, List.set_cons_zero, List.set_cons_succ]
  refine plan_take (v := ?_) rfl (by rfl) ?_ ?_
  rotate_left
  · intro _ hSw; (try dsimp only at hSw); have c1 := hSw.1.cell 1; have c2 := hSw.1.cell 2; go_simp; (try with_reducible rfl)
  simp only [List.setIfInBounds_toArray, List.set_cons_zero, List.set_cons_succ]
  refine plan_take (v := ?_) rfl (by rfl) ?_ ?_
  rotate_left
  · intro _ hSw; (try dsimp only at hSw); have c1 := hSw.1.cell 1; have c2 := hSw.1.cell 2; go_simp; (try with_reducible rfl)
  simp only [List.setIfInBounds_toArray, List.set_cons_zero, List.set_cons_succ]
  refine plan_take (v := ?_) rfl (by rfl) ?_ ?_
  rotate_left
  · intro _ hSw; (try dsimp only at hSw); have c1 := hSw.1.cell 1; have c2 := hSw.1.cell 2; go_simp; (try with_reducible rfl)
  simp only [List.setIfInBounds_toArray, List.set_cons_zero, List.set_cons_succ]
  refine plan_take (v := ?_) rfl (by rfl) ?_ ?_
  rotate_left
  · intro _ hSw; (try dsimp only at hSw); have c1 := hSw.1.cell 1; have c2 := hSw.1.cell 2; go_simp; (try with_reducible rfl)
  simp only [List.setIfInBounds_toArray, List.set_cons_zero, List.set_cons_succ]
  (refine hPE _ _ ?_; simp only [List.drop_succ_cons, List.drop_zero]; clear hPE PE)
  have HS2 := Lib.hid (show Blk (w1.setCell ⟨bt, 1, none⟩ (.int .i64 ((L.length : Int) + 1))).drew bt 80 #[.int .i64 most, .int .i64 ((L.length : Int) + 1), .map (some tb)] ∧ (w1.setCell ⟨bt, 1, none⟩ (.int .i64 ((L.length : Int) + 1))).drew.ownsMap Tryz.prog 3 heldR tb L.length (numD gT L) ∧ Only [bt, tb] w (w1.setCell ⟨bt, 1, none⟩ (.int .i64 ((L.length : Int) + 1))).drew from ⟨HS.out.1, HS.out.2.1, HS.out.2.2.trans (Only.of_below (Below.refl _ _).drew)⟩)
  generalize (w1.setCell ⟨bt, 1, none⟩ (.int .i64 ((L.length : Int) + 1))).drew = W2 at HS2 ⊢
  go_wp2_with (at_mapUpdate; refine wpList_mapUpdate_in _ rfl _ _ _ 78 rfl 3 97 keyed_int Tryz.underlying78 heldR tb L.length _ rfl HS2.out.2.1 (by have := HL.out; unfold maxLen; omega) (.int .i64 ((L.length : Int) + 1)) (entV 0) (.int .i64 ((L.length : Int) + 1)) rfl rfl HK.out (.held (entV 0)) [] rfl ?_; intro w5 hown5 hturn5; rw [HP.out] at hown5; have hb5 := blk_turned HS2.out.1 hturn5; have x51 := hb5.cell 1; have HB5 := Lib.hid hb5; have HO5 := Lib.hid hown5; have HU5 := Lib.hid hturn5; clear hb5 hown5 hturn5)
  go_returns
  have hlen : (L ++ [(0, k)]).length = L.length + 1 := by simp
  exact ⟨rfl, ⟨by rw [hlen]; exact HB5.out, by rw [hlen]; exact HO5.out, by rw [hlen]; exact HL.out, HT1.out.2.2.2⟩, HS2.out.2.2.turned HU5.out (by simp)⟩
def endF (L : List Ent) (id c : Int) : Int × List Ent := if c = 0 then (2, L) else match atL L id with
  | none => (18, L)
  | some x => if x.1 = 0 then (0, L.set (id - 1).toNat (c, x.2)) else (19, L)
theorem set_T {L : List Ent} {id : Int} {x : Ent} (h : atL L id = some x) (y : Ent) : (numD gT L).put (.int .i64 id) (.held (entV y.1)) = numD gT (L.set (id - 1).toNat y) := by
  obtain ⟨h1, h2⟩ := atL_wf h
  have h3 := numD_set (g := gT) L (id - 1).toNat y (entV y.1) (by omega) rfl
  have e : (((id - 1).toNat : Nat) : Int) + 1 = id := by omega
  rwa [e] at h3
set_option maxRecDepth 100000 in
theorem table_End_no (w : World) (bt tb : Nat) (most : Int) (L : List Ent) (hT : TabAt w bt tb most L) (id c : Int) (hw : (Lit.int .i64 id).wf = true) (r : Int) (hr : r ≠ 0) (hE : endF L id c = (r, L)) :
    Calls Tryz.prog 62 #[.pointer (some ⟨bt, 0, none⟩), .int .i64 id, .int .i64 c] w fun e w' => e = .returned (.int .i64 r) ∧ Below w.heap.size w w' := by
  have HT := Lib.hid hT
  have HB0 := Lib.hid (Below.refl w.heap.size w)
  unfold endF at hE
  by_cases hc : c = 0
  · rw [if_pos hc] at hE
    have hr2 : r = 2 := (congrArg Prod.fst hE).symm
    subst hr2 hc
    clear hT hE hw
    go_enter Tryz.func62, Tryz.ntmps62
    go_wp2_with (go_at_call 60; refine (table_none _ _ _ _ _ HT.out).mono ?_; rintro e w' ⟨rfl, rfl⟩)
    go_returns
    exact ⟨rfl, HB0.out⟩
  rw [if_neg hc] at hE
  have hcb : (c == 0) = false := beq_eq_false_iff_ne.2 hc
  have CC := Lib.hid (table_Cause w bt tb most L hT id hw)
  unfold causeF at CC
  cases ha : atL L id with
  | none =>
    rw [ha] at hE CC
    dsimp only at hE CC
    have hr2 : r = 18 := (congrArg Prod.fst hE).symm
    subst hr2
    clear hT hE hw hc ha
    go_enter Tryz.func62, Tryz.ntmps62
    go_wp2_with (first
      | (go_at_call 60; refine (table_none _ _ _ _ _ HT.out).mono ?_; rintro e w' ⟨rfl, rfl⟩)
      | (go_at_call 40; refine CC.out.mono ?_; rintro e w1 ⟨rfl, hb1⟩; have HB1 := Lib.hid hb1; clear hb1))
    go_returns
    exact ⟨rfl, HB1.out⟩
  | some x =>
    rw [ha] at hE CC
    obtain ⟨d, k⟩ := x
    dsimp only at hE CC
    by_cases hd : d = 0
    · rw [if_pos hd] at hE
      exact absurd (congrArg Prod.fst hE).symm hr
    rw [if_neg hd] at hE
    have hr2 : r = 19 := (congrArg Prod.fst hE).symm
    subst hr2
    have hdb : (d != 0) = true := bne_iff_ne.2 hd
    clear hT hE hw hc ha hd
    go_enter Tryz.func62, Tryz.ntmps62
    go_wp2_with (first
      | (go_at_call 60; refine (table_none _ _ _ _ _ HT.out).mono ?_; rintro e w' ⟨rfl, rfl⟩)
      | (go_at_call 40; refine CC.out.mono ?_; rintro e w1 ⟨rfl, hb1⟩; have HB1 := Lib.hid hb1; clear hb1))
    go_returns
    exact ⟨rfl, HB1.out⟩
set_option maxRecDepth 100000 in
theorem table_End_ok (w : World) (bt tb : Nat) (most : Int) (L : List Ent) (hT : TabAt w bt tb most L) (id c : Int) (hw : (Lit.int .i64 id).wf = true) (hc : c ≠ 0) (k : Kn) (ha : atL L id = some (0, k)) :
    Calls Tryz.prog 62 #[.pointer (some ⟨bt, 0, none⟩), .int .i64 id, .int .i64 c] w fun e w' => e = .returned (.int .i64 0) ∧ TabAt w' bt tb most (L.set (id - 1).toNat (c, k)) ∧ Only [tb] w w' := by
  have HT := Lib.hid hT
  have hcb : (c == 0) = false := beq_eq_false_iff_ne.2 hc
  have CC := Lib.hid (table_Cause w bt tb most L hT id hw)
  unfold causeF at CC
  rw [ha] at CC
  dsimp only at CC
  have HK := Lib.hid (key_int id hw)
  have HP := Lib.hid (set_T ha (c, k))
  have HLT := Lib.hid (show (id - 1).toNat < L.length by have := atL_wf ha; omega)
  clear hT hw hc ha
  go_enter Tryz.func62, Tryz.ntmps62
  go_wp2_with (first
    | (go_at_call 60; refine (table_none _ _ _ _ _ HT.out).mono ?_; rintro e w' ⟨rfl, rfl⟩)
    | (go_at_call 40; refine CC.out.mono ?_; rintro e w1 ⟨rfl, hb1⟩; have HB1 := Lib.hid hb1; have HT1 := Lib.hid (HT.out.later hb1); have x2 := HT1.out.1.cell 2; clear hb1)
    | (at_mapUpdate; refine wpList_mapUpdate_in _ rfl _ _ _ 78 rfl 3 97 keyed_int Tryz.underlying78 heldR tb L.length _ rfl HT1.out.2.1 (by have := HT1.out.2.2.1; unfold maxLen; omega) (.int .i64 id) (entV c) (.int .i64 id) rfl rfl HK.out (.held (entV c)) [] rfl ?_; intro w5 hown5 hturn5; rw [HP.out] at hown5; have hb5 := blk_turned HT1.out.1 hturn5; have HB5 := Lib.hid hb5; have HO5 := Lib.hid (own_tight hown5); have HU5 := Lib.hid hturn5; clear hb5 hown5 hturn5))
  go_returns
  have hlen : (L.set (id - 1).toNat (c, k)).length = L.length := by simp
  have h1 := HO5.out
  rw [size_T] at h1
  exact ⟨rfl, ⟨by rw [hlen]; exact HB5.out, h1, by rw [hlen]; exact HT1.out.2.2.1, HT1.out.2.2.2⟩, (Only.of_below HB1.out).turned HU5.out (by simp)⟩
set_option maxRecDepth 100000 in
theorem table_New_ok (w : World) (most : Int) (h1 : 1 ≤ most) (h2 : most ≤ 64) :
    Calls Tryz.prog 17 #[.int .i64 most] w fun e w' => e = .returned (.tuple #[.pointer (some ⟨w.heap.size + 1, 0, none⟩), .int .i64 0]) ∧ TabAt w' (w.heap.size + 1) w.heap.size most [] ∧ Below w.heap.size w w' := by
  have h3 : ¬ most < 1 := by omega
  have h4 : ¬ 64 < most := by omega
  have HM := Lib.hid (And.intro h1 h2)
  have hmk : ∀ W : World, (Instr.makeMap 78 none).run Tryz.prog W = .ok (.map (some W.heap.size)) (W.alloc (.map #[] 0)) := fun W => run_makeMap _ W
  clear h1 h2
  go_enter Tryz.func17, Tryz.ntmps17
  go_wp2
  go_returns
  refine ⟨rfl, ⟨(Blk.new _ _ _).at_eq (by simp), ?_, by simp, HM.out⟩, ((Below.refl _ _).alloc (Nat.le_refl _) _).alloc (by simp) _⟩
  exact (World.ownsMap_made w Tryz.prog 3 heldR).alloc _
set_option maxRecDepth 100000 in
theorem table_New_no (w : World) (most : Int) (h : ¬ (1 ≤ most ∧ most ≤ 64)) :
    Calls Tryz.prog 17 #[.int .i64 most] w fun e w' => e = .returned (.tuple #[.pointer none, .int .i64 3]) ∧ w = w' := by
  by_cases h3 : most < 1
  · clear h
    go_enter Tryz.func17, Tryz.ntmps17
    go_wp2
    go_returns
    exact ⟨rfl, rfl⟩
  · have h4 : 64 < most := by omega
    clear h
    go_enter Tryz.func17, Tryz.ntmps17
    go_wp2
    go_returns
    exact ⟨rfl, rfl⟩
end Go.Proofs.YtklelheejopfmaaGreat
