/- Final, Heap -/
import Derived.Test.YtklelheejopfmaaGreatK01
import Derived.Test.YtklelheejopfmaaGreatRows
import Derived.ProofKit
import Derived.OpenShut
import Derived.Carry
import Derived.Deep.DeepHandedRow
import Derived.Lib.LaidTab
namespace Go.Proofs.YtklelheejopfmaaGreat
open Go Go.ChangeShapes Go.WideShapes Go.ChangeAt Go.RowKit
section
variable {H : Type} {enc : TypeId × Value → H} {P : Program}
theorem trodAll_stays (hl : laidOutB P = true) {W W' : World} (hb : Below W.heap.size W W') {sp : Nat → Bool} : ∀ {ts : List TypeId} {vs : List Value} {ds : List (DataW H)} {ps : List MemPlace},
    (∀ t ∈ ts, P.readableRec t = true ∧ t < P.types.size) → DataW.TrodAll enc P W 0 (fun _ => true) true ts vs ds ps → (∀ x ∈ ps, x.block < W.heap.size) → (∀ p ∈ ps, sp p.block = true) → DataW.TrodAll enc P W' 0 sp true ts vs ds ps
  | [], [], [], _, _, h, _, _ => h
  | [], _ :: _, _, _, _, h, _, _ => h.elim
  | [], [], _ :: _, _, _, h, _, _ => h.elim
  | _ :: _, [], _, _, _, h, _, _ => h.elim
  | _ :: _, _ :: _, [], _, _, h, _, _ => h.elim
  | t :: ts, v :: vs, d :: ds, ps, hr, h, hlt, hs => by
    obtain ⟨p, q, h1, h2, rfl⟩ := h
    refine ⟨p, q, ?_, ?_, rfl⟩
    · exact WideElems.Trod_stays hl (hr t (by simp)).1 (hr t (by simp)).2 h1 (fun x hx => hb.same (hlt x (by simp [hx]))) (fun x hx => hs x (by simp [hx]))
    · exact trodAll_stays hl hb (fun t ht => hr t (by simp [ht])) h2 (fun x hx => hlt x (by simp [hx])) (fun x hx => hs x (by simp [hx]))
theorem post_true {f : Func} {s : ChangeSpec} {W W' : World} {args : Array Value} {ds gs : List (DataW H)} {before : List MemPlace} {T : TypeId}
    (hvars : s.vars = []) (hres : f.resultTypes = #[T]) (hT : P.underlying T = some .bool) (hfn : s.fn H ds = { results := [.lit (.bool true)], args := ds }) (hl : laidOutB P = true)
    (hpar : ∀ t ∈ f.params.toList, P.readableRec t = true ∧ t < P.types.size) (hW : DataW.Whole enc P f.params.toList s.vars false W args.toList ds gs before) (hb : Below W.heap.size W W') :
    s.post enc P f false true false false W args (.bool true) W' := by
  have hlt : ∀ p ∈ before, p.block < W.heap.size := fun p hp => hW.lt p hp
  have hold : ∀ p ∈ before, (fun b => decide (b < W.heap.size)) p.block = true := fun p hp => by simpa using hlt p hp
  have hW0 := hW
  obtain ⟨p, q, hA, hV, hpq, hfz, hnd⟩ := hW0
  rw [hvars] at hV
  obtain ⟨rfl, rfl⟩ := trodVars_none hV
  rw [List.append_nil] at hpq
  subst hpq
  have hargs : ∀ sp : Nat → Bool, (∀ p ∈ before, sp p.block = true) → DataW.TrodAll enc P W' 0 sp true f.params.toList args.toList (s.fn H (ds ++ [])).args before := fun sp hsp => by
    rw [List.append_nil, hfn]
    exact trodAll_stays hl hb hpar hA hlt hsp
  have hress : ∀ (b : Nat) (sp : Nat → Bool) (hd : Bool), DataW.TrodAll enc P W' b sp hd f.resultTypes.toList ((Value.bool true).resultList f.resultTypes.size) (s.fn H (ds ++ [])).results [] := fun b sp hd => by
    rw [List.append_nil, hfn, hres]
    exact trodAll_cons_mk (shut_bool hT _) trodAll_mk0
  have hvs : ∀ sp : Nat → Bool, (∀ p ∈ before, sp p.block = true) → DataW.TrodVars enc P W' sp s.vars (s.fn H (ds ++ [])).vars [] := fun sp _ => by
    rw [List.append_nil, hfn, hvars]; rfl
  refine ⟨ds, [], before, [], before, [], hW, hress _ _ _, hargs _ hold, hvs _ hold, World.keptBut_mono (fun p hp => ⟨hp, ?_⟩) (hb.frame (· ∈ before)), fun _ => ?_⟩
  · exact .inr (by simpa using hp)
  · refine ⟨?_, _, _, ([] ++ before) ++ [], ⟨[] ++ before, [], trodAll_append (hargs _ (fun _ _ => rfl)) (hress _ _ _), hvs _ (fun _ _ => rfl), rfl, ?_, ?_⟩, ?_⟩
    · intro j t r hj hr
      rw [hres] at hj hr
      exact ok_one hres rfl (okWide_bool_mk hT _) j t r (by rw [hres]; exact hj) (by rw [hres]; exact hr)
    · intro b off hp
      have hin : MemPlace.cell b off ∈ before := by simpa using hp
      rw [hb.frozen (hlt _ hin)]
      exact hfz b off hin
    · intro ha
      simpa using hnd ha
    · intro p hp _
      simpa using hp
theorem open_bytes {W : World} {r : Reach} {b0 : Nat} {t e : TypeId} {v : Value} {d : DataW H} {ps : List MemPlace} (ht : P.underlying t = some (.slice e)) (he : P.underlying e = some (.int .u8)) (hc : P.cellsOf e = 1) (hval : Value.okWide P W r b0 t v)
    (h : DataW.Trod enc P W 0 (fun _ => true) true t v d ps) : ∃ (A : Option Addr) (n c : Nat) (l : List UInt8), v = .slice A n c ∧ Sl W A (l.map byteV) ∧ l.length = n ∧ n ≤ maxLen := by
  obtain ⟨a0, len, cap, rfl⟩ := okWide_slice ht hval
  obtain ⟨fuel, hf⟩ := h
  rcases open_ints ht he hc hf with ⟨hcs, hx⟩ | ⟨a, len', cap', zs, hcs, _, hl, hm, hz, hx, hcell, hwz⟩
  · simp [Value.cells] at hcs
    obtain ⟨rfl, rfl, rfl⟩ := hcs
    exact ⟨none, 0, 0, [], rfl, Sl.nil _ _, rfl, Nat.zero_le _⟩
  · simp [Value.cells] at hcs
    obtain ⟨rfl, rfl, rfl⟩ := hcs
    refine ⟨some a, len, cap, (zs.take len).map fun z => UInt8.ofNat z.toNat, rfl, ?_, ?_, by omega⟩
    · intro k u hk
      rw [List.getElem?_map, List.getElem?_map, Option.map_map] at hk
      obtain ⟨z, hz1, hz2⟩ := Option.map_eq_some_iff.1 hk
      rw [List.getElem?_take] at hz1
      split at hz1
      · have hkl : k < zs.length := (List.getElem?_eq_some_iff.1 hz1).1
        have hc1 := hcell k hkl
        have hzk : zs.getD k 0 = z := by simp [List.getD, hz1]
        rw [hzk] at hc1
        have hlt := World.block_lt_of_cell? W _ hc1
        rw [addr_add_block] at hlt
        refine ⟨a, rfl, hlt, ?_⟩
        rw [hc1, ← hz2]
        have hw := hwz z (List.mem_of_getElem? hz1)
        have hb : 0 ≤ z ∧ z < 256 := by
          simp [Lit.wf, IntKind.min, IntKind.max, IntKind.bits, IntKind.signed] at hw
          omega
        simp [byteV, Function.comp]
        omega
      · cases hz1
    · rw [List.length_map, List.length_take]
      have : len ≤ zs.length := by rw [hz]; split <;> omega
      omega
theorem int_wf {n : Int} (h : (Lit.int .i64 n).wf = true) : -9223372036854775808 ≤ n ∧ n ≤ 9223372036854775807 := by
  simp [Lit.wf, IntKind.min, IntKind.max, IntKind.bits, IntKind.signed] at h
  omega
theorem open_intsl {W : World} {r : Reach} {b0 : Nat} {t e : TypeId} {v : Value} {d : DataW H} {ps : List MemPlace} (ht : P.underlying t = some (.slice e)) (he : P.underlying e = some (.int .i64)) (hc : P.cellsOf e = 1) (hval : Value.okWide P W r b0 t v)
    (h : DataW.Trod enc P W 0 (fun _ => true) true t v d ps) : ∃ (A : Option Addr) (n c : Nat) (l : List Int), v = .slice A n c ∧ Sl W A (l.map intV) ∧ l.length = n ∧ n ≤ maxLen := by
  obtain ⟨a0, len, cap, rfl⟩ := okWide_slice ht hval
  obtain ⟨fuel, hf⟩ := h
  rcases open_ints ht he hc hf with ⟨hcs, hx⟩ | ⟨a, len', cap', zs, hcs, _, hl, hm, hz, hx, hcell, hwz⟩
  · simp [Value.cells] at hcs
    obtain ⟨rfl, rfl, rfl⟩ := hcs
    exact ⟨none, 0, 0, [], rfl, Sl.nil _ _, rfl, Nat.zero_le _⟩
  · simp [Value.cells] at hcs
    obtain ⟨rfl, rfl, rfl⟩ := hcs
    refine ⟨some a, len, cap, zs.take len, rfl, ?_, ?_, by omega⟩
    · intro k u hk
      rw [List.getElem?_map] at hk
      obtain ⟨z, hz1, hz2⟩ := Option.map_eq_some_iff.1 hk
      rw [List.getElem?_take] at hz1
      split at hz1
      · have hkl : k < zs.length := (List.getElem?_eq_some_iff.1 hz1).1
        have hc1 := hcell k hkl
        have hzk : zs.getD k 0 = z := by simp [List.getD, hz1]
        rw [hzk] at hc1
        have hlt := World.block_lt_of_cell? W _ hc1
        rw [addr_add_block] at hlt
        exact ⟨a, rfl, hlt, by rw [hc1, ← hz2]; rfl⟩
      · cases hz1
    · rw [List.length_take]
      have : len ≤ zs.length := by rw [hz]; split <;> omega
      omega
theorem tab_of_laid {W : World} {name : String} {k : IntKind} {zs : List Int} {rest : List (String × DataW Unit)} {ps : List MemPlace} {g : Nat} {t e : TypeId} {n : Nat}
    (hg : P.globalNamed name = some g) (hty : (P.globals[g]?).map (·.type) = some t) (ht : P.underlying t = some (.array n e)) (he : P.underlying e = some (.int k)) (hce : P.cellsOf e = 1) (hct : P.cellsOf t = n)
    (h : DataW.LaidVars P W ((name, Lib.tabData k zs) :: rest) ps) : Lib.TabIs P W name k zs := by
  obtain ⟨g', t', cs, fuel, p, q, hg', ht', hvar, hd, _, _⟩ := h
  obtain rfl := Option.some.inj (hg.symm.trans hg')
  obtain rfl := Option.some.inj (hty.symm.trans ht')
  unfold Lib.TabIs
  rw [hvar, ← Lib.cells_of_tab ht he hce hct hd]
theorem laid_tail {W : World} {x : String × DataW Unit} {rest : List (String × DataW Unit)} {ps : List MemPlace} (h : DataW.LaidVars P W (x :: rest) ps) : ∃ q, DataW.LaidVars P W rest q := by
  obtain ⟨n, d⟩ := x
  obtain ⟨_, _, _, _, _, q, _, _, _, _, hr, _⟩ := h
  exact ⟨q, hr⟩
end
end Go.Proofs.YtklelheejopfmaaGreat
namespace Go.Proofs.YtklelheejopfmaaGreat
/-- a holder: its number, its frames. -/
abbrev Hd := Int × Int
def ltH (a b : Hd) : Prop := b.2 < a.2 ∨ a.2 = b.2 ∧ a.1 < b.1
instance (a b : Hd) : Decidable (ltH a b) := by unfold ltH; infer_instance
theorem ltH_asym {a b : Hd} (h : ltH a b) : ¬ ltH b a := by unfold ltH at *; omega
theorem ltH_trans {a b c : Hd} (h : ltH a b) (k : ltH b c) : ltH a c := by unfold ltH at *; omega
theorem nlt_trans {a b c : Hd} (h : ¬ ltH a b) (k : ¬ ltH b c) : ¬ ltH a c := by unfold ltH at *; omega
theorem ltH_irr (a : Hd) : ¬ ltH a a := by unfold ltH; omega
theorem eq_of_nlt {a b : Hd} (h : ¬ ltH a b) (k : ¬ ltH b a) : a = b := by
  obtain ⟨a1, a2⟩ := a
  obtain ⟨b1, b2⟩ := b
  unfold ltH at h k
  dsimp only at h k
  have h1 : a1 = b1 := by omega
  have h2 : a2 = b2 := by omega
  rw [h1, h2]
def hx (xs : List Hd) (k : Nat) : Hd := xs.getD k (0, 0)
theorem hx_lt {xs : List Hd} {k : Nat} (h : k < xs.length) : hx xs k = xs[k] := by unfold hx; simp [h]
def swapH (xs : List Hd) (i j : Nat) : List Hd := (xs.set i (hx xs j)).set j (hx xs i)
theorem swapH_len (xs : List Hd) (i j : Nat) : (swapH xs i j).length = xs.length := by simp [swapH]
theorem swapH_perm {xs : List Hd} {i j : Nat} (hi : i < xs.length) (hj : j < xs.length) : (swapH xs i j).Perm xs := by
  unfold swapH
  rw [hx_lt hi, hx_lt hj]
  exact List.set_set_perm hi hj
theorem hx_set (xs : List Hd) (i k : Nat) (x : Hd) (hi : i < xs.length) : hx (xs.set i x) k = if k = i then x else hx xs k := by
  unfold hx
  by_cases h : k = i
  · subst h; simp [hi]
  · rw [if_neg h, List.getD_eq_getElem?_getD, List.getElem?_set_ne (Ne.symm h), ← List.getD_eq_getElem?_getD]
theorem hx_swap {xs : List Hd} {i j : Nat} (hi : i < xs.length) (hj : j < xs.length) (k : Nat) : hx (swapH xs i j) k = if k = j then hx xs i else if k = i then hx xs j else hx xs k := by
  unfold swapH
  rw [hx_set _ _ _ _ (by simpa using hj), hx_set _ _ _ _ hi]
def par (k : Nat) : Nat := (k - 1) / 2
def HeapOk (n : Nat) (xs : List Hd) : Prop := ∀ k, 0 < k → k < n → ¬ ltH (hx xs k) (hx xs (par k))
def UpInv (n : Nat) (xs : List Hd) (j : Nat) : Prop :=
  (∀ k, 0 < k → k < n → k ≠ j → ¬ ltH (hx xs k) (hx xs (par k))) ∧ (∀ k, 0 < k → k < n → par k = j → 0 < j → ¬ ltH (hx xs k) (hx xs (par j)))
theorem up_start {xs : List Hd} (h : HeapOk xs.length xs) (x : Hd) : UpInv (xs ++ [x]).length (xs ++ [x]) xs.length := by
  have e : ∀ k, k < xs.length → hx (xs ++ [x]) k = hx xs k := fun k hk => by
    unfold hx
    rw [List.getD_eq_getElem?_getD, List.getD_eq_getElem?_getD, List.getElem?_append_left hk]
  refine ⟨fun k h0 hk hne => ?_, fun k h0 hk hp _ => ?_⟩
  · simp at hk
    have hp : par k < xs.length := by unfold par; omega
    rw [e k (by omega), e _ hp]
    exact h k h0 (by omega)
  · simp at hk
    unfold par at hp
    omega
theorem up_step {xs : List Hd} {j : Nat} (hj : 0 < j) (hjn : j < xs.length) (h : UpInv xs.length xs j) (hl : ltH (hx xs j) (hx xs (par j))) : UpInv xs.length (swapH xs (par j) j) (par j) := by
  have hpj : par j < j := by unfold par; omega
  have e := fun k => hx_swap (xs := xs) (i := par j) (j := j) (by omega) hjn k
  refine ⟨fun k h0 hk hne => ?_, fun k h0 hk hp h1 => ?_⟩
  · by_cases hkj : k = j
    · subst hkj
      rw [e, e, if_pos rfl, if_neg (by omega), if_pos rfl]
      exact ltH_asym hl
    · have hpk : par k < k := by unfold par; omega
      rw [e k, if_neg hkj, if_neg hne, e (par k)]
      by_cases h2 : par k = j
      · rw [if_pos h2]; exact h.2 k h0 hk h2 hj
      · rw [if_neg h2]
        by_cases h3 : par k = par j
        · rw [if_pos h3]
          have h4 := h.1 k h0 hk hkj
          rw [h3] at h4
          exact fun h5 => h4 (ltH_trans h5 hl)
        · rw [if_neg h3]; exact h.1 k h0 hk hkj
  · have hpp : par (par j) < par j := by
      show (par j - 1) / 2 < par j
      omega
    rw [e (par (par j)), if_neg (by omega), if_neg (by omega), e k]
    by_cases hkj : k = j
    · rw [if_pos hkj]
      exact h.1 (par j) h1 (by omega) (by omega)
    · have hpk : par k < k := by unfold par; omega
      rw [if_neg hkj, if_neg (by omega)]
      have h4 := h.1 k h0 hk hkj
      rw [hp] at h4
      exact nlt_trans h4 (h.1 (par j) h1 (by omega) (by omega))
theorem up_end0 {xs : List Hd} {n : Nat} (h : UpInv n xs 0) : HeapOk n xs := fun k h0 hk => h.1 k h0 hk (by omega)
theorem up_end {xs : List Hd} {n j : Nat} (h : UpInv n xs j) (hl : ¬ ltH (hx xs j) (hx xs (par j))) : HeapOk n xs := fun k h0 hk => by
  by_cases e : k = j
  · subst e; exact hl
  · exact h.1 k h0 hk e
def DownInv (n : Nat) (xs : List Hd) (i : Nat) : Prop :=
  (∀ k, 0 < k → k < n → par k ≠ i → ¬ ltH (hx xs k) (hx xs (par k))) ∧ (∀ k, 0 < k → k < n → par k = i → 0 < i → ¬ ltH (hx xs k) (hx xs (par i)))
theorem down_start {xs : List Hd} {n : Nat} (hn : xs.length = n + 1) (h : HeapOk xs.length xs) : DownInv n (swapH xs 0 n) 0 := by
  have e := fun k => hx_swap (xs := xs) (i := 0) (j := n) (by omega) (by omega) k
  refine ⟨fun k h0 hk hp => ?_, fun k h0 hk hp h1 => by omega⟩
  have hpk : par k < k := by unfold par; omega
  rw [e k, e (par k), if_neg (by omega), if_neg (by omega), if_neg (by omega), if_neg hp]
  exact h k h0 (by omega)
theorem par_kids {k i : Nat} (h : 0 < k) : par k = i ↔ k = 2 * i + 1 ∨ k = 2 * i + 2 := by unfold par; omega
theorem down_step {xs : List Hd} {n i j : Nat} (hn : n ≤ xs.length) (hp : par j = i) (h0 : 0 < j) (hj : j < n) (hm : ∀ k, 0 < k → k < n → par k = i → ¬ ltH (hx xs k) (hx xs j)) (h : DownInv n xs i) (hl : ltH (hx xs j) (hx xs i)) : DownInv n (swapH xs i j) j := by
  have hij : i < j := by rw [← hp]; unfold par; omega
  have e := fun k => hx_swap (xs := xs) (i := i) (j := j) (by omega) (by omega) k
  refine ⟨fun k k0 hk hpk => ?_, fun k k0 hk hpk _ => ?_⟩
  · have hkk : par k < k := by unfold par; omega
    rw [e k, e (par k), if_neg hpk]
    by_cases h1 : par k = i
    · rw [if_pos h1]
      by_cases h2 : k = j
      · rw [if_pos h2]; exact ltH_asym hl
      · rw [if_neg h2, if_neg (by omega)]; exact hm k k0 hk h1
    · rw [if_neg h1]
      by_cases h2 : k = j
      · subst h2; exact absurd hp h1
      · rw [if_neg h2]
        by_cases h3 : k = i
        · rw [if_pos h3]
          subst h3
          exact h.2 j h0 hj hp k0
        · rw [if_neg h3]; exact h.1 k k0 hk h1
  · have hkk : par k < k := by unfold par; omega
    have hji : par j = i := hp
    rw [e k, if_neg (by omega), if_neg (by omega), hji, e i, if_neg (by omega), if_pos rfl]
    have h4 := h.1 k k0 hk (by omega)
    rw [hpk] at h4
    exact h4
theorem down_end0 {xs : List Hd} {n i : Nat} (h : DownInv n xs i) (hn : n ≤ 2 * i + 1) : HeapOk n xs := fun k h0 hk => h.1 k h0 hk (fun e => by rw [par_kids h0] at e; omega)
theorem down_end {xs : List Hd} {n i j : Nat} (h : DownInv n xs i) (hm : ∀ k, 0 < k → k < n → par k = i → ¬ ltH (hx xs k) (hx xs j)) (hl : ¬ ltH (hx xs j) (hx xs i)) : HeapOk n xs := fun k h0 hk => by
  by_cases e : par k = i
  · rw [e]; exact nlt_trans (hm k h0 hk e) hl
  · exact h.1 k h0 hk e
theorem heap_root {xs : List Hd} {n : Nat} (h : HeapOk n xs) (k : Nat) (hk : k < n) : ¬ ltH (hx xs k) (hx xs 0) := by
  induction k using Nat.strongRecOn with
  | ind k ih =>
    rcases Nat.eq_zero_or_pos k with h0 | h0
    · subst h0; exact ltH_irr _
    · have hp : par k < k := by unfold par; omega
      exact nlt_trans (h k h0 hk) (ih _ hp (by omega))
theorem heap_take {xs : List Hd} {n : Nat} (hn : n ≤ xs.length) (h : HeapOk n xs) : HeapOk (xs.take n).length (xs.take n) := by
  have hl : (xs.take n).length = n := by simp; omega
  have e : ∀ k, k < n → hx (xs.take n) k = hx xs k := fun k hk => by
    unfold hx
    rw [List.getD_eq_getElem?_getD, List.getD_eq_getElem?_getD, List.getElem?_take_of_lt hk]
  rw [hl]
  intro k h0 hk
  have hp : par k < k := by unfold par; omega
  rw [e k hk, e _ (by omega)]
  exact h k h0 hk
/-- V tells those of hs that hold something, the next victim first. -/
def Vict (V hs : List Hd) : Prop := V.Pairwise (fun a b => ¬ ltH b a) ∧ V.Perm (hs.filter (fun h => decide (0 < h.2)))
theorem Vict.perm {V hs hs' : List Hd} (h : Vict V hs) (hp : hs'.Perm hs) : Vict V hs' := ⟨h.1, h.2.trans (hp.symm.filter _)⟩
theorem vict_exists (hs : List Hd) : ∃ V, Vict V hs := by
  refine ⟨(hs.filter (fun h => decide (0 < h.2))).mergeSort (fun a b => !decide (ltH b a)), ?_, List.mergeSort_perm _ _⟩
  have h1 := List.pairwise_mergeSort (le := fun a b : Hd => !decide (ltH b a)) (fun a b c hab hbc => by
    simp only [Bool.not_eq_true', decide_eq_false_iff_not] at *
    exact nlt_trans hbc hab) (fun a b => by
    by_cases h : ltH b a
    · have := ltH_asym h; simp [this]
    · simp [h]) (hs.filter (fun h => decide (0 < h.2)))
  exact h1.imp (fun h => by simpa using h)
/-- the least of a list that is v :: V up to order is v. -/
theorem least_is {l V : List Hd} {v m : Hd} (hs : (v :: V).Pairwise (fun a b => ¬ ltH b a)) (hp : l.Perm (v :: V)) (hm : m ∈ l) (hl : ∀ x ∈ l, ¬ ltH x m) : m = v := by
  refine eq_of_nlt ?_ (hl v (hp.mem_iff.2 (by simp)))
  rcases List.mem_cons.1 (hp.mem_iff.1 hm) with rfl | h
  · exact ltH_irr _
  · exact (List.pairwise_cons.1 hs).1 m h
/-- those that are driven out. -/
def planOut : List Hd → Int → Int → List Int
  | [], _, _ => []
  | v :: V, free, want => if want ≤ free then [] else v.1 :: planOut V (free + v.2) want
def planFree : List Hd → Int → Int → Int
  | [], free, _ => free
  | v :: V, free, want => if want ≤ free then free else planFree V (free + v.2) want
end Go.Proofs.YtklelheejopfmaaGreat
