/- Vic, Chk28, Kit29, Plan28 -/
import Derived.Test.YtklelheejopfmaaGreatK13
import Derived.Test.YtklelheejopfmaaGreatK11
namespace Go.Proofs.YtklelheejopfmaaGreat
open Go Go.RowKit
attribute [local go_sem] Oper.semAt_some
def posH (h : Hd) : Bool := decide (0 < h.2)
theorem pos_take_yes {hs : List Hd} {i : Nat} (h : i < hs.length) (hp : posH hs[i] = true) : (hs.take (i + 1)).filter posH = (hs.take i).filter posH ++ [hs[i]] := by
  rw [List.take_succ_eq_append_getElem h, List.filter_append]
  simp [hp]
theorem pos_take_no {hs : List Hd} {i : Nat} (h : i < hs.length) (hp : posH hs[i] = false) : (hs.take (i + 1)).filter posH = (hs.take i).filter posH := by
  rw [List.take_succ_eq_append_getElem h, List.filter_append]
  simp [hp]
theorem vic_next {V xs ys : List Hd} {k : Nat} (hV : V.Pairwise (fun a b => ¬ ltH b a)) (hp : xs.Perm (V.drop k)) (hh : HeapOk xs.length xs) (h0 : 0 < xs.length) (hy : xs.Perm (hx xs 0 :: ys)) :
    k < V.length ∧ (∀ h : k < V.length, V[k] = hx xs 0) ∧ ys.Perm (V.drop (k + 1)) := by
  have hk : k < V.length := by
    have := hp.length_eq
    rw [List.length_drop] at this
    omega
  have hd : V.drop k = V[k] :: V.drop (k + 1) := List.drop_eq_getElem_cons hk
  have hv : hx xs 0 = V[k] := by
    refine least_is (l := xs) (V := V.drop (k + 1)) ?_ (by rw [← hd]; exact hp) (by rw [hx_lt h0]; exact List.getElem_mem _) (fun x hxm => ?_)
    · rw [← hd]; exact hV.drop
    · obtain ⟨j, hj, rfl⟩ := List.getElem_of_mem hxm
      have := heap_root hh j hj
      rwa [hx_lt hj] at this
  refine ⟨hk, fun _ => hv.symm, ?_⟩
  have h1 := hp
  rw [hd, ← hv] at h1
  exact (List.perm_cons _).1 (hy.symm.trans h1)
theorem HRow.fr {M : World → Nat → Prop} {A B : World} {base : Nat} {v : Value} {xs : List Hd} (h : HRow A base v xs) (hf : Fr M A B) (hn : ∀ g, v.ownBlock = some g → ¬ M A g) : HRow B base v xs := by
  refine ⟨h.1, ?_⟩
  rcases h.2 with h2 | ⟨g, cap, cur, hv, hb, hh, r⟩
  · exact .inl h2
  · have hl : g < A.heap.size := by
      rcases Nat.lt_or_ge g A.heap.size with hlt | hge
      · exact hlt
      · rw [Array.getElem?_eq_none hge] at hh; cases hh
    exact .inr ⟨g, cap, cur, hv, hb, (hf.block g hl (hn g (by rw [hv]; rfl))).trans hh, r⟩
def lenAt (w : World) (b : Nat) : Nat := match w.cell? ⟨b, 0, none⟩ with | some (.slice _ n _) => n | _ => 0
/-- while the heap is filled -/
def VicA (W0 : World) (zs : List Hd) (wr : World) : Prop := ∃ v xs, Blk wr W0.heap.size 114 #[v] ∧ HRow wr (W0.heap.size + 1) v xs ∧ xs.Perm zs ∧ HeapOk xs.length xs ∧ Below W0.heap.size W0 wr ∧ W0.heap.size + 1 ≤ wr.heap.size
theorem VicA.start (W0 : World) : VicA W0 [] (W0.alloc (.cells #[.slice none 0 0] 114)) :=
  ⟨_, [], Blk.new _ _ _, World.ownsRow_nil _ _ _ _, List.Perm.refl _, (by intro k h0 hk; simp at hk), (Below.refl _ _).alloc (Nat.le_refl _) _, by simp⟩
theorem VicA.later {W0 : World} {zs : List Hd} {w w' : World} (h : VicA W0 zs w) (hb : Below w.heap.size w w') : VicA W0 zs w' := by
  obtain ⟨v, xs, h1, h2, h3, h4, h5, h6⟩ := h
  exact ⟨v, xs, h1.below hb h1.lt, h2.below hb, h3, h4, h5.trans (hb.mono (by omega)), by have := hb.size; omega⟩
theorem VicA.push {W0 wr : World} {zs : List Hd} (h : VicA W0 zs wr) (hz : zs.length ≤ 900) (y : Hd) :
    Calls Tryz.prog 74 #[hpI W0.heap.size, .iface 93 (.agg #[.int .i64 y.1, .int .i64 y.2])] wr fun e w' => (∃ u, e = .returned u) ∧ VicA W0 (zs ++ [y]) w' := by
  obtain ⟨v, xs, h1, h2, h3, h4, h5, h6⟩ := h
  refine (heap_Push wr W0.heap.size (W0.heap.size + 1) v xs h1 h2 h4 h6 (by rw [h3.length_eq]; exact hz) y).mono ?_
  rintro e w' ⟨hu, v', ys, g1, g2, g3, g4, g5, g6⟩
  refine ⟨hu, v', ys, g1, g2, (g3.trans (h3.cons y)).trans (List.perm_append_comm (l₁ := [y]) (l₂ := zs)), g4, ?_, by have := g5.size; omega⟩
  refine ⟨g5.os.trans h5.os, g5.tape.trans h5.tape, g5.output.trans h5.output, by have := g5.size; have := h5.size; omega, fun k hk => ?_⟩
  refine (g5.block k (by have := h5.size; omega) (fun hown => ?_)).trans (h5.block k hk)
  rcases hown with hown | hown
  · omega
  · have := (h2.lt k hown).1
    omega
theorem sl_hd {w : World} {A : Option Addr} {hs : List Hd} (h : Sl w A (rowC hdC hs)) (i : Nat) (hi : i < hs.length) : ∃ ad, A = some ad ∧ w.cell? (ad.add (i * 2)) = some (.int .i64 hs[i].1) ∧ w.cell? ⟨(ad.add (i * 2)).block, (ad.add (i * 2)).off + 1, none⟩ = some (.int .i64 hs[i].2) := by
  have h0 := rowC_get hdC_len hs i hi 0 (by decide)
  have h1 := rowC_get hdC_len hs i hi 1 (by decide)
  rw [Nat.add_zero] at h0
  obtain ⟨ad, rfl, _, c0⟩ := h _ _ (h0.trans rfl)
  obtain ⟨ad', e, _, c1⟩ := h _ _ (h1.trans rfl)
  cases e
  rw [← addr_add_add] at c1
  exact ⟨ad, rfl, c0, c1⟩
/-- while the heap is emptied -/
def VicB (W0 : World) (M : World → Nat → Prop) (J : List Hd → World → Prop) (V : List Hd) (k : Nat) (wr : World) : Prop :=
  ∃ v xs, Blk wr W0.heap.size 114 #[v] ∧ HRow wr (W0.heap.size + 1) v xs ∧ xs.Perm (V.drop k) ∧ HeapOk xs.length xs ∧ J (V.take k) wr ∧ ¬ M wr W0.heap.size ∧ (∀ g, v.ownBlock = some g → ¬ M wr g) ∧ k ≤ V.length
theorem VicB.start {W0 wr : World} {M : World → Nat → Prop} {J : List Hd → World → Prop} {V hs : List Hd} {Rd : Nat → Prop} (h : VicA W0 (hs.filter posH) wr) (hV : Vict V hs) (h0 : J [] W0)
    (hJ : ∀ (own : Nat → Prop) pre A B, J pre A → Turn own A B → (∀ i, own i → W0.heap.size ≤ i ∧ ¬ M A i) → J pre B) (hM : ∀ (own : Nat → Prop) pre A B, J pre A → Turn own A B → (∀ i, own i → W0.heap.size ≤ i ∧ ¬ M A i) → ∀ i, M B i → M A i)
    (hl : ∀ pre A, J pre A → ∀ i, M A i → ¬ Rd i ∧ i < A.heap.size) : VicB W0 M J V 0 wr := by
  obtain ⟨v, xs, h1, h2, h3, h4, h5, h6⟩ := h
  have ht : Turn (fun i => W0.heap.size ≤ i) W0 wr := Turn.of_below h5
  have ho : ∀ i, W0.heap.size ≤ i → W0.heap.size ≤ i ∧ ¬ M W0 i := fun i hi => ⟨hi, fun hm => by have := (hl _ _ h0 i hm).2; omega⟩
  have hn : ∀ i, W0.heap.size ≤ i → ¬ M wr i := fun i hi hm => (ho i hi).2 (hM _ _ _ _ h0 ht ho i hm)
  exact ⟨v, xs, h1, h2, h3.trans hV.2.symm, h4, hJ _ _ _ _ h0 ht ho, hn _ (Nat.le_refl _), fun g hg => hn g (by have := (h2.lt g hg).1; omega), Nat.zero_le _⟩
theorem vicB_step {W0 wr w2 : World} {M : World → Nat → Prop} {J : List Hd → World → Prop} {V xs ys : List Hd} {k g m cap : Nat} (hJ : ∀ (own : Nat → Prop) pre A B, J pre A → Turn own A B → (∀ i, own i → W0.heap.size ≤ i ∧ ¬ M A i) → J pre B)
    (hM : ∀ (own : Nat → Prop) pre A B, J pre A → Turn own A B → (∀ i, own i → W0.heap.size ≤ i ∧ ¬ M A i) → ∀ i, M B i → M A i) (hV : V.Pairwise (fun a b => ¬ ltH b a)) (hA : HpAt wr W0.heap.size (W0.heap.size + 1) g (m + 1) cap xs) (hp : xs.Perm (V.drop k)) (hh : HeapOk xs.length xs)
    (hj : J (V.take k) wr) (n1 : ¬ M wr W0.heap.size) (n2 : ¬ M wr g) (hA2 : HpAt w2 W0.heap.size (W0.heap.size + 1) g m cap ys) (hp2 : xs.Perm (hx xs 0 :: ys)) (hh2 : HeapOk m ys) (ht : Turn (fun b => b = W0.heap.size ∨ b = g) wr w2) (o : Obj) :
    J (V.take k) (w2.alloc o) ∧ (V.take k ++ [hx xs 0] <+: V) ∧ ∀ W3, J (V.take k ++ [hx xs 0]) W3 → Fr M (w2.alloc o) W3 → VicB W0 M J V (k + 1) W3 ∧ lenAt W3 W0.heap.size = m := by
  have hg : W0.heap.size + 1 ≤ g := (hA.2.1.lt g rfl).1
  have ht2 : Turn (fun b => b = W0.heap.size ∨ b = g) wr (w2.alloc o) := ht.trans (Turn.of_below ((Below.refl _ _).alloc (Nat.le_refl _) _))
  have ho : ∀ i, (i = W0.heap.size ∨ i = g) → W0.heap.size ≤ i ∧ ¬ M wr i := fun i hi => by
    rcases hi with rfl | rfl
    · exact ⟨Nat.le_refl _, n1⟩
    · exact ⟨by omega, n2⟩
  obtain ⟨hk, hv, hpy⟩ := vic_next hV hp hh (by rw [hA.2.2]; omega) hp2
  have htk : V.take k ++ [hx xs 0] = V.take (k + 1) := by rw [List.take_succ_eq_append_getElem hk, hv hk]
  have m1 : ¬ M (w2.alloc o) W0.heap.size := fun h => n1 (hM _ _ _ _ hj ht2 ho _ h)
  have m2 : ¬ M (w2.alloc o) g := fun h => n2 (hM _ _ _ _ hj ht2 ho _ h)
  have hA3 := hA2.below ((Below.refl w2.heap.size w2).alloc (Nat.le_refl _) o)
  refine ⟨hJ _ _ _ _ hj ht2 ho, by rw [htk]; exact List.take_prefix _ _, fun W3 hJ3 hF => ?_⟩
  have hb3 : Blk W3 W0.heap.size 114 #[.slice (some ⟨g, 0, none⟩) m cap] := hF.blk hA3.1 m1
  refine ⟨⟨_, ys, hb3, hA3.2.1.fr hF (fun g' hg' => ?_), hpy, by rw [hA3.2.2]; exact hh2, by rw [← htk]; exact hJ3, fun h => m1 (hF.may _ h hA3.1.lt), fun g' hg' => ?_, hk⟩, ?_⟩
  · cases hg'; exact m2
  · cases hg'
    exact fun h => m2 (hF.may _ h (by
      obtain ⟨g1, c1, h1, h2, h3⟩ : ∃ g1 c1, (Value.slice (some ⟨g, 0, none⟩) m cap) = .slice (some ⟨g1, 0, none⟩) m c1 ∧ W0.heap.size + 1 ≤ g1 ∧ g1 < (w2.alloc o).heap.size := ⟨g, cap, rfl, hg, (hA3.2.1.lt g rfl).2⟩
      cases h1; exact h3))
  · unfold lenAt
    rw [hb3.cell 0]
    rfl
set_option maxRecDepth 100000 in
set_option maxHeartbeats 2000000 in
theorem victims_seq (n : Nat) (hn : 1 ≤ n) (w : World) (cap : Nat) (A : Option Addr) (c : Nat) (hs : List Hd) (hlen : hs.length ≤ 64) (hc : Blk w cap 91 #[.slice A hs.length c]) (hS : Sl w A (rowC hdC hs)) (V : List Hd) (hV : Vict V hs) :
    SeqOwn Fence.wide n Tryz.prog 73 #[.pointer (some ⟨cap, 0, none⟩)] (fun x : Hd => #[.int .i64 x.1, .int .i64 x.2]) (fun xs => xs = V) (fun pre => pre <+: V) (fun i => i = cap ∨ ∃ ad, A = some ad ∧ i = ad.block) w := by
  intro l M J Jx W hW hJb hJxb hMb hMl hY h0
  refine callsIn_of_wp Tryz.func73 rfl trivial ?_ rfl
  simp only [Tryz.ntmps73, List.size_toArray, List.length_cons, List.length_nil, Nat.reduceAdd, Nat.reduceSub, Array.replicate_succ, Array.replicate_zero, List.push_toArray, List.append_toArray, List.nil_append, List.cons_append]
  have HC := Lib.hid (hc.below hW hc.lt)
  have HS := Lib.hid (hS.below hW)
  have x0 := HC.out.cell 0
  have HY := Lib.hid hY; have HJb := Lib.hid hJb; have HMb := Lib.hid hMb; have HMl := Lib.hid hMl; have H0 := Lib.hid h0; have HV := Lib.hid hV; have HL := Lib.hid hlen
  clear hY hJb hJxb hMb hMl h0 hW hc hS hV hlen
  have y0 := (HC.out.alloc (.cells #[.slice none 0 0] 114)).cell 0
  gi_wp2_with fail
  gi_loopw [9] (fun v9 wr => ∃ i : Nat, v9 = .int .i64 (i : Int) ∧ i ≤ hs.length ∧ Hid (VicA W ((hs.take i).filter posH) wr)) (fun v9 _ => hs.length - (ixOf v9).toNat)
  case atStart => exact ⟨0, rfl, Nat.zero_le _, Lib.hid (VicA.start W)⟩
  case round =>
    obtain ⟨i, rfl, hi, HI⟩ := hrel
    by_cases hlt : i < hs.length
    · have hli : (i : Int) < (hs.length : Int) := by omega
      have hi0 : ¬ (i : Int) < 0 := by omega
      have hw1 : IntKind.i64.wrap ((i : Int) + 1) = ((i + 1 : Nat) : Int) := by have := HL.out; rw [IntKind.wrap_i64]; omega
      have hbel : Below W.heap.size W wr := by obtain ⟨v, xs, _, _, _, _, h5, _⟩ := HI.out; exact h5
      obtain ⟨ad, rfl, hc0, hc1⟩ := sl_hd (HS.out.below hbel) i hlt
      obtain ⟨y, hy⟩ : ∃ y, hs[i] = y := ⟨_, rfl⟩
      rw [hy] at hc0 hc1
      obtain ⟨y1, y2⟩ := y
      have HLT := Lib.hid hlt
      by_cases hp : 0 < y2
      · have HN := Lib.hid (show (hs.take (i + 1)).filter posH = (hs.take i).filter posH ++ [(y1, y2)] by rw [pos_take_yes hlt (by rw [hy]; exact decide_eq_true hp), hy])
        clear hi hbel hlt hy
        gi_wp2_with (refine ⟨trivial, ?_⟩; gi_at_call 74; refine (callsIn_wide.2 ((HI.out.later ((Below.refl _ _).alloc (Nat.le_refl _) _)).push (by have := HL.out; have := HLT.out; have := List.length_filter_le posH (hs.take i); simp at this ⊢; omega) (y1, y2))).mono ?_; rintro e w2 ⟨⟨u, rfl⟩, hv2⟩; have HV2 := Lib.hid hv2; clear hv2)
        refine ⟨⟨i + 1, by simp, by have := HLT.out; omega, Lib.hid (by rw [HN.out]; exact HV2.out)⟩, ?_⟩
        have := HLT.out
        show hs.length - ((i : Int) + 1).toNat < hs.length - (i : Int).toNat
        omega
      · have HN := Lib.hid (show (hs.take (i + 1)).filter posH = (hs.take i).filter posH from pos_take_no hlt (by rw [hy]; exact decide_eq_false hp))
        clear hi hbel hlt hy
        gi_wp2_with fail
        refine ⟨⟨i + 1, by simp, by have := HLT.out; omega, Lib.hid (by rw [HN.out]; exact HI.out.later ((Below.refl _ _).alloc (Nat.le_refl _) _))⟩, ?_⟩
        have := HLT.out
        show hs.length - ((i : Int) + 1).toNat < hs.length - (i : Int).toNat
        omega
    · have hli : ¬ (i : Int) < (hs.length : Int) := by omega
      have HE := Lib.hid (show VicA W (hs.filter posH) wr by have h1 := HI.out; have h2 : i = hs.length := by omega
                                                             rw [h2, List.take_length] at h1; exact h1)
      clear hi HI
      gi_wp2_with fail
      have HB := Lib.hid (VicB.start HE.out HV.out H0.out HJb.out HMb.out HMl.out)
      clear hli HE
      gi_loopw [] (fun wr => ∃ k : Nat, Hid (VicB W M J V k wr)) (fun wr => lenAt wr W.heap.size)
      case atStart => exact ⟨0, HB⟩
      case round =>
        obtain ⟨k, HB⟩ := hrel
        obtain ⟨v, xs, h1, h2, h3, h4, h5, h6, h7, h8⟩ := HB.out
        have b0 := h1.cell 0
        rcases Nat.eq_zero_or_pos xs.length with he | he
        · obtain ⟨A', c', rfl⟩ : ∃ A' c', v = .slice A' 0 c' := by
            rcases h2.2 with ⟨rfl, _⟩ | ⟨g, cap, cur, rfl, _⟩
            · exact ⟨_, _, rfl⟩
            · exact ⟨_, _, by rw [he]⟩
          have HJ5 := Lib.hid (show J V wr by
            have h9 := h3.length_eq
            rw [he, List.length_drop] at h9
            rwa [List.take_of_length_le (by omega)] at h5)
          clear h1 h2 h3 h4 h5 h6 h7 h8 HB he
          gi_wp2_with fail
          go_end0
          exact ⟨⟨_, rfl⟩, .inl ⟨V, rfl, HJ5.out⟩⟩
        · obtain ⟨m, hm⟩ : ∃ m, xs.length = m + 1 := ⟨xs.length - 1, by omega⟩
          obtain ⟨g, cp, rfl, _, _⟩ := row_shape h2 he
          have hA : HpAt wr W.heap.size (W.heap.size + 1) g (m + 1) cp xs := by rw [hm] at h1 h2; exact ⟨h1, h2, hm⟩
          have hlen : lenAt wr W.heap.size = m + 1 := by unfold lenAt; rw [h1.cell 0]; exact hm
          rw [hm] at b0
          have hgt : (0 : Int) < ((m + 1 : Nat) : Int) := by omega
          have HPop : Hid (∀ (_ : True), _) := Lib.hid (fun (_ : True) => heap_Pop wr W.heap.size (W.heap.size + 1) g m cp xs hA h4 (by have h9 := h3.length_eq; rw [List.length_drop] at h9; have h10 := HV.out.2.length_eq; have h11 := List.length_filter_le (fun h : Hd => decide (0 < h.2)) hs; have := HL.out; omega))
          have HStep : Hid (∀ (w2 : World) (ys : List Hd), HpAt w2 W.heap.size (W.heap.size + 1) g m cp ys → xs.Perm (hx xs 0 :: ys) → HeapOk m ys → Turn (fun b => b = W.heap.size ∨ b = g) wr w2 → ∀ o, _) := Lib.hid (fun w2 ys a1 a2 a3 a4 o => vicB_step HJb.out HMb.out HV.out.1 hA h3 h4 h5 h6 (h7 g rfl) a1 a2 a3 a4 o)
          have HLEN := Lib.hid hlen
          obtain ⟨x, hx0⟩ : ∃ x, hx xs 0 = x := ⟨_, rfl⟩
          rw [hx0] at HPop HStep
          obtain ⟨z1, z2⟩ := x
          have hta : ∀ W : World, (Instr.typeAssert (.iface 93 (.agg #[.int .i64 z1, .int .i64 z2])) 20 93 false).run Tryz.prog W = .ok (.agg #[.int .i64 z1, .int .i64 z2]) W := fun _ => by kernel_rfl
          clear h1 h2 h3 h4 h5 h6 h7 h8 HB he hA hlen hx0 hm
          gi_wp2_with (refine ⟨trivial, ?_⟩; gi_at_call 75; refine (callsIn_wide.2 (HPop.out trivial)).mono ?_; rintro e w2 ⟨rfl, ys, a1, a2, a3, a4⟩; obtain ⟨hj2, hpre, hfin⟩ := HStep.out w2 ys a1 a2 a3 a4 (.cells #[.int .i64 z1, .int .i64 z2] 93); obtain ⟨fn, tmps, assign, body, hy, hR⟩ := HY.out _ (z1, z2) _ hj2 hpre; have HRR := Lib.hid hR; have HFin := Lib.hid hfin; have HPre := Lib.hid hpre; clear a1 a2 a3 a4 hj2 hpre hfin hR)
          refine HRR.out.mono ?_
          rintro e W3 (⟨rfl, hJ3, hF3⟩ | ⟨rfl, hJx3⟩)
          · have hf := HFin.out W3 hJ3 hF3
            have HF1 := Lib.hid hf.1
            have HF2 := Lib.hid hf.2
            clear hJ3 hF3 hf
            gi_wp2
            refine ⟨⟨k + 1, HF1⟩, ?_⟩
            rw [HF2.out, HLEN.out]
            exact Nat.lt_succ_self m
          · gi_wp2
            refine bodyPost_ret (results_none rfl _ _ _) rfl ?_
            exact ⟨⟨_, rfl⟩, .inr ⟨_, HPre.out, hJx3⟩⟩
theorem press_victims (A : Option Addr) (n c : Nat) (w : World) : Calls Tryz.prog 66 #[.slice A n c] w fun e w' => e = .returned (.func (.func 73) #[] #[.pointer (some ⟨w.heap.size, 0, none⟩)]) ∧ w' = w.alloc (.cells #[.slice A n c] 91) := by
  go_enter Tryz.func66, Tryz.ntmps66
  go_wp2
  go_ret
  exact ⟨rfl, rfl⟩
end Go.Proofs.YtklelheejopfmaaGreat
namespace Go.Proofs.YtklelheejopfmaaGreat
open Go Go.RowKit
attribute [local go_sem] Oper.semAt_some
theorem slices_Index_none (w : World) (A : Option Addr) (l : List Int) (c : Nat) (x : Int) (hS : Sl w A (l.map intV)) (hl : l.length ≤ 1000) (hx : x ∉ l) : Calls Tryz.prog 79 #[.slice A l.length c, .int .i64 x] w fun e w' => e = .returned (.int .i64 (-1)) ∧ Below w.heap.size w w' := by
  have HS := Lib.hid hS
  have HL := Lib.hid hl
  have HX := Lib.hid hx
  have HB := Lib.hid (Below.refl w.heap.size w)
  clear hS hl hx
  go_enter Tryz.func79, Tryz.ntmps79
  go_wp2_with fail
  go_loopw [8] (fun v8 wr => ∃ i : Nat, v8 = .int .i64 (i : Int) ∧ i ≤ l.length ∧ Hid (Below w.heap.size w wr)) (fun v8 _ => l.length - (ixOf v8).toNat)
  case atStart => exact ⟨0, rfl, Nat.zero_le _, HB⟩
  case round =>
    obtain ⟨i, rfl, hi, HI⟩ := hrel
    by_cases hlt : i < l.length
    · have hli : (i : Int) < (l.length : Int) := by omega
      have hi0 : ¬ (i : Int) < 0 := by omega
      have hw1 : IntKind.i64.wrap ((i : Int) + 1) = ((i + 1 : Nat) : Int) := by have := HL.out; rw [IntKind.wrap_i64]; omega
      obtain ⟨ad, rfl, _, hc⟩ := (HS.out.below HI.out).int i hlt
      obtain ⟨y, hy⟩ : ∃ y, l[i] = y := ⟨_, rfl⟩
      rw [hy] at hc
      have hne : (x == y) = false := beq_eq_false_iff_ne.2 (fun e => HX.out (by rw [e, ← hy]; exact List.getElem_mem _))
      have HLT := Lib.hid hlt
      clear hi hlt hy
      go_wp2_with fail
      go_roundw
      case rel => exact ⟨i + 1, by simp, by have := HLT.out; omega, HI⟩
      case measure =>
        have := HLT.out
        show l.length - ((i : Int) + 1).toNat < l.length - (i : Int).toNat
        omega
    · have hli : ¬ (i : Int) < (l.length : Int) := by omega
      clear hi hlt
      go_wp2_with fail
      go_ret
      exact ⟨rfl, HI.out⟩
theorem slices_Contains_none (w : World) (A : Option Addr) (l : List Int) (c : Nat) (x : Int) (hS : Sl w A (l.map intV)) (hl : l.length ≤ 1000) (hx : x ∉ l) : Calls Tryz.prog 72 #[.slice A l.length c, .int .i64 x] w fun e w' => e = .returned (.bool false) ∧ Below w.heap.size w w' := by
  have C := Lib.hid (slices_Index_none w A l c x hS hl hx)
  clear hS hl hx
  go_enter Tryz.func72, Tryz.ntmps72
  go_wp2_with (go_at_call 79; refine C.out.mono ?_; rintro e w1 ⟨rfl, hb1⟩; have HB1 := Lib.hid hb1; clear hb1)
  go_ret
  exact ⟨rfl, HB1.out⟩
def HdOk (hs : List Hd) : Prop := hs.length ≤ 64 ∧ (∀ h ∈ hs, 1 ≤ h.1 ∧ 0 ≤ h.2 ∧ h.2 ≤ 64) ∧ (hs.map (·.1)).Nodup
theorem nodup_take {hs : List Hd} (h : (hs.map (·.1)).Nodup) {i : Nat} (hi : i < hs.length) : hs[i].1 ∉ (hs.take i).map (·.1) := by
  have h1 : (hs.take (i + 1)).map (·.1) = (hs.take i).map (·.1) ++ [hs[i].1] := by rw [List.take_succ_eq_append_getElem hi, List.map_append]; rfl
  have h2 : ((hs.take (i + 1)).map (·.1)).Nodup := h.sublist ((List.take_sublist _ _).map _)
  rw [h1, List.nodup_append] at h2
  exact fun h3 => h2.2.2 _ h3 _ (by simp) rfl
/-- a call's own row of ints -/
def IRow (w : World) (base : Nat) (v : Value) (xs : List Int) : Prop := w.ownsRow base 3 1 v xs.length (xs.map intV)
theorem IRow.shape {w : World} {base : Nat} {v : Value} {xs : List Int} (h : IRow w base v xs) : ∃ A c, v = .slice A xs.length c ∧ Sl w A (xs.map intV) := own_sl h
theorem IRow.below {w w' : World} {base : Nat} {v : Value} {xs : List Int} (h : IRow w base v xs) (hb : Below w.heap.size w w') : IRow w' base v xs := own_below h hb (Nat.le_refl _)
theorem IRow.app {w : World} {base : Nat} {v : Value} {xs : List Int} {y : Int} (h : w.ownsRow base 3 1 v (xs.length + 1) (xs.map intV ++ [.int .i64 y])) : IRow w base v (xs ++ [y]) := by
  unfold IRow
  rw [List.length_append, List.map_append]
  exact h
set_option maxRecDepth 100000 in
set_option maxHeartbeats 1000000 in
theorem press_Check (w : World) (A : Option Addr) (hs : List Hd) (c : Nat) (hS : Sl w A (rowC hdC hs)) (hok : HdOk hs) : Calls Tryz.prog 65 #[.slice A hs.length c] w fun e w' => e = .returned (.int .i64 0) ∧ Below w.heap.size w w' := by
  have h64 : ¬ (64 : Int) < (hs.length : Int) := by have := hok.1; omega
  have HS := Lib.hid hS
  have HO := Lib.hid hok
  have HB := Lib.hid (And.intro (Below.refl w.heap.size w) (World.ownsRow_nil w w.heap.size 3 1))
  clear hS hok
  go_enter Tryz.func65, Tryz.ntmps65
  go_wp2_with fail
  go_loopw [3, 11] (fun v3 v11 wr => ∃ i : Nat, v11 = .int .i64 (i : Int) ∧ i ≤ hs.length ∧ Hid (Below w.heap.size w wr) ∧ Hid (IRow wr w.heap.size v3 ((hs.take i).map (·.1)))) (fun _ v11 _ => hs.length - (ixOf v11).toNat)
  case atStart => exact ⟨0, rfl, Nat.zero_le _, Lib.hid HB.out.1, Lib.hid HB.out.2⟩
  case round =>
    obtain ⟨i, rfl, hi, HI, HR⟩ := hrel
    by_cases hlt : i < hs.length
    · have hli : (i : Int) < (hs.length : Int) := by omega
      have hi0 : ¬ (i : Int) < 0 := by omega
      have hw1 : IntKind.i64.wrap ((i : Int) + 1) = ((i + 1 : Nat) : Int) := by have := HO.out.1; rw [IntKind.wrap_i64]; omega
      obtain ⟨ad, rfl, hc0, hc1⟩ := sl_hd (HS.out.below HI.out) i hlt
      obtain ⟨y, hy⟩ : ∃ y, hs[i] = y := ⟨_, rfl⟩
      have HN := Lib.hid (nodup_take HO.out.2.2 hlt)
      have HT := Lib.hid (show (hs.take (i + 1)).map (·.1) = (hs.take i).map (·.1) ++ [hs[i].1] by rw [List.take_succ_eq_append_getElem hlt, List.map_append]; rfl)
      have hyo := HO.out.2.1 hs[i] (List.getElem_mem _)
      rw [hy] at hc0 hc1 HN HT hyo
      obtain ⟨y1, y2⟩ := y
      dsimp only at hyo HN HT hc0 hc1
      have q1 : ¬ y1 < 1 := by omega
      have q2 : ¬ y2 < 0 := by omega
      have q3 : ¬ 64 < y2 := by omega
      obtain ⟨ids, hids⟩ : ∃ ids, (hs.take i).map (·.1) = ids := ⟨_, rfl⟩
      have hil : ids.length = i := by rw [← hids]; simp; omega
      rw [hids] at HR HN HT
      obtain ⟨A3, c3, rfl, hs3⟩ := HR.out.shape
      have HS3 := Lib.hid hs3
      have HIL := Lib.hid hil
      have HLT := Lib.hid hlt
      clear hi hlt hy hyo hids hs3 hil
      go_wp2_with (first
        | (go_at_call 72; refine (slices_Contains_none _ A3 ids c3 y1 (HS3.out.alloc _) (by have := HIL.out; have := HLT.out; have := HO.out.1; omega) HN.out).mono ?_; rintro e w1 ⟨rfl, hb1⟩; have hb2 := (((Below.refl wr.heap.size wr).alloc (Nat.le_refl _) (.cells #[.int .i64 y1, .int .i64 y2] 93))).trans (hb1.mono (by simp)); have z0 := ((Blk.new wr 93 #[.int .i64 y1, .int .i64 y2]).below hb1 (by simp)).cell 0; have HB2 := Lib.hid hb2; have HR2 := Lib.hid (HR.out.below hb2); clear hb1 hb2)
        | (at_builtin; refine wpList_app etInt rfl rfl rfl (HR2.out.below ((Below.refl _ _).alloc (Nat.le_refl _) (.cells #[.int .i64 y1] 3))) rfl (m := 1) (news := [.int .i64 y1]) rfl ((Blk.new _ 3 #[.int .i64 y1]).sl 0) (by intro u hu; simp at hu; subst hu; rfl) (by have := HIL.out; have := HLT.out; have := HO.out.1; omega) (by rw [World.size_alloc]; have := HB2.out.size; have := HI.out.size; omega) ?_; intro v5 w5 ho5 hg5 hor5; have HR5 := Lib.hid (IRow.app ho5); have HB5 := Lib.hid (below_app (((HI.out.trans (HB2.out.mono HI.out.size))).alloc (by have := HB2.out.size; have := HI.out.size; omega) (.cells #[.int .i64 y1] 3)) (HR2.out.below ((Below.refl _ _).alloc (Nat.le_refl _) (.cells #[.int .i64 y1] 3))) hg5 (by rw [World.size_alloc]; have := HB2.out.size; have := HI.out.size; omega) (Nat.le_refl _)); clear ho5 hg5 hor5))
      go_roundw
      case rel => exact ⟨i + 1, by simp, by have := HLT.out; omega, HB5, Lib.hid (by rw [HT.out]; exact HR5.out)⟩
      case measure =>
        have := HLT.out
        show hs.length - ((i : Int) + 1).toNat < hs.length - (i : Int).toNat
        omega
    · have hli : ¬ (i : Int) < (hs.length : Int) := by omega
      clear hi hlt
      go_wp2_with fail
      go_ret
      exact ⟨rfl, HI.out⟩
end Go.Proofs.YtklelheejopfmaaGreat
namespace Go.Proofs.YtklelheejopfmaaGreat
open Go Go.RowKit
attribute [local go_sem] Oper.semAt_some
theorem meas_up {n i i1 : Nat} {x : Int} (h : x = (i1 : Int)) (h1 : i + 1 = i1) (h2 : i < n) : n - (ixOf (.int .i64 x)).toNat < n - (ixOf (.int .i64 (i : Int))).toNat := by
  subst h
  show n - ((i1 : Int)).toNat < n - ((i : Int)).toNat
  omega
set_option maxRecDepth 100000 in
theorem kit_SameInts (w : World) (A B : Option Addr) (l : List Int) (c d : Nat) (hA : Sl w A (l.map intV)) (hB : Sl w B (l.map intV)) (hl : l.length ≤ 1000) :
    Calls Tryz.prog 11 #[.slice A l.length c, .slice B l.length d] w fun e w' => e = .returned (.bool true) ∧ Below w.heap.size w w' := by
  have HA := Lib.hid hA
  have HB := Lib.hid hB
  have HL := Lib.hid hl
  have HW := Lib.hid (Below.refl w.heap.size w)
  clear hA hB hl
  go_enter Tryz.func11, Tryz.ntmps11
  go_wp2_with fail
  go_loopw [5] (fun v5 wr => ∃ i : Nat, v5 = .int .i64 (i : Int) ∧ i ≤ l.length ∧ Hid (Below w.heap.size w wr)) (fun v5 _ => l.length - (ixOf v5).toNat)
  case atStart => exact ⟨0, rfl, Nat.zero_le _, HW⟩
  case round =>
    obtain ⟨i, rfl, hi, HI⟩ := hrel
    by_cases hlt : i < l.length
    · have hli : (i : Int) < (l.length : Int) := by omega
      have hi0 : ¬ (i : Int) < 0 := by omega
      obtain ⟨i1, hi1⟩ : ∃ i1, i + 1 = i1 := ⟨_, rfl⟩
      have hw1 : wrap64 ((i : Int) + 1) = (i1 : Int) := by have := HL.out; rw [wrap64_id (by omega) (by omega)]; omega
      have HI1 := Lib.hid hi1
      clear hi1
      obtain ⟨y, hy⟩ : ∃ y, l[i] = y := ⟨_, rfl⟩
      obtain ⟨a, rfl, ha1, ha2⟩ := HA.out.int i hlt
      obtain ⟨b, rfl, hb1, hb2⟩ := HB.out.int i hlt
      clear ha1 ha2 hb1 hb2
      have HC : Hid (∀ W, Sl W (some a) (l.map intV) ∧ Sl W (some b) (l.map intV) → W.cell? (a.add i) = some (.int .i64 y) ∧ W.cell? (b.add i) = some (.int .i64 y)) := Lib.hid fun W hW => by
        obtain ⟨a', e1, _, c1⟩ := hW.1.int i hlt
        obtain ⟨b', e2, _, c2⟩ := hW.2.int i hlt
        cases e1; cases e2
        rw [hy] at c1 c2
        exact ⟨c1, c2⟩
      have hyy : (y == y) = true := beq_self_eq_true y
      have HLT := Lib.hid hlt
      clear hi hlt hy
      have HI2 := Lib.hid (show Below w.heap.size w wr.drew from HI.out.drew)
      go_wp2_with fail
      refine wp_region_plan2 (fun W => Sl W (some a) (l.map intV) ∧ Sl W (some b) (l.map intV)) 9 [(0, true), (1, true), (2, true), (3, true), (4, true), (5, true), (6, true), (7, true), (8, true)] (by kernel_rfl) (by kernel_rfl) (fun _ _ d _ _ h => by cases d <;> exact h) (by decide) (by simp only [List.map_cons, List.map_nil, Array.getD_eq_getD_getElem?, List.getElem?_toArray, List.getElem?_cons_zero, List.getElem?_cons_succ, Option.getD_some]; rfl) (by simp only [List.map_cons, List.map_nil]; rfl) (⟨HA.out.below HI2.out, HB.out.below HI2.out⟩) (fun PE hPE => ?_)
      refine plan_take (v := ?_) rfl (by rfl) ?_ ?_
      rotate_left
      · intro _ hSw; (try dsimp only at hSw); go_simp; (try with_reducible rfl)
      simp only [List.setIfInBounds_toArray, List.set_cons_zero, List.set_cons_succ]
      refine plan_take (v := ?_) rfl (by rfl) ?_ ?_
      rotate_left
      · intro _ hSw; (try dsimp only at hSw); go_simp; (try with_reducible rfl)
      simp only [List.setIfInBounds_toArray, List.set_cons_zero, List.set_cons_succ]
      refine plan_take (v := ?_) rfl (by rfl) ?_ ?_
      rotate_left
      · intro _ hSw; (try dsimp only at hSw); go_simp; (try with_reducible rfl)
      simp only [List.setIfInBounds_toArray, List.set_cons_zero, List.set_cons_succ]
      refine plan_take (v := ?_) rfl (by rfl) ?_ ?_
      rotate_left
      · intro _ hSw; (try dsimp only at hSw); have c1 := (HC.out _ hSw).1; go_simp; (try with_reducible rfl)
      simp only [List.setIfInBounds_toArray, List.set_cons_zero, List.set_cons_succ]
      refine plan_take (v := ?_) rfl (by rfl) ?_ ?_
      rotate_left
      · intro _ hSw; (try dsimp only at hSw); go_simp; (try with_reducible rfl)
      simp only [List.setIfInBounds_toArray, List.set_cons_zero, List.set_cons_succ]
      refine plan_take (v := ?_) rfl (by rfl) ?_ ?_
      rotate_left
      · intro _ hSw; (try dsimp only at hSw); go_simp; (try with_reducible rfl)
      simp only [List.setIfInBounds_toArray, List.set_cons_zero, List.set_cons_succ]
      refine plan_take (v := ?_) rfl (by rfl) ?_ ?_
      rotate_left
      · intro _ hSw; (try dsimp only at hSw); go_simp; (try with_reducible rfl)
      simp only [List.setIfInBounds_toArray, List.set_cons_zero, List.set_cons_succ]
      refine plan_take (v := ?_) rfl (by rfl) ?_ ?_
      rotate_left
      · intro _ hSw; (try dsimp only at hSw); have c1 := (HC.out _ hSw).2; go_simp; (try with_reducible rfl)
      simp only [List.setIfInBounds_toArray, List.set_cons_zero, List.set_cons_succ]
      refine plan_take (v := ?_) rfl (by rfl) ?_ ?_
      rotate_left
      · intro _ hSw; (try dsimp only at hSw); go_simp; (try with_reducible rfl)
      simp only [List.setIfInBounds_toArray, List.set_cons_zero, List.set_cons_succ]
      (refine hPE _ _ ?_; simp only [List.drop_succ_cons, List.drop_zero]; clear hPE PE)
      go_wp2_with fail
      go_roundw
      case rel => exact ⟨i1, congrArg (Value.int .i64) hw1, by have := HLT.out; have := HI1.out; omega, HI2⟩
      case measure => exact meas_up hw1 HI1.out HLT.out
    · have hli : ¬ (i : Int) < (l.length : Int) := by omega
      clear hi hlt
      go_wp2_with fail
      go_ret
      exact ⟨rfl, HI.out⟩
theorem IRow.stored {w : World} {base g n cap : Nat} {xs : List Int} (h : IRow w base (.slice (some ⟨g, 0, none⟩) n cap) xs) (hn : xs.length = n) (i : Nat) (y : Int) : IRow (w.setCell ⟨g, i, none⟩ (.int .i64 y)) base (.slice (some ⟨g, 0, none⟩) n cap) (xs.set i y) := by
  subst hn
  have h0 : w.ownsRow base 3 1 (.slice (some ⟨g, 0, none⟩) xs.length cap) xs.length (xs.map intV) := h
  have h1 := (h0.stored i (.int .i64 y)).1
  unfold IRow
  rw [List.length_set, List.map_set]
  exact h1
set_option maxRecDepth 100000 in
theorem kit_OverInts (w : World) (base : Nat) (v : Value) (l : List Int) (h : IRow w base v l) (hl : l.length ≤ 1000) :
    Calls Tryz.prog 15 #[v] w fun e w' => (∃ u, e = .returned u) ∧ (∃ l', IRow w' base v l') ∧ Turn (fun b => v.ownBlock = some b) w w' := by
  have HL := Lib.hid hl
  have H := Lib.hid h
  rcases Nat.eq_zero_or_pos l.length with he | he
  · obtain ⟨A, c, rfl, _⟩ := h.shape
    rw [he]
    rw [he] at H
    clear h hl he
    go_enter Tryz.func15, Tryz.ntmps15
    go_wp2
    go_loopw [2] (fun v2 wr => v2 = .int .i64 0 ∧ wr = w) (fun _ _ => 0)
    case atStart => exact ⟨rfl, rfl⟩
    case round =>
      obtain ⟨rfl, rfl⟩ := hrel
      go_wp2
      go_end0
      exact ⟨⟨_, rfl⟩, ⟨_, H.out⟩, Turn.refl _ _⟩
  · obtain ⟨g, cap, rfl, _, _⟩ := row_shape h he
    obtain ⟨n, hn⟩ : ∃ n, l.length = n := ⟨_, rfl⟩
    rw [hn] at H HL ⊢
    have HN := Lib.hid hn
    have HT0 := Lib.hid (Turn.refl (fun b => (Value.slice (some ⟨g, 0, none⟩) n cap).ownBlock = some b) w)
    clear h hl he hn
    go_enter Tryz.func15, Tryz.ntmps15
    go_wp2_with fail
    go_loopw [2] (fun v2 wr => ∃ (i : Nat) (xs : List Int), v2 = .int .i64 (i : Int) ∧ i ≤ n ∧ xs.length = n ∧ Hid (IRow wr base (.slice (some ⟨g, 0, none⟩) n cap) xs) ∧ Hid (Turn (fun b => (Value.slice (some ⟨g, 0, none⟩) n cap).ownBlock = some b) w wr)) (fun v2 _ => n - (ixOf v2).toNat)
    case atStart => exact ⟨0, l, rfl, Nat.zero_le _, HN.out, H, HT0⟩
    case round =>
      obtain ⟨i, xs, rfl, hi, hxl, HR, HT⟩ := hrel
      by_cases hlt : i < n
      · have hli : (i : Int) < (n : Int) := by omega
        have hi0 : ¬ (i : Int) < 0 := by omega
        obtain ⟨i1, hi1⟩ : ∃ i1, i + 1 = i1 := ⟨_, rfl⟩
        have hw1 : wrap64 ((i : Int) + 1) = (i1 : Int) := by have := HL.out; rw [wrap64_id (by omega) (by omega)]; omega
        have HI1 := Lib.hid hi1
        clear hi1
        have hR2 : wr.ownsRow base 3 1 (.slice (some ⟨g, 0, none⟩) n cap) n (xs.map intV) := by have h1 := HR.out; unfold IRow at h1; rw [hxl] at h1; exact h1
        have c0 := hR2.cellAt i (by omega)
        have f0 := hR2.frozenAt i
        rw [List.getElem?_map, List.getElem?_eq_getElem (by omega : i < xs.length)] at c0
        obtain ⟨y, hy⟩ : ∃ y, xs[i] = y := ⟨_, rfl⟩
        rw [hy] at c0
        have HLT := Lib.hid hlt
        have HXL := Lib.hid hxl
        clear hi hR2 hy hxl hlt
        go_wp2_with fail
        go_roundw
        case rel => exact ⟨i1, xs.set i (-77), congrArg (Value.int .i64) hw1, by have := HLT.out; have := HI1.out; omega, by simpa using HXL.out, Lib.hid (HR.out.stored HXL.out i (-77)), Lib.hid (HT.out.set (p := ⟨g, i, none⟩) (Or.inl rfl) _)⟩
        case measure => exact meas_up hw1 HI1.out HLT.out
      · have hli : ¬ (i : Int) < (n : Int) := by omega
        clear hi hlt
        go_wp2_with fail
        go_end0
        exact ⟨⟨_, rfl⟩, ⟨_, HR.out⟩, HT.out⟩
end Go.Proofs.YtklelheejopfmaaGreat
namespace Go.Proofs.YtklelheejopfmaaGreat
open Go Go.RowKit
attribute [local go_sem] Oper.semAt_some
/-- the same, but no panic -/
structure NoPanic (Q : Exit → Act → World → Prop) (e : Exit) (a : Act) (w : World) : Prop where
  q : Q e a w
  np : ∀ c, e ≠ .panic c
theorem NoPanic.to (Q : Exit → Act → World → Prop) : ∀ e a w, NoPanic Q e a w → Q e a w := fun _ _ _ h => h.q
theorem NoPanic.no (Q : Exit → Act → World → Prop) : ∀ c a d v w, NoPanic Q (.panic c) (Act.put a d v) w → NoPanic Q (.panic c) a w := fun c _ _ _ _ h => absurd rfl (h.np c)
@[go_sem] theorem NoPanic_normal (Q : Exit → Act → World → Prop) (a : Act) (w : World) : NoPanic Q .normal a w = Q .normal a w := propext ⟨fun h => h.q, fun h => ⟨h, fun c h => by cases h⟩⟩
/-- between two rounds: what is free, what is wanted, the row so far. -/
structure PlF (w : World) (b9 : Nat) (V : List Hd) (free want : Int) (pre : List Hd) (v : Value) (f : Int) (W : World) : Prop where
  p4 : Blk W w.heap.size 3 #[.int .i64 f]
  p5 : Blk W (w.heap.size + 1) 3 #[.int .i64 want]
  p9 : Blk W b9 40 #[v]
  row : IRow W (b9 + 2) v (pre.map (·.1))
  bel : Below w.heap.size w W
  sz : b9 + 2 ≤ W.heap.size
  pl : planOut V free want = pre.map (·.1) ++ planOut (V.drop pre.length) f want
  f0 : 0 ≤ f
  f1 : f ≤ 10000 + 64 * pre.length
def PlI (w : World) (b9 : Nat) (V : List Hd) (free want : Int) (pre : List Hd) (W : World) : Prop := ∃ v f, PlF w b9 V free want pre v f W
def PlM (w : World) (b9 : Nat) (W : World) (i : Nat) : Prop := i = w.heap.size ∨ i = b9 ∨ ∃ v, Blk W b9 40 #[v] ∧ v.ownBlock = some i
def PlX (w : World) (b9 : Nat) (V : List Hd) (free want : Int) (c : Code) (p : List Hd) (W : World) : Prop := c = .exit 0 ∧ ∃ q x v f, p = q ++ [x] ∧ PlF w b9 V free want q v f W ∧ want ≤ f
section
variable {w : World} {b9 : Nat} {V : List Hd} {free want : Int}
theorem plF_kept {B : Nat} (hB : w.heap.size ≤ B) {pre : List Hd} {v : Value} {f : Int} {A W : World} {row : Option Nat} (h : PlF w b9 V free want pre v f A) (hg : A.grownBy W row) (hr : ∀ r, row = some r → B ≤ r ∧ ∃ o : Obj, A.heap[r]? = some o ∧ o.isCells = false) : PlF w b9 V free want pre v f W := by
  have hr' : ∀ r, row = some r → ∃ o : Obj, A.heap[r]? = some o ∧ o.isCells = false := fun r e => (hr r e).2
  exact ⟨blk_kept hg hr' h.p4, blk_kept hg hr' h.p5, blk_kept hg hr' h.p9, row_kept hg hr' h.row, h.bel.grown hg h.bel.size (fun k e => Nat.le_trans hB (hr k e).1), Nat.le_trans h.sz hg.size, h.pl, h.f0, h.f1⟩
theorem plI_own {B : Nat} (hB : w.heap.size ≤ B) : OwnFrom B (PlI w b9 V free want) := by
  intro pre A W row ⟨v, f, h⟩ hg hr
  exact ⟨v, f, plF_kept hB h hg hr⟩
theorem plX_own {B : Nat} (hB : w.heap.size ≤ B) (c : Code) : OwnFrom B (PlX w b9 V free want c) := by
  intro pre A W row ⟨hc, q, x, v, f, hp, h, hf⟩ hg hr
  exact ⟨hc, q, x, v, f, hp, plF_kept hB h hg hr, hf⟩
theorem blk_val {A : World} {t : TypeId} {b : Nat} {v v' : Value} (h : Blk A b t #[v]) (h' : Blk A b t #[v']) : v = v' := by
  unfold Blk at h h'
  rw [h] at h'
  cases h'; rfl
theorem plM_same {pre : List Hd} {A B : World} {row : Option Nat} (hI : PlI w b9 V free want pre A) (hg : A.grownBy B row) (hr : ∀ r, row = some r → ∃ o : Obj, A.heap[r]? = some o ∧ o.isCells = false) : ∀ i, PlM w b9 B i → PlM w b9 A i := by
  obtain ⟨v, f, h⟩ := hI
  rintro i (rfl | rfl | ⟨v', h2, h3⟩)
  · exact .inl rfl
  · exact .inr (.inl rfl)
  · refine .inr (.inr ⟨v, h.p9, ?_⟩)
    rw [blk_val (blk_kept hg hr h.p9) h2]
    exact h3
theorem plI_turn (hb : w.heap.size + 1 < b9) (own : Nat → Prop) (pre : List Hd) (A B : World) (hI : PlI w b9 V free want pre A) (ht : Turn own A B) (ho : ∀ i, own i → b9 + 2 + 2 ≤ i ∧ ¬ PlM w b9 A i) : PlI w b9 V free want pre B ∧ ∀ i, PlM w b9 B i → PlM w b9 A i := by
  obtain ⟨v, f, h⟩ := hI
  have h9 : Blk B b9 40 #[v] := ht.blk h.p9 (fun hh => by have := (ho _ hh).1; omega)
  refine ⟨⟨v, f, ht.blk h.p4 (fun hh => by have := (ho _ hh).1; omega), ht.blk h.p5 (fun hh => by have := (ho _ hh).1; omega), h9, ?_, ?_, Nat.le_trans h.sz ht.size, h.pl, h.f0, h.f1⟩, ?_⟩
  · refine ⟨h.row.1, ?_⟩
    rcases h.row.2 with h2 | ⟨g, cap, cur, hv, hbg, hh, r⟩
    · exact .inl h2
    · have hl : g < A.heap.size := by
        rcases Nat.lt_or_ge g A.heap.size with hlt | hge
        · exact hlt
        · rw [Array.getElem?_eq_none hge] at hh; cases hh
      exact .inr ⟨g, cap, cur, hv, hbg, (ht.block g hl (fun hh => (ho _ hh).2 (.inr (.inr ⟨v, h.p9, by rw [hv]; rfl⟩)))).trans hh, r⟩
  · exact ⟨ht.os.trans h.bel.os, ht.tape.trans h.bel.tape, ht.output.trans h.bel.output, Nat.le_trans h.bel.size ht.size, fun k hk => (ht.block k (Nat.lt_of_lt_of_le hk h.bel.size) (fun hh => by have := (ho _ hh).1; omega)).trans (h.bel.block k hk)⟩
  · rintro i (rfl | rfl | ⟨v', h2, h3⟩)
    · exact .inl rfl
    · exact .inr (.inl rfl)
    · exact .inr (.inr ⟨v, h.p9, by rw [blk_val h9 h2]; exact h3⟩)
theorem plM_out {pre : List Hd} {A : World} (hI : PlI w b9 V free want pre A) : ∀ i, PlM w b9 A i → (i = w.heap.size ∨ i = b9 ∨ b9 + 2 ≤ i) ∧ i < A.heap.size := by
  obtain ⟨v, f, h⟩ := hI
  rintro i (rfl | rfl | ⟨v', h2, h3⟩)
  · exact ⟨.inl rfl, h.p4.lt⟩
  · exact ⟨.inr (.inl rfl), h.p9.lt⟩
  · rw [← blk_val h.p9 h2] at h3
    have := h.row.lt i h3
    exact ⟨.inr (.inr this.1), this.2⟩
/-- a round that drives one out. -/
theorem pl_round {W w5 : World} {pre : List Hd} {x : Hd} {v v5 : Value} {f f' : Int} {B l : Nat} (hb : w.heap.size + 1 < b9) (h : PlF w b9 V free want pre v f W) (hpre : pre ++ [x] <+: V) (hx : 0 ≤ x.2 ∧ x.2 ≤ 64) (hf : f < want) (hf' : f' = f + x.2)
    (ho : w5.ownsRow (b9 + 2) 3 1 v5 (pre.length + 1) ((pre.map (·.1)).map intV ++ [intV x.1])) (hg : (W.alloc (.cells #[intV x.1] 3)).grownBy w5 v.ownBlock)
    (hor : v5.ownBlock = v.ownBlock ∨ v5.ownBlock = some (W.alloc (.cells #[intV x.1] 3)).heap.size) :
    KeepsFrom B W ((w5.setCell ⟨b9, 0, none⟩ v5).setCell ⟨w.heap.size, 0, none⟩ (.int .i64 f')) ∧ Fr (fun A i => i = l ∨ PlM w b9 A i) W ((w5.setCell ⟨b9, 0, none⟩ v5).setCell ⟨w.heap.size, 0, none⟩ (.int .i64 f')) ∧
      PlI w b9 V free want (pre ++ [x]) ((w5.setCell ⟨b9, 0, none⟩ v5).setCell ⟨w.heap.size, 0, none⟩ (.int .i64 f')) := by
  have hrow : W.ownsRow (b9 + 2) 3 1 v (pre.map (·.1)).length ((pre.map (·.1)).map intV) := h.row
  have hne4 : v.ownBlock ≠ some w.heap.size := fun e => by have := (hrow.lt _ e).1; omega
  have hne5 : v.ownBlock ≠ some (w.heap.size + 1) := fun e => by have := (hrow.lt _ e).1; omega
  have hne9 : v.ownBlock ≠ some b9 := own_blk_ne hrow h.p9 (by decide)
  have k4 : Blk w5 w.heap.size 3 #[.int .i64 f] := (h.p4.alloc _).grown hg hne4
  have k5 : Blk w5 (w.heap.size + 1) 3 #[.int .i64 want] := (h.p5.alloc _).grown hg hne5
  have k9 : Blk w5 b9 40 #[v] := (h.p9.alloc _).grown hg hne9
  have m4 : v5.ownBlock ≠ some w.heap.size := fun e => by have := (ho.lt _ e).1; omega
  have m9 : v5.ownBlock ≠ some b9 := own_blk_ne ho k9 (by decide)
  have hsz : W.heap.size + 1 ≤ w5.heap.size := by have := hg.size; rwa [World.size_alloc] at this
  have n9 : Blk ((w5.setCell ⟨b9, 0, none⟩ v5).setCell ⟨w.heap.size, 0, none⟩ (.int .i64 f')) b9 40 #[v5] := (k9.set_ 0 v5).far (p := ⟨w.heap.size, 0, none⟩) (by show b9 ≠ w.heap.size; omega) _
  have n4 : Blk ((w5.setCell ⟨b9, 0, none⟩ v5).setCell ⟨w.heap.size, 0, none⟩ (.int .i64 f')) w.heap.size 3 #[.int .i64 f'] := (k4.far (p := ⟨b9, 0, none⟩) (by show w.heap.size ≠ b9; omega) v5).set_ 0 _
  have n5 : Blk ((w5.setCell ⟨b9, 0, none⟩ v5).setCell ⟨w.heap.size, 0, none⟩ (.int .i64 f')) (w.heap.size + 1) 3 #[.int .i64 want] := (k5.far (p := ⟨b9, 0, none⟩) (by show w.heap.size + 1 ≠ b9; omega) v5).far (p := ⟨w.heap.size, 0, none⟩) (by show w.heap.size + 1 ≠ w.heap.size; omega) _
  have hlen : pre.length < V.length := by have := hpre.length_le; simp at this; omega
  have hdr : V.drop pre.length = x :: V.drop (pre.length + 1) := by
    obtain ⟨r, hr⟩ := hpre
    rw [← hr, List.append_assoc, List.drop_left]
    have e : pre.length + 1 = (pre ++ [x]).length := by simp
    rw [e, ← List.append_assoc, List.drop_left]
    rfl
  refine ⟨?_, ⟨?_, ?_, ?_⟩, v5, f', n4, n5, n9, ?_, ?_, ?_, ?_, ?_, ?_⟩
  · exact ((KeepsOthers.alloc W _).from B).trans ((keeps_grown (hrow.alloc _) hg).trans (((KeepsOthers.setCell w5 _ _).from B).trans ((KeepsOthers.setCell _ _ _).from B)))
  · rw [World.size_setCell, World.size_setCell]; omega
  · intro i hi hm
    have h4 : i ≠ w.heap.size := fun e => hm (.inr (.inl e))
    have h9 : i ≠ b9 := fun e => hm (.inr (.inr (.inl e)))
    have h5 : some i ≠ v.ownBlock := fun e => hm (.inr (.inr (.inr ⟨v, h.p9, e.symm⟩)))
    rw [Below.heap_setCell _ _ _ _ h4, Below.heap_setCell _ _ _ _ h9, hg.block i (by rw [World.size_alloc]; omega) h5, Below.heap_alloc _ _ _ hi]
  · rintro i (hm | hm | hm | ⟨v', hv', hbb⟩) hi
    · exact .inl hm
    · exact .inr (.inl hm)
    · exact .inr (.inr (.inl hm))
    · rw [← blk_val n9 hv'] at hbb
      rcases hor with hh | hh
      · exact .inr (.inr (.inr ⟨v, h.p9, by rw [← hh]; exact hbb⟩))
      · rw [hh, World.size_alloc] at hbb
        cases hbb
        omega
  · have h1 := own_set (own_set ho ⟨b9, 0, none⟩ v5 m9) ⟨w.heap.size, 0, none⟩ (.int .i64 f') m4
    unfold IRow
    rw [List.map_append, List.length_append, List.map_append, List.length_map]
    exact h1
  · exact ((below_app (h.bel.alloc h.bel.size _) (hrow.alloc _) hg (by rw [World.size_alloc]; have := h.bel.size; omega) (by omega)).setCell (p := ⟨b9, 0, none⟩) (by show w.heap.size ≤ b9; omega) _).setCell (p := ⟨w.heap.size, 0, none⟩) (Nat.le_refl _) _
  · rw [World.size_setCell, World.size_setCell]; have := h.sz; omega
  · rw [h.pl, hdr, planOut, if_neg (by omega), List.map_append, List.length_append, hf']
    simp
  · have := h.f0; omega
  · have := h.f1; rw [List.length_append, List.length_singleton]; push_cast; omega
theorem PlF.own {w W : World} {b9 : Nat} {V : List Hd} {free want : Int} {pre : List Hd} {v : Value} {f : Int} (h : PlF w b9 V free want pre v f W) : W.ownsRow (b9 + 2) 3 1 v pre.length ((pre.map (·.1)).map intV) := by
  have h1 := h.row
  unfold IRow at h1
  rwa [List.length_map] at h1
end
end Go.Proofs.YtklelheejopfmaaGreat
