/- MGetL, PenP, AtP -/
import Derived.Test.YtcojnigkgbmbmaaGreatDoorK33
import Derived.Test.YtcojnigkgbmbmaaGreatDoorK03
import Derived.Test.YtcojnigkgbmbmaaGreatDoorK13
namespace Go.Proofs.YtcojnigkgbmbmaaGreatDoor
open Go Go.RowKit
theorem findR_nil : ∀ {cs : List (List UInt8)} {ns : List Int}, (∀ c ∈ cs, c ≠ []) → findR [] cs ns = none
  | [], _, _ => by rw [findR.eq_def]
  | _ :: _, [], _ => by rw [findR.eq_def]
  | c :: cs, n :: ns, h => by
    rw [findR]
    have : c.isPrefixOf ([] : List UInt8) = false := by
      have := h c (by simp)
      cases c with
      | nil => exact absurd rfl this
      | cons _ _ => rfl
    rw [this, if_neg (by decide)]
    exact findR_nil (fun d hd => h d (List.mem_cons_of_mem _ hd))
theorem treeR_over {cs : List (List UInt8)} {ns : List Int} {l : List UInt8} {i : Int} (hc : ∀ c ∈ cs, c ≠ []) (h : 8 * (l.length : Int) < i) : (treeR cs ns l i).2.1 = 0 ∧ (treeR cs ns l i).2.2 ≠ 0 := by
  unfold treeR getT
  rw [if_neg (by omega)]
  have e : min 24 (8 * l.length - i.toNat) = 0 := by omega
  rw [e, show bitsL l i.toNat 0 = [] from rfl, findR_nil hc]
  dsimp only
  split <;> exact ⟨rfl, by decide⟩
theorem kindC_ne : ∀ c ∈ kindC, c ≠ [] := by decide +kernel
theorem stpS_v (l : List UInt8) (s : RdS) (v : Value) (t : Nat) : stpS l { s with v := v } t = (({ (stpS l s t).1.1 with v := v }, (stpS l s t).1.2), (stpS l s t).2) := by
  match t with
  | 0 => rfl
  | 1 =>
    show (if 8 * (l.length : Int) < s.a + 5 then _ else _) = ((({ (if 8 * (l.length : Int) < s.a + 5 then (({ s with a := s.a + 5, qu := 0 }, []), (5 : Int)) else (({ s with a := s.a + 5, qu := ((numN l s.a.toNat 5 : Nat) : Int) }, ([] : List BlkM)), if ((numN l s.a.toNat 5 : Nat) : Int) == 0 then (9 : Int) else 0)).1.1 with v := v } : RdS), (if 8 * (l.length : Int) < s.a + 5 then (({ s with a := s.a + 5, qu := 0 }, []), (5 : Int)) else (({ s with a := s.a + 5, qu := ((numN l s.a.toNat 5 : Nat) : Int) }, ([] : List BlkM)), if ((numN l s.a.toNat 5 : Nat) : Int) == 0 then (9 : Int) else 0)).1.2), (if 8 * (l.length : Int) < s.a + 5 then (({ s with a := s.a + 5, qu := 0 }, []), (5 : Int)) else (({ s with a := s.a + 5, qu := ((numN l s.a.toNat 5 : Nat) : Int) }, ([] : List BlkM)), if ((numN l s.a.toNat 5 : Nat) : Int) == 0 then (9 : Int) else 0)).2)
    split <;> rfl
  | 2 =>
    show (if (treeR vecC vecN l s.a).2.2 != 0 then _ else _) = ((({ (if (treeR vecC vecN l s.a).2.2 != 0 then ((s, []), (treeR vecC vecN l s.a).2.2) else (({ s with a := s.a + (treeR vecC vecN l s.a).2.1, mx := (turnP s.x (treeR vecC vecN l s.a).1).1 }, ([] : List BlkM)), (turnP s.x (treeR vecC vecN l s.a).1).2)).1.1 with v := v } : RdS), (if (treeR vecC vecN l s.a).2.2 != 0 then ((s, []), (treeR vecC vecN l s.a).2.2) else (({ s with a := s.a + (treeR vecC vecN l s.a).2.1, mx := (turnP s.x (treeR vecC vecN l s.a).1).1 }, ([] : List BlkM)), (turnP s.x (treeR vecC vecN l s.a).1).2)).1.2), (if (treeR vecC vecN l s.a).2.2 != 0 then ((s, []), (treeR vecC vecN l s.a).2.2) else (({ s with a := s.a + (treeR vecC vecN l s.a).2.1, mx := (turnP s.x (treeR vecC vecN l s.a).1).1 }, ([] : List BlkM)), (turnP s.x (treeR vecC vecN l s.a).1).2)).2)
    split <;> rfl
  | 3 =>
    show (if (treeR vecC vecN l s.a).2.2 != 0 then _ else _) = ((({ (if (treeR vecC vecN l s.a).2.2 != 0 then ((s, []), (treeR vecC vecN l s.a).2.2) else (({ s with a := s.a + (treeR vecC vecN l s.a).2.1, my := (turnP s.y (treeR vecC vecN l s.a).1).1 }, ([] : List BlkM)), (turnP s.y (treeR vecC vecN l s.a).1).2)).1.1 with v := v } : RdS), (if (treeR vecC vecN l s.a).2.2 != 0 then ((s, []), (treeR vecC vecN l s.a).2.2) else (({ s with a := s.a + (treeR vecC vecN l s.a).2.1, my := (turnP s.y (treeR vecC vecN l s.a).1).1 }, ([] : List BlkM)), (turnP s.y (treeR vecC vecN l s.a).1).2)).1.2), (if (treeR vecC vecN l s.a).2.2 != 0 then ((s, []), (treeR vecC vecN l s.a).2.2) else (({ s with a := s.a + (treeR vecC vecN l s.a).2.1, my := (turnP s.y (treeR vecC vecN l s.a).1).1 }, ([] : List BlkM)), (turnP s.y (treeR vecC vecN l s.a).1).2)).2)
    split <;> rfl
  | 4 => rfl
  | _ + 5 => rfl
theorem final5 (l : List UInt8) {s0 s : RdS} {bl : List BlkM} (h : runS l (tagsS l s0) s0 [] = ((s, bl), 0)) : ahdS s 5 = s := by
  cases hI : s.pt.1 with
  | false => unfold ahdS; rw [hI, if_neg (by simp)]
  | true =>
    have h' := h
    unfold tagsS at h'
    obtain ⟨k0, h1⟩ := runS_first l h'
    have hn : ∀ k : Nat, 0 ∉ nxtS (stpS l s0 0).1.1 ++ List.replicate k 5 := fun k hm => by
      rcases List.mem_append.1 hm with hm | hm
      · revert hm
        unfold nxtS
        cases (stpS l s0 0).1.1.pt.2.1 <;> cases (stpS l s0 0).1.1.pt.2.2.1 <;> cases (stpS l s0 0).1.1.pt.2.2.2.2 <;> simp
      · have := List.eq_of_mem_replicate hm; cases this
    have hpt := runS_pt l _ h1 (hn _)
    have h2 := h1
    rw [runS_app] at h2
    split at h2
    · rename_i he
      rw [h2] at he
      cases he
    · rename_i he
      have he : (runS l (nxtS (stpS l s0 0).1.1) (stpS l s0 0).1.1 []).2 = 0 := by simpa using he
      have h3 : runS l (nxtS (stpS l s0 0).1.1) (stpS l s0 0).1.1 [] = (((runS l (nxtS (stpS l s0 0).1.1) (stpS l s0 0).1.1 []).1.1, (runS l (nxtS (stpS l s0 0).1.1) (stpS l s0 0).1.1 []).1.2), 0) := by rw [← he]
      have hpm := runS_pt l _ h3 (fun hm => hn 0 (by simpa using hm))
      have e63 : (ahdS (runS l (nxtS (stpS l s0 0).1.1) (stpS l s0 0).1.1 []).1.1 5).pa = 63 := by
        unfold ahdS
        rw [hpm, ← hpt, hI, if_pos ⟨by decide, rfl⟩]
      have e6 : tagsS l s0 = (0 :: (nxtS (stpS l s0 0).1.1 ++ List.replicate 5 5)) ++ [5] := by
        unfold tagsS
        rw [e63, show cntP 63 = 6 from by decide, List.cons_append, List.append_assoc]
        rfl
      rw [e6] at h
      exact runS_end5 l h
theorem tags_pre (l : List UInt8) (s0 : RdS) {ts : List Nat} {t : Nat} (h : ts ++ [t] <+: tagsS l s0) : (ts = [] ∧ t = 0) ∨ (∃ us, ts = 0 :: us ∧ 0 ∉ us ∧ t ≠ 0 ∧ t ≤ 5) := by
  have hn : ∀ m ∈ nxtS (stpS l s0 0).1.1 ++ List.replicate (cntP (ahdS (runS l (nxtS (stpS l s0 0).1.1) (stpS l s0 0).1.1 []).1.1 5).pa) 5, m ≠ 0 ∧ m ≤ 5 := fun m hm => by
    rcases List.mem_append.1 hm with hm | hm
    · revert hm
      unfold nxtS
      cases (stpS l s0 0).1.1.pt.2.1 <;> cases (stpS l s0 0).1.1.pt.2.2.1 <;> cases (stpS l s0 0).1.1.pt.2.2.2.2 <;> simp <;> omega
    · have := List.eq_of_mem_replicate hm; omega
  unfold tagsS at h
  generalize nxtS (stpS l s0 0).1.1 ++ List.replicate (cntP (ahdS (runS l (nxtS (stpS l s0 0).1.1) (stpS l s0 0).1.1 []).1.1 5).pa) 5 = R at h hn
  cases ts with
  | nil =>
    rw [List.nil_append] at h
    exact .inl ⟨rfl, (List.cons_prefix_cons.1 h).1⟩
  | cons u us =>
    rw [List.cons_append] at h
    obtain ⟨rfl, h2⟩ := List.cons_prefix_cons.1 h
    have ht := hn t (h2.subset (by simp))
    exact .inr ⟨us, rfl, fun hm => (hn 0 (h2.subset (by simp [hm]))).1 rfl, ht.1, ht.2⟩
theorem stp_kind2 {w0 W : World} {g : Nat} {A : Option Addr} {n c : Nat} {l : List UInt8} {s : RdS} {xs : List BkE} (h : RdW w0 g A n c s xs W) (hg : w0.heap.size ≤ g) (hA : Sl w0 A (l.map byteV)) (hn : l.length = n) (hsz : n ≤ 2 ^ 47) (h0 : 0 ≤ s.a) (h1 : s.a ≤ 9223372036854775807) :
    Calls Tryz.prog 72 #[.pointer (some ⟨g, 0, none⟩)] W (StpPost w0 g A n c l s xs 0 W) := by
  by_cases h8 : s.a ≤ 8 * (l.length : Int)
  · exact stp_kind h hg hA hn hsz h0 h8
  · have e := (treeR_over (ns := kindN) (l := l) (i := s.a) kindC_ne (by omega)).1
    refine (rd_kind g A n c l s W h.cell (hA.below h.below) hn hsz (by omega) s.a (by rw [e, Int.add_zero, IntKind.wrap_i64]; omega)).mono ?_
    rintro e' W' ⟨rfl, hc, ht⟩
    refine stp_turn h hg ht rfl ?_ rfl rfl
    have e2 : (stpS l s 0).1.1 = { s with a := s.a + (treeR kindC kindN l s.a).2.1, kd := (treeR kindC kindN l s.a).1, pt := ptK (treeR kindC kindN l s.a).1 } := rfl
    rw [e2, e, Int.add_zero] at *
    exact hc
theorem rdi_own {β : Type} {w0 : World} {g : Nat} {A : Option Addr} {n c : Nat} {l : List UInt8} {s0 : RdS} {L : List CellF} {B : Nat} (hB : w0.heap.size ≤ B) (f : β → List Nat) (u : Nat) : OwnFrom B (fun pre W => RdI w0 g A n c l s0 L (f pre) u W) := by
  rintro pre W W' row ⟨⟨s, bl, v, xs, h1, hr, h3⟩, hc⟩ hg hrow
  refine ⟨⟨s, bl, v, xs, h1, ⟨?_, ?_, ?_, fun p hp => ?_⟩, h3⟩, ?_⟩
  · exact below_grown' hr.below hg (fun r e => Nat.le_trans hB (hrow r e).1) hr.below.size
  · exact blk_grown' hr.cell hg (fun r e => (hrow r e).2)
  · exact own_grown' hr.row hg (fun r e => (hrow r e).2)
  · exact own_grown' (hr.bl p hp) hg (fun r e => (hrow r e).2)
  · exact hc.grown hg (fun r e => (hrow r e).2)
theorem ptb_own {β : Type} {g : Nat} {x0 y0 : Int} {B : Nat} (x : SEl) : OwnFrom B (fun (_ : β) W => PtB g x0 y0 x W) := by
  rintro pre W W' row h hg hrow
  obtain ⟨t, b0, b1, b2⟩ := x
  match t with
  | 0 => trivial
  | 1 => trivial
  | 2 => exact ⟨blk_grown' h.1 hg (fun r e => (hrow r e).2), blk_grown' h.2.1 hg (fun r e => (hrow r e).2), blk_grown' h.2.2 hg (fun r e => (hrow r e).2)⟩
  | 3 => exact ⟨blk_grown' h.1 hg (fun r e => (hrow r e).2), blk_grown' h.2.1 hg (fun r e => (hrow r e).2), blk_grown' h.2.2 hg (fun r e => (hrow r e).2)⟩
  | 4 => trivial
  | _ + 5 => trivial
/-- what a step comes to, for the consumer. -/
structure RdE (w0 : World) (g : Nat) (A : Option Addr) (n c : Nat) (l : List UInt8) (s0 : RdS) (L : List CellF) (ts : List Nat) (t : Nat) (er : Int) (W' : World) : Prop where
  below : Below w0.heap.size w0 W'
  cl : CellsAt L W'
  st : ∃ s : RdS, Blk W' g 61 (rdC A n c s) ∧ s.pt = (stpS l s0 0).1.1.pt ∧ s.x = s0.x ∧ s.y = s0.y
  ok : er = 0 → RdI w0 g A n c l s0 L (ts ++ [t]) 0 W'
  no : er ≠ 0 → (rdAll l s0).2 = er
theorem rdi_call {w0 W : World} {g : Nat} {A : Option Addr} {n c : Nat} {l : List UInt8} {s0 : RdS} {L : List CellF} {ts : List Nat} {t f : Nat} {args : Array Value} (hI : RdI w0 g A n c l s0 L ts t W) (hts : ts ++ [t] <+: tagsS l s0) (hL : ∀ q ∈ L, q.2.1 ≠ 81 ∧ q.1 ≠ g)
    (hc : ∀ s v bl xs, runS l ts s0 [] = ((s, bl), 0) → RdW w0 g A n c { ahdS s t with v := v } xs W → xs.map (·.1) = bl → Calls Tryz.prog f args W (StpPost w0 g A n c l { ahdS s t with v := v } xs t W)) :
    Calls Tryz.prog f args W fun e W' => ∃ er, e = .returned (.int .i64 er) ∧ (∀ B, KeepsFrom B W W') ∧ RdE w0 g A n c l s0 L ts t er W' := by
  obtain ⟨⟨s, bl, v, xs, h1, hr, h3⟩, hcl⟩ := hI
  refine (hc s v bl xs h1 hr h3).mono ?_
  rintro e W' ⟨hret, ⟨v', xs', hr', hx'⟩, hkeep, hkf⟩
  have ev := stpS_v l (ahdS s t) v t
  rw [ev] at hret hr' hx'
  dsimp only at hret hr' hx'
  have hsn := runS_snoc l (t := t) h1
  refine ⟨_, hret, hkf, hr'.below, fun q hq => hkeep _ _ _ (hcl q hq) (hL q hq).1 (hL q hq).2, ⟨_, hr'.cell, ?_, ?_, ?_⟩, fun he => ?_, fun he => ?_⟩
  · show (stpS l (ahdS s t) t).1.1.pt = _
    rcases tags_pre l s0 hts with ⟨rfl, rfl⟩ | ⟨us, rfl, hus, ht, _⟩
    · simp only [runS, Prod.mk.injEq, and_true] at h1
      obtain ⟨rfl, rfl⟩ := h1
      rw [ahd_low s0 (by decide)]
    · rw [(stp_keep l (ahdS s t) t).2.2.1 ht, (ahd_keep s t).2.2.2.1, runS_pt0 l h1 hus]
  · show (stpS l (ahdS s t) t).1.1.x = _
    rw [(stp_keep l (ahdS s t) t).1, (ahd_keep s t).2.1, (runS_xy l _ h1).1]
  · show (stpS l (ahdS s t) t).1.1.y = _
    rw [(stp_keep l (ahdS s t) t).2.1, (ahd_keep s t).2.2.1, (runS_xy l _ h1).2]
  · rw [he] at hsn
    refine ⟨⟨_, _, v', xs', hsn, ?_, by rw [hx', h3]⟩, fun q hq => hkeep _ _ _ (hcl q hq) (hL q hq).1 (hL q hq).2⟩
    rw [ahd_low _ (by decide)]
    exact hr'
  · rw [rdAll_run]
    exact runS_pre l h1 hts he
end Go.Proofs.YtcojnigkgbmbmaaGreatDoor
namespace Go.Proofs.YtcojnigkgbmbmaaGreatDoor
open Go Go.RowKit
def bitD (L : List UInt8) (k : Nat) : Nat := if L[k]? = some 49 then 1 else 0
theorem bitD_lt (L : List UInt8) (k : Nat) : bitD L k < 2 := by unfold bitD; split <;> omega
def byteP (L : List UInt8) (j : Nat) : Nat := 128 * bitD L (8 * j) + 64 * bitD L (8 * j + 1) + 32 * bitD L (8 * j + 2) + 16 * bitD L (8 * j + 3) + 8 * bitD L (8 * j + 4) + 4 * bitD L (8 * j + 5) + 2 * bitD L (8 * j + 6) + bitD L (8 * j + 7)
theorem byteP_lt (L : List UInt8) (j : Nat) : byteP L j < 256 := by
  have h0 := bitD_lt L (8 * j); have h1 := bitD_lt L (8 * j + 1); have h2 := bitD_lt L (8 * j + 2); have h3 := bitD_lt L (8 * j + 3)
  have h4 := bitD_lt L (8 * j + 4); have h5 := bitD_lt L (8 * j + 5); have h6 := bitD_lt L (8 * j + 6); have h7 := bitD_lt L (8 * j + 7)
  unfold byteP; omega
/-- the bytes of some bits. -/
def packL (L : List UInt8) : List UInt8 := (List.range ((L.length + 7) / 8)).map fun j => UInt8.ofNat (byteP L j)
theorem packL_length (L : List UInt8) : (packL L).length = (L.length + 7) / 8 := by simp [packL]
theorem packL_get (L : List UInt8) (j : Nat) (h : j < (L.length + 7) / 8) : (packL L)[j]? = some (UInt8.ofNat (byteP L j)) := by simp [packL, h]
theorem ofNat_toNat8 (n : Nat) (h : n < 256) : (UInt8.ofNat n).toNat = n := by simp [UInt8.toNat_ofNat']; omega
theorem bits8 (a b c d e f g h r : Nat) (ha : a < 2) (hb : b < 2) (hc : c < 2) (hd : d < 2) (he : e < 2) (hf : f < 2) (hg : g < 2) (hh : h < 2) (hr : r < 8) :
    (128 * a + 64 * b + 32 * c + 16 * d + 8 * e + 4 * f + 2 * g + h) / 2 ^ (7 - r) % 2 = if r = 0 then a else if r = 1 then b else if r = 2 then c else if r = 3 then d else if r = 4 then e else if r = 5 then f else if r = 6 then g else h := by
  match r, hr with
  | 0, _ => simp; omega
  | 1, _ => simp; omega
  | 2, _ => simp; omega
  | 3, _ => simp; omega
  | 4, _ => simp; omega
  | 5, _ => simp; omega
  | 6, _ => simp; omega
  | 7, _ => simp; omega
theorem bitN_pack (L : List UInt8) (k : Nat) (h : k < 8 * ((L.length + 7) / 8)) : bitN (packL L) k = bitD L k := by
  have hj : k / 8 < (L.length + 7) / 8 := by omega
  unfold bitN
  rw [List.getD, packL_get L _ hj, Option.getD_some, ofNat_toNat8 _ (byteP_lt L _)]
  unfold byteP
  rw [bits8 _ _ _ _ _ _ _ _ (k % 8) (bitD_lt _ _) (bitD_lt _ _) (bitD_lt _ _) (bitD_lt _ _) (bitD_lt _ _) (bitD_lt _ _) (bitD_lt _ _) (bitD_lt _ _) (by omega)]
  have hk : k = 8 * (k / 8) + k % 8 := by omega
  have hr : k % 8 < 8 := by omega
  generalize k % 8 = r at hk hr
  generalize k / 8 = j at hk
  subst hk
  match r, hr with
  | 0, _ => rfl
  | 1, _ => rfl
  | 2, _ => rfl
  | 3, _ => rfl
  | 4, _ => rfl
  | 5, _ => rfl
  | 6, _ => rfl
  | 7, _ => rfl
theorem bitD_over (L : List UInt8) (k : Nat) (h : L.length ≤ k) : bitD L k = 0 := by unfold bitD; rw [List.getElem?_eq_none h]; rfl
theorem bitD_app (L M : List UInt8) (k : Nat) : bitD (L ++ M) k = if k < L.length then bitD L k else bitD M (k - L.length) := by
  unfold bitD
  by_cases h : k < L.length
  · rw [if_pos h, List.getElem?_append_left h]
  · rw [if_neg h, List.getElem?_append_right (by omega)]
def bitB (c : UInt8) : Nat := if c = 49 then 1 else 0
theorem bitB_lt (c : UInt8) : bitB c < 2 := by unfold bitB; split <;> omega
theorem bitD_one (c : UInt8) : bitD [c] 0 = bitB c := by simp [bitD, bitB]
theorem byteP_snoc (L : List UInt8) (c : UInt8) (j : Nat) : byteP (L ++ [c]) j = byteP L j + if j = L.length / 8 then bitB c * 2 ^ (7 - L.length % 8) else 0 := by
  have key : ∀ k, bitD (L ++ [c]) k = bitD L k + if k = L.length then bitB c else 0 := fun k => by
    rw [bitD_app]
    by_cases h : k < L.length
    · rw [if_pos h, if_neg (by omega)]; rfl
    · rw [if_neg h, bitD_over L k (by omega)]
      by_cases h2 : k = L.length
      · subst h2; simp [bitD_one]
      · rw [if_neg h2, bitD_over _ _ (by simp; omega)]
  unfold byteP
  simp only [key]
  by_cases hj : j = L.length / 8
  · rw [if_pos hj]
    have hr : L.length % 8 < 8 := by omega
    have hk : L.length = 8 * j + L.length % 8 := by omega
    generalize L.length % 8 = r at hk hr
    rw [hk]
    match r, hr with
    | 0, _ => simp; omega
    | 1, _ => simp; omega
    | 2, _ => simp; omega
    | 3, _ => simp; omega
    | 4, _ => simp; omega
    | 5, _ => simp; omega
    | 6, _ => simp; omega
    | 7, _ => simp; omega
  · rw [if_neg hj]
    rw [if_neg (by omega), if_neg (by omega), if_neg (by omega), if_neg (by omega), if_neg (by omega), if_neg (by omega), if_neg (by omega), if_neg (by omega)]
    simp only [Nat.add_zero]
theorem byteP_over (L : List UInt8) (j : Nat) (h : L.length ≤ 8 * j) : byteP L j = 0 := by
  unfold byteP
  rw [bitD_over, bitD_over, bitD_over, bitD_over, bitD_over, bitD_over, bitD_over, bitD_over] <;> omega
theorem pack_snoc0 (L : List UInt8) (c : UInt8) (h : L.length % 8 = 0) : packL (L ++ [c]) = packL L ++ [UInt8.ofNat (bitB c * 2 ^ (7 - L.length % 8))] := by
  unfold packL
  have e : ((L ++ [c]).length + 7) / 8 = (L.length + 7) / 8 + 1 := by simp; omega
  rw [e, List.range_succ, List.map_append]
  congr 1
  · apply List.map_congr_left
    intro j hj
    rw [byteP_snoc, if_neg (by have := List.mem_range.1 hj; omega)]; rfl
  · simp only [List.map_cons, List.map_nil]
    rw [byteP_snoc, if_pos (by omega), byteP_over L _ (by omega), Nat.zero_add]
theorem pack_snoc1 (L : List UInt8) (c : UInt8) (h : L.length % 8 ≠ 0) : packL (L ++ [c]) = (packL L).set (L.length / 8) (UInt8.ofNat (byteP L (L.length / 8) + bitB c * 2 ^ (7 - L.length % 8))) := by
  have e : ((L ++ [c]).length + 7) / 8 = (L.length + 7) / 8 := by simp; omega
  apply List.ext_getElem?
  intro j
  by_cases hj : j < (L.length + 7) / 8
  · rw [packL_get _ _ (by rw [e]; exact hj), byteP_snoc]
    by_cases h2 : j = L.length / 8
    · rw [if_pos h2, h2, List.getElem?_set_self (by rw [packL_length]; omega)]
    · rw [if_neg h2, List.getElem?_set_ne (Ne.symm h2), packL_get _ _ hj]; rfl
  · rw [List.getElem?_eq_none (by rw [packL_length, e]; omega), List.getElem?_eq_none (by rw [List.length_set, packL_length]; omega)]
theorem byteP_low (L : List UInt8) (h : L.length % 8 ≠ 0) : byteP L (L.length / 8) % 2 ^ (8 - L.length % 8) = 0 := by
  have hr : L.length % 8 < 8 := by omega
  have hk : L.length = 8 * (L.length / 8) + L.length % 8 := by omega
  have ho : ∀ k, L.length ≤ k → bitD L k = 0 := fun k => bitD_over L k
  unfold byteP
  generalize L.length / 8 = j at hk
  generalize L.length % 8 = r at hk hr h
  match r, hr, h with
  | 1, _, _ => rw [ho (8*j+1) (by omega), ho (8*j+2) (by omega), ho (8*j+3) (by omega), ho (8*j+4) (by omega), ho (8*j+5) (by omega), ho (8*j+6) (by omega), ho (8*j+7) (by omega)]; simp <;> omega
  | 2, _, _ => rw [ho (8*j+2) (by omega), ho (8*j+3) (by omega), ho (8*j+4) (by omega), ho (8*j+5) (by omega), ho (8*j+6) (by omega), ho (8*j+7) (by omega)]; simp <;> omega
  | 3, _, _ => rw [ho (8*j+3) (by omega), ho (8*j+4) (by omega), ho (8*j+5) (by omega), ho (8*j+6) (by omega), ho (8*j+7) (by omega)]; simp <;> omega
  | 4, _, _ => rw [ho (8*j+4) (by omega), ho (8*j+5) (by omega), ho (8*j+6) (by omega), ho (8*j+7) (by omega)]; simp <;> omega
  | 5, _, _ => rw [ho (8*j+5) (by omega), ho (8*j+6) (by omega), ho (8*j+7) (by omega)]; simp <;> omega
  | 6, _, _ => rw [ho (8*j+6) (by omega), ho (8*j+7) (by omega)]; simp <;> omega
  | 7, _, _ => rw [ho (8*j+7) (by omega)]; simp <;> omega
end Go.Proofs.YtcojnigkgbmbmaaGreatDoor
namespace Go.Proofs.YtcojnigkgbmbmaaGreatDoor
open Go Go.RowKit
/-- the bits from place i on begin with s. -/
def At (l : List UInt8) (i : Nat) (s : List UInt8) : Prop := i + s.length ≤ 8 * l.length ∧ bitsL l i s.length = s
/-- the bits from place i on are a beginning of s, and not all of it. -/
def Cut (l : List UInt8) (i : Nat) (s : List UInt8) : Prop := i ≤ 8 * l.length ∧ 8 * l.length < i + s.length ∧ bitsL l i (8 * l.length - i) = s.take (8 * l.length - i)
theorem bitsL_append (l : List UInt8) (i n m : Nat) : bitsL l i (n + m) = bitsL l i n ++ bitsL l (i + n) m := by
  unfold bitsL
  rw [List.range_add, List.map_append, List.map_map]
  congr 1
  apply List.map_congr_left
  intro j _
  show bitC l (i + (n + j)) = bitC l (i + n + j)
  congr 1; omega
theorem At.app {l : List UInt8} {i : Nat} {s t : List UInt8} (h : At l i (s ++ t)) : At l i s ∧ At l (i + s.length) t := by
  obtain ⟨h1, h2⟩ := h
  rw [List.length_append, bitsL_append] at h2
  rw [List.length_append] at h1
  have h3 := List.append_inj h2 (by simp [bitsL_length])
  exact ⟨⟨by omega, h3.1⟩, ⟨by omega, h3.2⟩⟩
theorem At.join {l : List UInt8} {i : Nat} {s t : List UInt8} (h : At l i s) (k : At l (i + s.length) t) : At l i (s ++ t) := by
  refine ⟨by have := k.1; rw [List.length_append]; omega, ?_⟩
  rw [List.length_append, bitsL_append, h.2, k.2]
theorem Cut.app {l : List UInt8} {i : Nat} {s t : List UInt8} (h : Cut l i (s ++ t)) : Cut l i s ∨ (At l i s ∧ Cut l (i + s.length) t) := by
  obtain ⟨h1, h2, h3⟩ := h
  rw [List.length_append] at h2
  by_cases hc : 8 * l.length < i + s.length
  · refine .inl ⟨h1, hc, ?_⟩
    rw [h3, List.take_append_of_le_length (by omega)]
  · obtain ⟨m, hm⟩ : ∃ m, 8 * l.length - i = s.length + m := ⟨8 * l.length - i - s.length, by omega⟩
    rw [hm, bitsL_append, List.take_append, List.take_of_length_le (by omega)] at h3
    have h4 := List.append_inj h3 (by simp [bitsL_length])
    refine .inr ⟨⟨by omega, h4.1⟩, by omega, by omega, ?_⟩
    have e : 8 * l.length - (i + s.length) = m := by omega
    rw [e, h4.2]
    congr 1; omega
theorem Cut.ne {l : List UInt8} {i : Nat} (h : Cut l i []) : False := by have := h.2.1; have := h.1; simp at *; omega
theorem At.window {l : List UInt8} {i : Nat} {s : List UInt8} (h : At l i s) (n : Nat) (hn : s.length ≤ n) : s <+: bitsL l i (min n (8 * l.length - i)) := by
  obtain ⟨m, hm⟩ : ∃ m, min n (8 * l.length - i) = s.length + m := ⟨min n (8 * l.length - i) - s.length, by have := h.1; omega⟩
  rw [hm, bitsL_append, h.2]
  exact ⟨_, rfl⟩
theorem Cut.window {l : List UInt8} {i : Nat} {s : List UInt8} (h : Cut l i s) (n : Nat) (hn : s.length ≤ n) : bitsL l i (min n (8 * l.length - i)) = s.take (8 * l.length - i) ∧ 8 * l.length - i < s.length := by
  have h1 := h.1; have h2 := h.2.1
  have e : min n (8 * l.length - i) = 8 * l.length - i := by omega
  rw [e]
  exact ⟨h.2.2, by omega⟩
theorem findR_at {cs : List (List UInt8)} : ∀ {ns : List Int} (s : List UInt8) (k : Nat) (hk : k < cs.length), cs.length = ns.length → cs[k] <+: s → (∀ i (hi : i < cs.length), cs[i] <+: s → i = k) → findR s cs ns = some ((ns[k]?).getD 0, (cs[k].length : Int)) := by
  induction cs with
  | nil => intro ns s k hk; simp at hk
  | cons c cs ih =>
    intro ns s k hk hl hp hu
    cases ns with
    | nil => simp at hl
    | cons n ns =>
      rw [findR]
      cases k with
      | zero =>
        have h1 : c.isPrefixOf s = true := List.isPrefixOf_iff_prefix.2 hp
        simp [h1]
      | succ k =>
        have h1 : c.isPrefixOf s = false := by
          rw [← Bool.not_eq_true, List.isPrefixOf_iff_prefix]
          intro h2
          have := hu 0 (by simp) h2
          omega
        rw [h1]
        have h3 := ih (ns := ns) s k (by simpa using hk) (by simpa using hl) (by simpa using hp) (fun i hi h2 => by
          have := hu (i + 1) (by simpa using hi) (by simpa using h2)
          omega)
        simpa using h3
theorem findR_none {cs : List (List UInt8)} : ∀ {ns : List Int} (s : List UInt8), (∀ i (hi : i < cs.length), ¬ cs[i] <+: s) → findR s cs ns = none := by
  induction cs with
  | nil => intro ns s _; rw [findR.eq_def]
  | cons c cs ih =>
    intro ns s hu
    cases ns with
    | nil => rw [findR.eq_def]
    | cons n ns =>
      rw [findR]
      have h1 : c.isPrefixOf s = false := by
        rw [← Bool.not_eq_true, List.isPrefixOf_iff_prefix]
        exact hu 0 (by simp)
      rw [h1]
      have h3 := ih (ns := ns) s (fun i hi => by
        have h4 := hu (i + 1) (by simpa using hi)
        rw [List.getElem_cons_succ] at h4
        exact h4)
      simpa using h3
theorem code_le {cs : List (List UInt8)} (hc : cs.all isCode = true) (k : Nat) (hk : k < cs.length) : 1 ≤ cs[k].length ∧ cs[k].length ≤ 24 := by
  have := List.all_eq_true.1 hc _ (List.getElem_mem hk)
  simp only [isCode, Bool.and_eq_true, decide_eq_true_eq] at this
  exact ⟨this.1.2, this.2⟩
theorem tree_at {cs : List (List UInt8)} {ns : List Int} (hf : codesFree cs = true) (hc : cs.all isCode = true) (hl : cs.length = ns.length) (k : Nat) (hk : k < cs.length) {l : List UInt8} {i : Nat} (h : At l i cs[k]) : treeR cs ns l i = ((ns[k]?).getD 0, (cs[k].length : Int), 0) := by
  have hw := h.window 24 (code_le hc k hk).2
  unfold treeR
  rw [if_neg (by omega), Int.toNat_natCast]
  unfold getT
  rw [findR_at _ k hk hl hw (fun j hj hp => by
    rcases List.prefix_or_prefix_of_prefix hp hw with h3 | h3
    · exact (free_get hf hk hj h3).symm
    · exact free_get hf hj hk h3)]
theorem tree_cut {cs : List (List UInt8)} {ns : List Int} (hf : codesFree cs = true) (hc : cs.all isCode = true) (k : Nat) (hk : k < cs.length) {l : List UInt8} {i : Nat} (h : Cut l i cs[k]) : treeR cs ns l i = (0, 0, 5) := by
  have hw := h.window 24 (code_le hc k hk).2
  unfold treeR
  rw [if_neg (by omega), Int.toNat_natCast]
  unfold getT
  have hp : bitsL l i (min 24 (8 * l.length - i)) <+: cs[k] := by rw [hw.1]; exact List.take_prefix _ _
  have hlt : (bitsL l i (min 24 (8 * l.length - i))).length < cs[k].length := by rw [hw.1, List.length_take]; have := hw.2; omega
  rw [findR_none _ (fun j hj hp2 => by
    have h4 := free_get hf hk hj (hp2.trans hp)
    subst h4
    have := hp2.length_le
    omega)]
  have h5 : cs.any (fun c => (bitsL l i (min 24 (8 * l.length - i))).isPrefixOf c) = true := List.any_eq_true.2 ⟨cs[k], List.getElem_mem hk, List.isPrefixOf_iff_prefix.2 hp⟩
  simp only [h5, if_true]
/-- digits. -/
theorem digL_len (n m : Nat) : (digL n m).length = m := by simp [digL]
theorem numN_bits (l : List UInt8) : ∀ (m i n : Nat), bitsL l i m = digL n m → n < 2 ^ m → numN l i m = n
  | 0, i, n, _, h => by simp [numN]; simp at h; omega
  | m + 1, i, n, he, h => by
    have e1 : digL n (m + 1) = digL (n / 2) m ++ [if n % 2 = 0 then 48 else 49] := by
      unfold digL
      rw [List.range_succ, List.map_append]
      congr 1
      · apply List.map_congr_left
        intro j hj
        have hj := List.mem_range.1 hj
        have e : m + 1 - 1 - j = (m - 1 - j) + 1 := by omega
        rw [e, Nat.pow_succ, Nat.mul_comm, ← Nat.div_div_eq_div_mul]
      · simp
    rw [bitsL_succ, e1] at he
    have h2 := List.append_inj he (by rw [bitsL_length, digL_len])
    have ih := numN_bits l m i (n / 2) h2.1 (by rw [Nat.pow_succ] at h; omega)
    rw [numN, ih]
    have h3 : bitC l (i + m) = if n % 2 = 0 then 48 else 49 := by simpa using h2.2
    have h4 := bitN_lt l (i + m)
    unfold bitC at h3
    have h5 : (bitN l (i + m) = 0) ↔ (n % 2 = 0) := by
      constructor
      · intro h6; by_cases h7 : n % 2 = 0
        · exact h7
        · rw [if_pos h6, if_neg h7] at h3; cases h3
      · intro h7; by_cases h6 : bitN l (i + m) = 0
        · exact h6
        · rw [if_neg h6, if_pos h7] at h3; cases h3
    omega
theorem num_at {l : List UInt8} {i n m : Nat} (h : At l i (digL n m)) (hn : n < 2 ^ m) : numN l i m = n := numN_bits l m i n (by have := h.2; rwa [digL_len] at this) hn
end Go.Proofs.YtcojnigkgbmbmaaGreatDoor
