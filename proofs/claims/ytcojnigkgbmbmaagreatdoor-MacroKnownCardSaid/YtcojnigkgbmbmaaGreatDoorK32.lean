/- StpC, Step0 -/
import Derived.Test.YtcojnigkgbmbmaaGreatDoorK30
namespace Go.Proofs.YtcojnigkgbmbmaaGreatDoor
open Go Go.RowKit
structure StpPost (w0 : World) (g : Nat) (A : Option Addr) (n c : Nat) (l : List UInt8) (s : RdS) (xs : List BkE) (t : Nat) (W : World) (e : Ending) (W' : World) : Prop where
  ret : e = .returned (.int .i64 (stpS l s t).2)
  ex : ∃ v xs', RdW w0 g A n c { (stpS l s t).1.1 with v := v } xs' W' ∧ xs'.map (·.1) = xs.map (·.1) ++ (stpS l s t).1.2
  keep : ∀ (g' : Nat) (ty : TypeId) (cs : Array Value), Blk W g' ty cs → ty ≠ 81 → g' ≠ g → Blk W' g' ty cs
  from_ : ∀ B' : Nat, KeepsFrom B' W W'
theorem turn_kf {g B : Nat} {W W' : World} {t : TypeId} {cs : Array Value} (h : TurnG g W W') (hb : Blk W g t cs) : KeepsFrom B W W' :=
  ⟨h.size, fun k o _ hk ho => (h.block k (Array.getElem?_eq_some_iff.1 hk).1 (fun e => by
    subst e
    have h2 : W.heap[k]? = some (.cells cs t (0, 0)) := hb
    rw [h2] at hk
    cases hk
    cases ho)).trans hk⟩
theorem stp_turn {w0 W W' : World} {g : Nat} {A : Option Addr} {n c : Nat} {l : List UInt8} {s : RdS} {xs : List BkE} {t : Nat} {e : Ending} (h : RdW w0 g A n c s xs W) (hg : w0.heap.size ≤ g) (ht : TurnG g W W') (he : e = .returned (.int .i64 (stpS l s t).2)) (hc : Blk W' g 61 (rdC A n c (stpS l s t).1.1)) (hv : (stpS l s t).1.1.v = s.v) (hbl : (stpS l s t).1.2 = []) : StpPost w0 g A n c l s xs t W e W' :=
  ⟨he, ⟨(stpS l s t).1.1.v, xs, h.turn hg ht hc hv, by rw [hbl, List.append_nil]⟩, fun g' ty cs hb _ hne => ht.blk hb hne, fun B' => turn_kf ht h.cell⟩
section
variable {w0 W : World} {g : Nat} {A : Option Addr} {n c : Nat} {l : List UInt8} {s : RdS} {xs : List BkE}
theorem wrap_ok {a k : Int} {m : Nat} (h0 : 0 ≤ a) (hk : 0 ≤ k) (h1 : a + k ≤ 8 * (m : Int) + 5) (hm : m ≤ 2 ^ 47) : IntKind.i64.wrap (a + k) = a + k := by rw [IntKind.wrap_i64]; omega
theorem stp_kind (h : RdW w0 g A n c s xs W) (hg : w0.heap.size ≤ g) (hA : Sl w0 A (l.map byteV)) (hn : l.length = n) (hsz : n ≤ 2 ^ 47) (h0 : 0 ≤ s.a) (h1 : s.a ≤ 8 * (l.length : Int)) :
    Calls Tryz.prog 72 #[.pointer (some ⟨g, 0, none⟩)] W (StpPost w0 g A n c l s xs 0 W) := by
  obtain ⟨a, b, _⟩ := treeR_ok (cs := kindC) (ns := kindN) h0 h1
  refine (rd_kind g A n c l s W h.cell (hA.below h.below) hn hsz (by omega) _ (wrap_ok (m := l.length) h0 a (by omega) (by omega))).mono ?_
  rintro e W' ⟨rfl, hc, ht⟩
  exact stp_turn h hg ht rfl hc rfl rfl
theorem stp_quant (h : RdW w0 g A n c s xs W) (hg : w0.heap.size ≤ g) (hA : Sl w0 A (l.map byteV)) (hn : l.length = n) (hsz : n ≤ 2 ^ 47) (h0 : 0 ≤ s.a) (h1 : s.a ≤ 8 * (l.length : Int)) :
    Calls Tryz.prog 73 #[.pointer (some ⟨g, 0, none⟩)] W (StpPost w0 g A n c l s xs 1 W) := by
  have hw : IntKind.i64.wrap (s.a + 5) = s.a + 5 := wrap_ok (m := n) h0 (by decide) (by omega) hsz
  by_cases hm : 8 * (l.length : Int) < s.a + 5
  · have hs : stpS l s 1 = (({ s with a := s.a + 5, qu := 0 }, []), 5) := if_pos hm
    refine (rd_quant g A n c l s W h.cell (hA.below h.below) 0 5 (s.a + 5) (fun W2 _ => (bits_Read_more A n c s.a 5 W2 h0 (by decide) (by decide) (by omega) hsz).mono (fun e w' hh => hh)) hw (.inr rfl)).mono ?_
    rintro e W' ⟨rfl, hc, ht⟩
    exact stp_turn h hg ht (by rw [hs]; rfl) (by rw [hs]; exact hc) (by rw [hs]) (by rw [hs])
  · have hs : stpS l s 1 = (({ s with a := s.a + 5, qu := ((numN l s.a.toNat 5 : Nat) : Int) }, []), if ((numN l s.a.toNat 5 : Nat) : Int) == 0 then 9 else 0) := if_neg hm
    refine (rd_quant g A n c l s W h.cell (hA.below h.below) ((numN l s.a.toNat 5 : Nat) : Int) 0 (s.a + 5) (fun W2 hW2 => bits_Read_v _ A n c l s.a 5 W2 rfl hW2 hn h0 (by decide) (by decide) (by omega) hsz) hw (.inl rfl)).mono ?_
    rintro e W' ⟨rfl, hc, ht⟩
    exact stp_turn h hg ht (by rw [hs]; rfl) (by rw [hs]; exact hc) (by rw [hs]) (by rw [hs])
theorem stp_pattern (h : RdW w0 g A n c s xs W) (hg : w0.heap.size ≤ g) (hA : Sl w0 A (l.map byteV)) (hT : Ts w0) (hn : l.length = n) (hsz : n ≤ 2 ^ 47) (h0 : 0 ≤ s.a) (h1 : s.a ≤ 8 * (l.length : Int)) :
    Calls Tryz.prog 75 #[.pointer (some ⟨g, 0, none⟩)] W (StpPost w0 g A n c l s xs 4 W) := by
  obtain ⟨a, b, _⟩ := treeR_ok (cs := patC) (ns := patN) h0 h1
  refine (rd_pattern g A n c l s W h.cell (hT.below h.below) (hA.below h.below) hn hsz (by omega) _ (wrap_ok (m := l.length) h0 a (by omega) (by omega))).mono ?_
  rintro e W' ⟨rfl, hc, ht⟩
  exact stp_turn h hg ht rfl hc rfl rfl
theorem stp_block (h : RdW w0 g A n c s xs W) (hg : w0.heap.size ≤ g) (hA : Sl w0 A (l.map byteV)) (hT : Ts w0) (hn : l.length = n) (hsz : n ≤ 2 ^ 47) (h0 : 0 ≤ s.a) (h1 : s.a ≤ 8 * (l.length : Int)) (hx : xs.length ≤ 100) :
    Calls Tryz.prog 76 #[.pointer (some ⟨g, 0, none⟩)] W (StpPost w0 g A n c l s xs 5 W) := by
  obtain ⟨a, b⟩ := bget_ok (intra := s.pt.1) h0 h1
  refine (rd_block w0 g A n c l s xs W h.below hg h.cell (hT.below h.below) (hA.below h.below) hn hsz h.row hx _ (wrap_ok (m := l.length) h0 a (by omega) (by omega))).mono ?_
  intro e W' hp
  obtain ⟨v, A2, c2, hr⟩ := h.block hp
  exact ⟨hp.ret, ⟨v, _, hr, by rw [List.map_append]; rfl⟩, hp.keep, hp.from_⟩
theorem stp_partX {b0 b1 b2 : Nat} (h : RdW w0 g A n c s xs W) (hg : w0.heap.size ≤ g) (hA : Sl w0 A (l.map byteV)) (hn : l.length = n) (hsz : n ≤ 2 ^ 47) (h0 : 0 ≤ s.a) (h1 : s.a ≤ 8 * (l.length : Int)) (hp : partB s.x = true)
    (k0 : Blk W b0 57 #[.pointer (some ⟨g, 0, none⟩)]) (k1 : Blk W b1 3 #[.int .i64 s.x]) (k2 : Blk W b2 102 #[.pointer (some ⟨g, 10, none⟩)]) :
    Calls Tryz.prog 111 #[.pointer (some ⟨b0, 0, none⟩), .pointer (some ⟨b1, 0, none⟩), .pointer (some ⟨b2, 0, none⟩)] W (StpPost w0 g A n c l s xs 2 W) := by
  obtain ⟨a, b, _⟩ := treeR_ok (cs := vecC) (ns := vecN) h0 h1
  refine (rd_partX g b0 b1 b2 s.x A n c l s W h.cell k0 k1 k2 (hA.below h.below) hn hsz (by omega) hp (fun he => vec_get_ok h0 h1 he) _ (wrap_ok (m := l.length) h0 a (by omega) (by omega))).mono ?_
  rintro e W' (⟨hne, rfl, hc, ht⟩ | ⟨he, rfl, hc, ht⟩)
  · have hs : stpS l s 2 = ((s, []), (treeR vecC vecN l s.a).2.2) := if_pos (by simpa using hne)
    exact stp_turn h hg ht (by rw [hs]) (by rw [hs]; exact hc) (by rw [hs]) (by rw [hs])
  · have hs : stpS l s 2 = (({ s with a := s.a + (treeR vecC vecN l s.a).2.1, mx := (turnP s.x (treeR vecC vecN l s.a).1).1 }, []), (turnP s.x (treeR vecC vecN l s.a).1).2) := if_neg (by rw [he]; decide)
    exact stp_turn h hg ht (by rw [hs]) (by rw [hs]; exact hc) (by rw [hs]) (by rw [hs])
theorem stp_partY {b0 b1 b2 : Nat} (h : RdW w0 g A n c s xs W) (hg : w0.heap.size ≤ g) (hA : Sl w0 A (l.map byteV)) (hn : l.length = n) (hsz : n ≤ 2 ^ 47) (h0 : 0 ≤ s.a) (h1 : s.a ≤ 8 * (l.length : Int)) (hp : partB s.y = true)
    (k0 : Blk W b0 57 #[.pointer (some ⟨g, 0, none⟩)]) (k1 : Blk W b1 3 #[.int .i64 s.y]) (k2 : Blk W b2 102 #[.pointer (some ⟨g, 11, none⟩)]) :
    Calls Tryz.prog 111 #[.pointer (some ⟨b0, 0, none⟩), .pointer (some ⟨b1, 0, none⟩), .pointer (some ⟨b2, 0, none⟩)] W (StpPost w0 g A n c l s xs 3 W) := by
  obtain ⟨a, b, _⟩ := treeR_ok (cs := vecC) (ns := vecN) h0 h1
  refine (rd_partY g b0 b1 b2 s.y A n c l s W h.cell k0 k1 k2 (hA.below h.below) hn hsz (by omega) hp (fun he => vec_get_ok h0 h1 he) _ (wrap_ok (m := l.length) h0 a (by omega) (by omega))).mono ?_
  rintro e W' (⟨hne, rfl, hc, ht⟩ | ⟨he, rfl, hc, ht⟩)
  · have hs : stpS l s 3 = ((s, []), (treeR vecC vecN l s.a).2.2) := if_pos (by simpa using hne)
    exact stp_turn h hg ht (by rw [hs]) (by rw [hs]; exact hc) (by rw [hs]) (by rw [hs])
  · have hs : stpS l s 3 = (({ s with a := s.a + (treeR vecC vecN l s.a).2.1, my := (turnP s.y (treeR vecC vecN l s.a).1).1 }, []), (turnP s.y (treeR vecC vecN l s.a).1).2) := if_neg (by rw [he]; decide)
    exact stp_turn h hg ht (by rw [hs]) (by rw [hs]; exact hc) (by rw [hs]) (by rw [hs])
end
end Go.Proofs.YtcojnigkgbmbmaaGreatDoor
namespace Go.Proofs.YtcojnigkgbmbmaaGreatDoor
open Go Go.RowKit
attribute [local go_sem] Oper.semAt_some
theorem rd_steps (g : Nat) (w : World) : Calls Tryz.prog 34 #[.pointer (some ⟨g, 0, none⟩)] w fun e w' => e = .returned (.func (.func 71) #[] #[.pointer (some ⟨w.heap.size, 0, none⟩)]) ∧ w' = w.alloc (.cells #[.pointer (some ⟨g, 0, none⟩)] 57) := by
  go_enter Tryz.func34, Tryz.ntmps34
  go_wp2_with fail
  go_ret
  exact ⟨rfl, rfl⟩
theorem rd_part (g k : Nat) (fr : Int) (w : World) : Calls Tryz.prog 74 #[.pointer (some ⟨g, 0, none⟩), .pointer (some ⟨g, k, none⟩), .int .i64 fr] w fun e w' => e = .returned (.func (.func 111) #[] #[.pointer (some ⟨w.heap.size, 0, none⟩), .pointer (some ⟨w.heap.size + 2, 0, none⟩), .pointer (some ⟨w.heap.size + 1, 0, none⟩)]) ∧
    w' = ((w.alloc (.cells #[.pointer (some ⟨g, 0, none⟩)] 57)).alloc (.cells #[.pointer (some ⟨g, k, none⟩)] 102)).alloc (.cells #[.int .i64 fr] 3) := by
  go_enter Tryz.func74, Tryz.ntmps74
  go_wp2_with fail
  go_ret
  exact ⟨by simp [Nat.add_assoc], rfl⟩
end Go.Proofs.YtcojnigkgbmbmaaGreatDoor
