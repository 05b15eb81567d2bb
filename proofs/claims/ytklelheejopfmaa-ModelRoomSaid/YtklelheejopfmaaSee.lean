/- package model: what See asks (printed by gen_see.py). -/
import Derived.Test.YtklelheejopfmaaSeeA
import Derived.Test.YtklelheejopfmaaSeeB
import Derived.Test.YtklelheejopfmaaSeeC
import Derived.Test.YtklelheejopfmaaSeeD
namespace Go.Proofs.Ytklelheejopfmaa
open Go Go.RowKit Go.Maps
attribute [local go_sem] Oper.semAt_some
theorem mod_See1 (w : World) (bm bt tb lb bn bp : Nat) (c : Cfg) (B : Int) (L : List Ent) (h : MAt w bm bt tb lb c B L) (ca : Int) (en : Bool) (cz q l f fr p g sc sq sl sf sfr sp sg : Int) (hk : KnOk c B ⟨ca, en, cz, q, l, f, fr, p, g⟩)
    (hn : Blk w bn 27 #[.int .i64 sc, .int .i64 sq, .int .i64 sl, .int .i64 sf, .int .i64 sfr, .int .i64 sp, .int .i64 sg]) (hp : Blk w bp 22 #[.pointer (some ⟨bm, 0, none⟩)]) :
    Calls Try.prog 25 #[.agg #[.int .i64 ca, .bool en, .int .i64 cz, .int .i64 q, .int .i64 l, .int .i64 f, .int .i64 fr, .int .i64 p, .int .i64 g], .pointer (some ⟨bn, 0, none⟩), .pointer (some ⟨bp, 0, none⟩)] w fun e w' =>
      e = .returned (.tuple #[.agg #[.int .i64 ca, .bool en, .int .i64 sc, .int .i64 sq, .int .i64 sl, .int .i64 sf, .int .i64 sfr, .int .i64 sp, .int .i64 sg], .int .i64 0, .int .i64 (if SeeOk c ca cz p g sc sq sl sf sfr sp sg then 0 else 2)]) ∧ Below w.heap.size w w' := by
  have n2 : ¬ SeeOk c ca cz p g sc sq sl sf sfr sp sg → (if SeeOk c ca cz p g sc sq sl sf sfr sp sg then (0 : Int) else 2) = 2 := fun h => if_neg h
  have n0 : SeeOk c ca cz p g sc sq sl sf sfr sp sg → (if SeeOk c ca cz p g sc sq sl sf sfr sp sg then (0 : Int) else 2) = 0 := fun h => if_pos h
  by_cases a1 : wrap64 (wrap64 (8 * ca) - sg) = sl
  case neg => rw [n2 (fun h0 => a1 h0.1.1)]; exact see_c1 w bm bt tb lb bn bp c B L h ca en cz q l f fr p g sc sq sl sf sfr sp sg _ _ hk hn hp rfl rfl a1
  by_cases a2 : wrap64 (wrap64 (c.room - ca) + wrap64 (sg.tdiv 8)) = sf
  case neg => rw [n2 (fun h0 => a2 h0.1.2)]; exact see_c2 w bm bt tb lb bn bp c B L h ca en cz q l f fr p g sc sq sl sf sfr sp sg _ hk hn hp a1 rfl a2
  by_cases c1 : g ≤ sg ∧ sg ≤ 8 * ca
  case neg => rw [n2 (fun h0 => c1 h0.2.1)]; exact see_c3 w bm bt tb lb bn bp c B L h ca en cz q l f fr p g sc sq sl sf sfr sp sg hk hn hp a1 a2 c1
  by_cases c2 : 0 ≤ sq ∧ sq ≤ c.slots
  case neg => rw [n2 (fun h0 => c2 h0.2.2.1)]; exact see_c4 w bm bt tb lb bn bp c B L h ca en cz q l f fr p g sc sq sl sf sfr sp sg hk hn hp a1 a2 c1 c2
  by_cases c3 : 0 ≤ sfr ∧ sfr ≤ c.quota
  case neg => rw [n2 (fun h0 => c3 h0.2.2.2.1)]; exact see_c5 w bm bt tb lb bn bp c B L h ca en cz q l f fr p g sc sq sl sf sfr sp sg hk hn hp a1 a2 c1 c2 c3
  by_cases c4 : sp < p
  case pos => rw [n2 (fun h0 => h0.2.2.2.2.1 c4)]; exact see_c6 w bm bt tb lb bn bp c B L h ca en cz q l f fr p g sc sq sl sf sfr sp sg hk hn hp a1 a2 c1 c2 c3 c4
  by_cases c5 : cz = 0
  case pos => rw [n0 ⟨⟨a1, a2⟩, c1, c2, c3, c4, fun h => h.1 c5⟩]; exact see_c7 w bm bt tb lb bn bp c B L h ca en cz q l f fr p g sc sq sl sf sfr sp sg hk hn hp a1 a2 c1 c2 c3 c4 (by rw [c5]; rfl)
  by_cases c6 : sc = cz
  case pos => rw [n0 ⟨⟨a1, a2⟩, c1, c2, c3, c4, fun h => h.2 c6⟩]; exact see_c8 w bm bt tb lb bn bp c B L h ca en cz q l f fr p g sc sq sl sf sfr sp sg hk hn hp a1 a2 c1 c2 c3 c4 (bne_iff_ne.2 c5) (by rw [c6]; exact bne_self_eq_false cz)
  rw [n2 (fun h0 => h0.2.2.2.2.2 ⟨c5, c6⟩)]; exact see_c9 w bm bt tb lb bn bp c B L h ca en cz q l f fr p g sc sq sl sf sfr sp sg hk hn hp a1 a2 c1 c2 c3 c4 (bne_iff_ne.2 c5) (bne_iff_ne.2 c6)
end Go.Proofs.Ytklelheejopfmaa
