/- Step0, ShoR -/
import Derived.Test.YthhijgcfbjcgiaaGreatDoorS29
import Derived.Test.YthhijgcfbjcgiaaGreatDoorS18
import Derived.Test.YthhijgcfbjcgiaaGreatDoorS10
namespace Go.Proofs.YthhijgcfbjcgiaaGreatDoor
open Go Go.RowKit
attribute [local go_sem] Oper.semAt_some
theorem F1 (g:Nat) (w:World):Calls Tryz.prog 188 #[.pointer (some ⟨g,0,none⟩)] w fun e w'=>e= .returned (.func (.func 223) #[] #[.pointer (some ⟨w.heap.size,0,none⟩)])∧w'=w.alloc (.cells #[.pointer (some ⟨g,0,none⟩)] 206):=by
 go_enter Tryz.func188,Tryz.ntmps188
 go_wp2_with fail
 go_ret
 exact ⟨rfl,rfl⟩
theorem H9 (g k:Nat) (fr:Int) (w:World):Calls Tryz.prog 226 #[.pointer (some ⟨g,0,none⟩),.pointer (some ⟨g,k,none⟩),.int .i64 fr] w fun e w'=>e= .returned (.func (.func 255) #[] #[.pointer (some ⟨w.heap.size,0,none⟩),.pointer (some ⟨w.heap.size+2,0,none⟩),.pointer (some ⟨w.heap.size+1,0,none⟩)])∧
  w'=((w.alloc (.cells #[.pointer (some ⟨g,0,none⟩)] 206)).alloc (.cells #[.pointer (some ⟨g,k,none⟩)] 250)).alloc (.cells #[.int .i64 fr] 3):=by
 go_enter Tryz.func226,Tryz.ntmps226
 go_wp2_with fail
 go_ret
 exact ⟨by simp [Nat.add_assoc],rfl⟩
end Go.Proofs.YthhijgcfbjcgiaaGreatDoor
namespace Go.Proofs.YthhijgcfbjcgiaaGreatDoor
open Go Go.RowKit
open List renaming mem_flatMap→zAA,mem_cons→zAB,mem_map→zAC
theorem fG {R:List a9} {W W':World} (h:ap R W) (hb:Below W.heap.size W W'):ap R W':=fun r hr=>cG (h r hr) hb (Nat.le_refl _)
theorem cg {R:List a9} {W:World} {g:Nat} {t:TypeId} {cs:Array Value} (h:ap R W) (hg:ab W g t cs) (hR:∀r∈R,r.e≠t) (i:Nat) (v:Value):ap R (W.setCell ⟨g,i,none⟩ v):=fun r hr=>fc (h r hr) ⟨g,i,none⟩ v (bg (h r hr) hg (hR r hr))
theorem A7 {R:List a9} {W W':World} {g:Nat} {t:TypeId} {cs:Array Value} (h:ap R W) (hg:ab W g t cs) (hb:W.grownBy W' (some g)) (hR:∀r∈R,r.e≠t):ap R W':=fun r hr=>se (h r hr) hb hg (hR r hr)
theorem ap.app {R S:List a9} {W:World} (h:ap R W) (k:ap S W):ap (R++S) W:=fun r hr=>by
 rcases List.mem_append.1 hr with hr|hr
 ·exact h r hr
 ·exact k r hr
theorem ap.left {R S:List a9} {W:World} (h:ap (R++S) W):ap R W:=fun r hr=>h r (List.mem_append_left _ hr)
theorem ap.right {R S:List a9} {W:World} (h:ap (R++S) W):ap S W:=fun r hr=>h r (List.mem_append_right _ hr)
def a9.to (b:Nat) (r:a9):a9:={r with base:=b}
theorem cO {w:World} {base base':Nat} {e:TypeId} {size n:Nat} {v:Value} {xs:List Value} (h:w.ownsRow base e size v n xs) (hb:base'≤base):w.ownsRow base' e size v n xs:=by
 refine ⟨h.1,?_⟩
 rcases h.2 with h2|⟨g,cap,cur,rfl,hbg,hh⟩
 ·exact .inl h2
 ·exact .inr ⟨g,cap,cur,rfl,Nat.le_trans hb hbg,hh⟩
def Ci (B:Nat) (b:dF):a9:=⟨B,189,2,.slice b.2.1 b.1.l.length b.2.2,b.1.l.length,av bA b.1.l⟩
def om (B:Nat) (p:ea):List a9:=⟨B,93,2,.slice p.A p.xs.length p.c,p.xs.length,av gX p.xs⟩::p.xs.map (Ci B)
def iF (B:Nat) (ms:List ea):List a9:=ms.flatMap (om B)
def tE (B:Nat) (p:cV):List a9:=⟨B,5,1,.slice p.sA p.sp.length p.sc,p.sp.length,p.sp.map af⟩::⟨B,55,7,.slice p.A p.ms.length p.c,p.ms.length,av eT p.ms⟩::iF B p.ms
def iX (B:Nat) (gs:List cV):List a9:=gs.flatMap (tE B)
def oE (B:Nat) (p:bh):List a9:=⟨B,5,1,.slice p.sA p.sp.length p.sc,p.sp.length,p.sp.map af⟩::⟨B,51,4,.slice p.A p.gs.length p.c,p.gs.length,av fN p.gs⟩::iX B p.gs
def lw (B:Nat) (ss:List bh):List a9:=ss.flatMap (oE B)
theorem DR {B:Nat} {p:ea}:∀r∈om B p,r.e=93∨r.e=189:=by
 intro r hr
 rcases zAB.1 hr with rfl|hr
 ·exact .inl rfl
 ·obtain ⟨b,_,rfl⟩:=zAC.1 hr
  exact .inr rfl
theorem qn {B:Nat} {ms:List ea}:∀r∈iF B ms,r.e=93∨r.e=189:=by
 intro r hr
 obtain ⟨p,_,hp⟩:=zAA.1 hr
 exact DR r hp
theorem IY {B:Nat} {p:cV}:∀r∈tE B p,r.e=5∨r.e=55∨r.e=93∨r.e=189:=by
 intro r hr
 rcases zAB.1 hr with rfl|hr
 ·exact .inl rfl
 rcases zAB.1 hr with rfl|hr
 ·exact .inr (.inl rfl)
 ·exact .inr (.inr (qn r hr))
theorem tF {B:Nat} {gs:List cV}:∀r∈iX B gs,r.e=5∨r.e=55∨r.e=93∨r.e=189:=by
 intro r hr
 obtain ⟨p,_,hp⟩:=zAA.1 hr
 exact IY r hp
theorem Eq {B:Nat} {p:bh}:∀r∈oE B p,r.e=51∨r.e=5∨r.e=55∨r.e=93∨r.e=189:=by
 intro r hr
 rcases zAB.1 hr with rfl|hr
 ·exact .inr (.inl rfl)
 rcases zAB.1 hr with rfl|hr
 ·exact .inl rfl
 ·exact .inr (tF r hr)
theorem Bd {B:Nat} {ss:List bh}:∀r∈lw B ss,r.e=51∨r.e=5∨r.e=55∨r.e=93∨r.e=189:=by
 intro r hr
 obtain ⟨p,_,hp⟩:=zAA.1 hr
 exact Eq r hp
theorem dB {w:World} {base e size n k:Nat} {A:Option Addr} {c:Nat} {xs:List Value} (h:w.ownsRow base e size (.slice A k c) n xs):Sl w A xs:=by
 obtain ⟨A',c',he,hS⟩:=tJ h
 cases he;exact hS
theorem G2 {B:Nat} {p:ea} {W:World} (h:ap (om B p) W) (he:p.m.bl=p.xs.map (·.1)):kU W p:=
 ⟨he,dB h.head,fun b hb=>dB (h.tail (Ci B b) (zAC.2 ⟨b,hb,rfl⟩))⟩
theorem uH {B:Nat} {ms:List ea} {W:World} (h:ap (iF B ms) W) {p:ea} (hp:p∈ms):ap (om B p) W:=fun r hr=>h r (zAA.2 ⟨p,hp,hr⟩)
theorem uz {B:Nat} {ms:List cV} {W:World} (h:ap (iX B ms) W) {p:cV} (hp:p∈ms):ap (tE B p) W:=fun r hr=>h r (zAA.2 ⟨p,hp,hr⟩)
theorem uX {B:Nat} {ms:List bh} {W:World} (h:ap (lw B ms) W) {p:bh} (hp:p∈ms):ap (oE B p) W:=fun r hr=>h r (zAA.2 ⟨p,hp,hr⟩)
def vW (p:ea):Prop:=p.m.bl=p.xs.map (·.1)
def vV (p:cV):Prop:=∀m∈p.ms,vW m
def nJ (p:bh):Prop:=∀g∈p.gs,vV g
theorem GS {B:Nat} {p:cV} {W:World} (h:ap (tE B p) W) (he:vV p):jZ W p:=
 ⟨dB h.head,dB h.tail.head,fun m hm=>G2 (uH h.tail.tail hm) (he m hm)⟩
theorem Bb {B:Nat} {p:bh} {W:World} (h:ap (oE B p) W) (he:nJ p):ek W p:=
 ⟨dB h.head,dB h.tail.head,fun m hm=>GS (uz h.tail.tail hm) (he m hm)⟩
end Go.Proofs.YthhijgcfbjcgiaaGreatDoor
