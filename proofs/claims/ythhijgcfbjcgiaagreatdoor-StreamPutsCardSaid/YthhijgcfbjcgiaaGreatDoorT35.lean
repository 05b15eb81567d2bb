/- Rd, RdP, RdB, Stp, Ref08c -/
import Derived.Test.YthhijgcfbjcgiaaGreatDoorT34
import Derived.Test.YthhijgcfbjcgiaaGreatDoorT31
namespace Go.Proofs.YthhijgcfbjcgiaaGreatDoor
section
open Go Go.RowKit
attribute [local go_sem] Oper.semAt_some
set_option maxHeartbeats 16000000
set_option maxRecDepth 100000
open List renaming setIfInBounds_toArray→O,set_cons_succ→U,set_cons_zero→Z,length→OA,drop_succ_cons→OD,drop_zero→OE
open Go.Lib renaming hid→V
open Go.Proofs.YthhijgcfbjcgiaaGreatDoor.bY renaming take→Y,step→OG
open Go.IntKind renaming i64→X,i64→OH
open Go.Value renaming int→J,slice→OB,pointer→OF,bool→OJ
open Go.World renaming drew→OC
open Go.Obj renaming cells→OI
open Go.Ending renaming returned→OK
open Nat renaming le_refl→OL
open Tryz renaming prog→OM,ntmps255→ON,func255→OO
structure aY where
 a:Int
 pt:Bool×Bool×Bool×Bool×Bool
 ad:Int
 kd:Int
 qu:Int
 mx:Int
 my:Int
 pa:Int
 v:Value
 x:Int
 y:Int
def f9 (A:Option Addr) (n c:Nat) (s:aY):Array Value:= #[OB A n c,J X s.a,OJ s.pt.1,OJ s.pt.2.1,OJ s.pt.2.2.1,OJ s.pt.2.2.2.1,OJ s.pt.2.2.2.2,J X s.ad,J X s.kd,J X s.qu,J X s.mx,J X s.my,J X s.pa,s.v,J X s.x,J X s.y]
def lg (k:Int):Bool×Bool×Bool×Bool×Bool:=if eT k then(pI k,pQ k,pV k,pF k,pC k) else(false,false,false,false,false)
theorem Jr (k:Int):ld k=[OJ (lg k).1,OJ (lg k).2.1,OJ (lg k).2.2.1,OJ (lg k).2.2.2.1,OJ (lg k).2.2.2.2]:=by
 unfold ld lg
 split<;>rfl
abbrev gm (g:Nat) (A B:World):Prop:=dE (λk=>k=g) A B
theorem kP {g:Nat}{w w' j:World}(h:gm g w w')(B:Below w'.heap.size w' j):gm g w j:=h.trans (dE.of_below B)
theorem gI {g:Nat}{w w':World}(h:gm g w w'):gm g w w'.drew:=h.trans ⟨rfl,rfl,rfl,OL _,λ_ _ _=>rfl⟩
theorem cR {g:Nat}{w w':World}(h:gm g w w')(i:Nat)(v:Value):gm g w (w'.setCell ⟨g,i,none⟩ v):=h.set (.inl rfl) v
theorem Bl (g:Nat)(A:Option Addr)(n c:Nat)(l:List UInt8)(s:aY)(w:World)(hb:ab w g 208 (f9 A n c s))(hA:Sl w A (l.map ag))(hn:OA l=n)(hsz:n<=2 ^ 47)(hi: -9223372036854775808<=s.a/\s.a<=9223372036854775807)(a2:Int)(D:OH.wrap (s.a+(ac aD aN l s.a).2.1)=a2):
  Calls OM 224 #[OF (some ⟨g,0,none⟩)] w λe w'=>e=OK (J X (ac aD aN l s.a).2.2)/\ab w' g 208 (f9 A n c {s with a:=a2,kd:=(ac aD aN l s.a).1,pt:=lg (ac aD aN l s.a).1})/\gm g w w':=by
 obtain⟨a,⟨t0,t1,t2,t3,t4⟩,ad,kd,qu,mx,my,pa,v,x,y⟩:=s;dsimp only at hi D⊢;have G:=V (λW hW=>FS A n c l a W hW hn hsz hi);have CO:=V (λW=>nE (ac aD aN l a).1 W);rw[Jr] at CO;generalize lg (ac aD aN l a).1=np at*;obtain⟨⟨rk,rn,re⟩,hr⟩:∃r,ac aD aN l a=r:=⟨_,rfl⟩;rw[hr] at G CO D⊢;dsimp only at G CO D⊢;obtain⟨n0,n1,n2,n3,n4⟩:=np;dsimp only at CO;unfold f9 at*;dsimp only at*;generalize mR rk=oe at CO;have HB:=V hb;have HA:=V hA;have HW:=V D;have hw:OH.wrap (a+rn)=a2:=D;have M:ab w.drew g 208 _:=hb.drewN 1;have y0:=M.cell 0;have y1:=M.cell 1;have N:=V M;have aJ:=V (show Sl w.drew A (l.map ag) from hA);clear hb hA hr hi D M hn hsz
 go_enter Tryz.func224,Tryz.ntmps224
 go_wp2_with fail
 refine aP (λw'=>w'.cell? ⟨g,0,none⟩=some (OB A n c)/\w'.cell? ⟨g,1,none⟩=some (J X a)) 19 (Y 0 (Y 1 (Y 2 (Y 3 (Y 4 (Y 5 (Y 6 (Y 7 (Y 8 (OG 9 (Y 10 (Y 11 (Y 12 (Y 13 (Y 14 (Y 15 (Y 16 (OG 17 (OG 18 .done))))))))))))))))))) (⟨y0,y1⟩) (λPE cE=>?_)
 iterate 9
  refine af (v:=?_) rfl (by rfl) ?_ ?_
  rotate_left
  ·intro _ K;(try dsimp only at K);obtain⟨s0,s1⟩:=K;go_simp;(try with_reducible rfl)
  simp only[O,Z,U]
 refine aG (f:=254) rfl (by rfl) (by first|(go_simp;done)|(go_simp;rfl)) (G.out _ aJ.out) ?_;rintro e w2 ⟨rfl,T⟩;have B:=N.out.below T N.out.lt;have cI:=V (kP (gI (dE.refl (λk=>k=g) w)) T);refine⟨_,rfl,_,λ_ h=>h,⟨B.cell 0,B.cell 1⟩,?_⟩;simp only[O,Z,U]
 iterate 7
  refine af (v:=?_) rfl (by rfl) ?_ ?_
  rotate_left
  ·intro _ K;(try dsimp only at K);go_simp;(try with_reducible rfl)
  simp only[O,Z,U]
 have k8:=B.cell 8;have f8:=B.frozen 8;have C:=B.set_ 8 (J X rk);refine bD _ (w':=?_) rfl (by rfl) ?_ ?_ ?_;rotate_left 1
 ·go_simp;(first|(with_reducible rfl)|(constructor<;>with_reducible rfl)|skip)
 ·exact⟨C.cell 0,C.cell 1⟩
 refine aj (v:=?_) (w':=?_) rfl (by rfl) ?_ ?_ ?_;rotate_left 2
 ·go_simp;(try (constructor<;>with_reducible rfl))
 ·exact⟨C.cell 0,C.cell 1⟩
 simp only[O,Z,U];refine cE _ _ ?_;clear cE PE;simp only[OD,OE];have bM:=V (cR cI.out 8 (J X rk));have I:=V C;clear B C T k8 f8 y0 y1 N aJ HB HA G;generalize w2.setCell ⟨g,8,none⟩ (J X rk)=w3 at bM I⊢;have k8:w3.cell? ⟨g,8,none⟩=some (J X rk):=by rw[I.out.cell];rfl
 go_wp2_with fail
 refine⟨rfl,?_⟩;go_wp2_with (go_at_call 106;refine(CO.out _).mono ?_;rintro e w4 ⟨rfl,av⟩;have j:=V (I.out.below av I.out.lt);have dv:=V (kP bM.out av);clear av;have c1:w4.cell? ⟨g,1,none⟩=some (J X a):=(by rw[j.out.cell];rfl);have c2:w4.cell? ⟨g,2,none⟩=some (OJ t0):=(by rw[j.out.cell];rfl);have c3:w4.cell? ⟨g,3,none⟩=some (OJ t1):=(by rw[j.out.cell];rfl);have c4:w4.cell? ⟨g,4,none⟩=some (OJ t2):=(by rw[j.out.cell];rfl);have c5:w4.cell? ⟨g,5,none⟩=some (OJ t3):=(by rw[j.out.cell];rfl);have c6:w4.cell? ⟨g,6,none⟩=some (OJ t4):=(by rw[j.out.cell];rfl);have f1:=j.out.frozen 1;have f2:=j.out.frozen 2;have f3:=j.out.frozen 3;have f4:=j.out.frozen 4;have f5:=j.out.frozen 5;have f6:=j.out.frozen 6)
 go_ret;have h6:=(((((j.out.set_ 2 (OJ n0)).set_ 3 (OJ n1)).set_ 4 (OJ n2)).set_ 5 (OJ n3)).set_ 6 (OJ n4)).set_ 1 (J X a2);simp only[O,Z,U] at h6;exact⟨rfl,h6,cR (cR (cR (cR (cR (cR dv.out 2 _) 3 _) 4 _) 5 _) 6 _) 1 _⟩
theorem CI (g:Nat)(A:Option Addr)(n c:Nat)(l:List UInt8)(s:aY)(w:World)(hb:ab w g 208 (f9 A n c s))(hT:Ts w)(hA:Sl w A (l.map ag))(hn:OA l=n)(hsz:n<=2 ^ 47)(hi: -9223372036854775808<=s.a/\s.a<=9223372036854775807)(a2:Int)(C:OH.wrap (s.a+(ac bm bO l s.a).2.1)=a2):
  Calls OM 227 #[OF (some ⟨g,0,none⟩)] w λe w'=>e=OK (J X (ac bm bO l s.a).2.2)/\ab w' g 208 (f9 A n c {s with a:=a2,pa:=(ac bm bO l s.a).1})/\gm g w w':=by
 obtain⟨a,⟨t0,t1,t2,t3,t4⟩,ad,kd,qu,mx,my,pa,v,x,y⟩:=s;dsimp only at hi C⊢;have G:=V (λW hT hW=>zw A n c l a W hT hW hn hsz hi);obtain⟨⟨rk,rn,re⟩,hr⟩:∃r,ac bm bO l a=r:=⟨_,rfl⟩;rw[hr] at G C⊢;dsimp only at G C⊢;unfold f9 at*;dsimp only at*;have HB:=V hb;have HA:=V hA;have HW:=V C;have hw:OH.wrap (a+rn)=a2:=C;have K:ab w.drew g 208 _:=hb.drewN 1;have y0:=K.cell 0;have y1:=K.cell 1;have M:=V K;have T:=V (show Sl w.drew A (l.map ag) from hA);have cE:=V (show Ts w.drew from hT);clear hb hA hr hi C K hn hsz hT
 go_enter Tryz.func227,Tryz.ntmps227
 go_wp2_with fail
 refine aP (λw'=>w'.cell? ⟨g,0,none⟩=some (OB A n c)/\w'.cell? ⟨g,1,none⟩=some (J X a)) 19 (Y 0 (Y 1 (Y 2 (Y 3 (Y 4 (Y 5 (Y 6 (Y 7 (Y 8 (OG 9 (Y 10 (Y 11 (Y 12 (Y 13 (Y 14 (Y 15 (Y 16 (OG 17 (OG 18 .done))))))))))))))))))) (⟨y0,y1⟩) (λPE aJ=>?_)
 iterate 9
  refine af (v:=?_) rfl (by rfl) ?_ ?_
  rotate_left
  ·intro _ I;(try dsimp only at I);obtain⟨s0,s1⟩:=I;go_simp;(try with_reducible rfl)
  simp only[O,Z,U]
 refine aG (f:=258) rfl (by rfl) (by first|(go_simp;done)|(go_simp;rfl)) (G.out _ cE.out T.out) ?_;rintro e w2 ⟨rfl,N⟩;have j:=M.out.below N M.out.lt;have bM:=V (kP (gI (dE.refl (λk=>k=g) w)) N);refine⟨_,rfl,_,λ_ h=>h,⟨j.cell 0,j.cell 1⟩,?_⟩;simp only[O,Z,U]
 iterate 7
  refine af (v:=?_) rfl (by rfl) ?_ ?_
  rotate_left
  ·intro _ I;(try dsimp only at I);go_simp;(try with_reducible rfl)
  simp only[O,Z,U]
 have k8:=j.cell 12;have f8:=j.frozen 12;have B:=j.set_ 12 (J X rk);refine bD _ (w':=?_) rfl (by rfl) ?_ ?_ ?_;rotate_left 1
 ·go_simp;(first|(with_reducible rfl)|(constructor<;>with_reducible rfl)|skip)
 ·exact⟨B.cell 0,B.cell 1⟩
 refine aj (v:=?_) (w':=?_) rfl (by rfl) ?_ ?_ ?_;rotate_left 2
 ·go_simp;(try (constructor<;>with_reducible rfl))
 ·exact⟨B.cell 0,B.cell 1⟩
 simp only[O,Z,U];refine aJ _ _ ?_;clear aJ PE;simp only[OD,OE];have av:=V (cR bM.out 12 (J X rk));have D:=V B;clear j B N k8 f8 y0 y1 M T HB HA G;generalize w2.setCell ⟨g,12,none⟩ (J X rk)=w3 at av D⊢;have c1:w3.cell? ⟨g,1,none⟩=some (J X a):=by rw[D.out.cell];rfl
 have f1:=D.out.frozen 1;go_wp2_with fail
 refine⟨rfl,?_⟩;go_wp2_with fail
 go_ret;exact⟨rfl,D.out.set_ 1 (J X a2),cR av.out 1 _⟩
theorem xX (g:Nat)(A:Option Addr)(n c:Nat)(l:List UInt8)(s:aY)(w:World)(hb:ab w g 208 (f9 A n c s))(hA:Sl w A (l.map ag))(q er a2:Int)
  (hR:∀W,Sl W A (l.map ag)->Calls OM 56 #[OB A n c,J X s.a,J X 5] W λe w'=>e=OK (.tuple #[J X q,J X er])/\W=w') (aJ:OH.wrap (s.a+5)=a2) (dO:er=0\/er=5):
  Calls OM 225 #[OF (some ⟨g,0,none⟩)] w λe w'=>e=OK (J X (if er==0&&q==0 then 9 else er))/\ab w' g 208 (f9 A n c {s with a:=a2,qu:=q})/\gm g w w':=by
 obtain⟨a,⟨t0,t1,t2,t3,t4⟩,ad,kd,qu,mx,my,pa,v,x,y⟩:=s;dsimp only at hR aJ⊢;have G:=V hR;unfold f9 at*;dsimp only at*;have HB:=V hb;have HA:=V hA;have hw:OH.wrap (a+5)=a2:=aJ;have N:ab w.drew g 208 _:=hb.drewN 1;have y0:=N.cell 0;have y1:=N.cell 1;have cE:=V N;have bM:=V (show Sl w.drew A (l.map ag) from hA);obtain⟨T,D⟩:∃R:Int,(if er==0&&q==0 then 9 else er)=R:=⟨_,rfl⟩;rw[D];have B:=V D;clear hb hA hR aJ N D
 go_enter Tryz.func225,Tryz.ntmps225
 go_wp2_with fail
 refine aP (λw'=>w'.cell? ⟨g,0,none⟩=some (OB A n c)/\w'.cell? ⟨g,1,none⟩=some (J X a)) 17 (Y 0 (Y 1 (Y 2 (Y 3 (Y 4 (Y 5 (Y 6 (Y 7 (Y 8 (OG 9 (Y 10 (Y 11 (Y 12 (Y 13 (Y 14 (Y 15 (OG 16 .done))))))))))))))))) (⟨y0,y1⟩) (λPE dv=>?_)
 iterate 9
  refine af (v:=?_) rfl (by rfl) ?_ ?_
  rotate_left
  ·intro _ M;(try dsimp only at M);obtain⟨s0,s1⟩:=M;go_simp;(try with_reducible rfl)
  simp only[O,Z,U]
 refine aG (f:=56) rfl (by rfl) (by first|(go_simp;done)|(go_simp;rfl)) (G.out _ bM.out) ?_;rintro e w2 ⟨rfl,rfl⟩;have K:=cE.out;have dy:=V (gI (dE.refl (λk=>k=g) w));refine⟨_,rfl,_,λ_ h=>h,⟨K.cell 0,K.cell 1⟩,?_⟩;simp only[O,Z,U]
 iterate 6
  refine af (v:=?_) rfl (by rfl) ?_ ?_
  rotate_left
  ·intro _ M;(try dsimp only at M);go_simp;(try with_reducible rfl)
  simp only[O,Z,U]
 have k8:=HB.out.cell 9;have f8:=HB.out.frozen 9;have av:=K.set_ 9 (J X q);refine bD _ (w':=?_) rfl (by rfl) ?_ ?_ ?_;rotate_left 1
 ·go_simp;(first|(with_reducible rfl)|(constructor<;>with_reducible rfl)|skip)
 ·exact⟨av.cell 0,av.cell 1⟩
 refine dv _ _ ?_;clear dv PE;simp only[OD,OE];have cI:ab (OC (w.setCell ⟨g,9,none⟩ (J X q))) g 208 _:=(HB.out.set_ 9 (J X q)).drewN 1;have j:=V cI;have I:=V (gI (cR (dE.refl (λk=>k=g) w) 9 (J X q)));clear K av cI k8 f8 y0 y1 cE bM HA G HB dy;generalize OC (w.setCell ⟨g,9,none⟩ (J X q))=w3 at I j⊢;have c1:w3.cell? ⟨g,1,none⟩=some (J X a):=by rw[j.out.cell];rfl
 have c9:w3.cell? ⟨g,9,none⟩=some (J X q):=by rw[j.out.cell];rfl
 have f1:=j.out.frozen 1;go_wp2_with fail
 refine⟨rfl,?_⟩;rcases dO with rfl|rfl
 ·cases hq:(q==0) with
  |true=>
   have C:T=9:=(by rw[<-B.out,hq];rfl);subst C;go_wp2_with fail
   go_ret;exact⟨rfl,j.out.set_ 1 (J X a2),cR I.out 1 _⟩
  |false=>
   have C:T=0:=(by rw[<-B.out,hq];rfl);subst C;go_wp2_with fail
   go_ret;exact⟨rfl,j.out.set_ 1 (J X a2),cR I.out 1 _⟩
 ·have C:T=5:=by rw[<-B.out];rfl
  subst C;go_wp2_with fail
  go_ret;exact⟨rfl,j.out.set_ 1 (J X a2),cR I.out 1 _⟩
theorem Gn (g b0 b1 b2:Nat)(fr:Int)(A:Option Addr)(n c:Nat)(l:List UInt8)(s:aY)(w:World)(hb:ab w g 208 (f9 A n c s))(h0:ab w b0 206 #[OF (some ⟨g,0,none⟩)])(h1:ab w b1 3 #[J X fr])(h2:ab w b2 250 #[OF (some ⟨g,10,none⟩)])
  (hA:Sl w A (l.map ag)) (hn:OA l=n) (hsz:n<=2 ^ 47) (hi: -9223372036854775808<=s.a/\s.a<=9223372036854775807) (hp:aA fr=true) (hd:(ac ao au l s.a).2.2=0-> -16<=(ac ao au l s.a).1/\(ac ao au l s.a).1<=15) (a2:Int) (K:OH.wrap (s.a+(ac ao au l s.a).2.1)=a2):
  Calls OM 255 #[OF (some ⟨b0,0,none⟩),OF (some ⟨b1,0,none⟩),OF (some ⟨b2,0,none⟩)] w λe w'=>
   ((ac ao au l s.a).2.2≠0/\e=OK (J X (ac ao au l s.a).2.2)/\ab w' g 208 (f9 A n c s)/\gm g w w')\/
   ((ac ao au l s.a).2.2=0/\e=OK (J X (aW fr (ac ao au l s.a).1).2)/\ab w' g 208 (f9 A n c {s with a:=a2,mx:=(aW fr (ac ao au l s.a).1).1})/\gm g w w'):=by
 obtain⟨a,⟨t0,t1,t2,t3,t4⟩,ad,kd,qu,mx,my,pa,v,x,y⟩:=s;dsimp only at hi K hd⊢;have G:=V (λW hW=>sU A n c l a W hW hn hsz hi);have T:=V (λh3 W=>qY fr (ac ao au l a).1 W hp (hd h3).1 (hd h3).2);obtain⟨⟨rk,rn,re⟩,hr⟩:∃r,ac ao au l a=r:=⟨_,rfl⟩;rw[hr] at G T K⊢;dsimp only at G T K⊢;obtain⟨⟨tv,te⟩,ht⟩:∃r,aW fr rk=r:=⟨_,rfl⟩;rw[ht] at T⊢;dsimp only at T⊢;unfold f9 at*;dsimp only at*;have Ht:g≠b0:=aT hb h0 (by simp);have Hu:g≠b1:=aT hb h1 (by simp);have JT:g≠b2:=aT hb h2 (by simp);have hw:OH.wrap (a+rn)=a2:=K;have N:ab w.drew g 208 _:=hb.drewN 1;have eE:ab w.drew b0 206 _:=h0.drewN 1;have rG:ab w.drew b1 3 _:=h1.drewN 1;have Hl:ab w.drew b2 250 _:=h2.drewN 1;have y0:=N.cell 0;have y1:=N.cell 1;have y2:=eE.cell 0;have av:=V N;have aJ:=V eE;have bM:=V rG;have cE:=V Hl;have fJ:=V (show Sl w.drew A (l.map ag) from hA);have Kx:=V Ht;have gj:=V Hu;have iP:=V JT;clear hb hA hr hi K N hn hsz eE rG Hl h0 h1 h2 hd hp ht Ht Hu JT
 go_enter OO,ON
 go_wp2_with fail
 refine aP (λw'=>w'.cell? ⟨g,0,none⟩=some (OB A n c)/\w'.cell? ⟨g,1,none⟩=some (J X a)/\w'.cell? ⟨b0,0,none⟩=some (OF (some ⟨g,0,none⟩))) 15 (Y 0 (Y 1 (Y 2 (Y 3 (Y 4 (Y 5 (Y 6 (Y 7 (OG 8 (Y 9 (Y 10 (Y 11 (Y 12 (OG 13 (OG 14 .done))))))))))))))) (⟨y0,y1,y2⟩) (λPE I=>?_)
 iterate 8
  refine af (v:=?_) rfl (by rfl) ?_ ?_
  rotate_left
  ·intro _ j;(try dsimp only at j);obtain⟨s0,s1,s2⟩:=j;go_simp;(try with_reducible rfl)
  simp only[O,Z,U]
 refine aG (f:=256) rfl (by rfl) (by first|(go_simp;done)|(go_simp;rfl)) (G.out _ fJ.out) ?_;rintro e w2 ⟨rfl,C⟩;have B:=av.out.below C av.out.lt;have D:=aJ.out.below C aJ.out.lt;have kA:=bM.out.below C bM.out.lt;have kU:=cE.out.below C cE.out.lt;have jg:=V (kP (gI (dE.refl (λk=>k=g) w)) C);refine⟨_,rfl,_,λ_ h=>h,⟨B.cell 0,B.cell 1,D.cell 0⟩,?_⟩;simp only[O,Z,U]
 iterate 4
  refine af (v:=?_) rfl (by rfl) ?_ ?_
  rotate_left
  ·intro _ j;(try dsimp only at j);go_simp;(try with_reducible rfl)
  simp only[O,Z,U]
 refine aj (v:=?_) (w':=?_) rfl (by rfl) ?_ ?_ ?_;rotate_left 2
 ·go_simp;(try (constructor<;>with_reducible rfl))
 ·exact⟨B.cell 0,B.cell 1,D.cell 0⟩
 simp only[O,Z,U];refine aj (v:=?_) (w':=?_) rfl (by rfl) ?_ ?_ ?_;rotate_left 2
 ·go_simp;(try (constructor<;>with_reducible rfl))
 ·exact⟨B.cell 0,B.cell 1,D.cell 0⟩
 simp only[O,Z,U];refine I _ _ ?_;clear I PE;simp only[OD,OE];have M:=V B;have K3:=V D;have K4:=V kA;have K5:=V kU;clear B D kA kU C y0 y1 y2 av aJ bM cE fJ G;go_wp2_with fail
 refine⟨rfl,?_⟩
 cases he:(re !=0) with
 |true=>
  have K0:re≠0:=(by simpa using he);have K9:=V K0;clear K0;go_wp2_with fail
  go_ret;exact .inl ⟨K9.out,rfl,M.out,jg.out⟩
 |false=>
  have Kw:re=0:=(by simpa using he);subst Kw;have T:=V (T.out rfl);have z2:=K3.out.cell 0;have c1:w2.cell? ⟨g,1,none⟩=some (J X a):=(by rw[M.out.cell];rfl);have f1:=M.out.frozen 1;have dv:=M.out.set_ 1 (J X a2);simp only[O,Z,U] at dv;have dy:ab (OC (w2.setCell ⟨g,1,none⟩ (J X a2))) b1 3 _:=(K4.out.far (p:=⟨g,1,none⟩) gj.out.symm (J X a2)).drewN 1;have dO:ab (OC (w2.setCell ⟨g,1,none⟩ (J X a2))) b2 250 _:=(K5.out.far (p:=⟨g,1,none⟩) iP.out.symm (J X a2)).drewN 1;have cI:=V dv;have K6:=V dy;have K8:=V dO;have Kt:=V (cR jg.out 1 (J X a2));have u1:=dy.cell 0;have u2:=dO.cell 0;clear dv dy dO
  go_upto_region 5 with fail
  clear z2 c1 f1;refine aP (λw'=>w'.cell? ⟨b1,0,none⟩=some (J X fr)/\w'.cell? ⟨b2,0,none⟩=some (OF (some ⟨g,10,none⟩))) 9 (Y 0 (Y 1 (Y 2 (OG 3 (Y 4 (Y 5 (Y 6 (Y 7 (OG 8 .done))))))))) (⟨u1,u2⟩) (λPE I=>?_)
  iterate 3
   refine af (v:=?_) rfl (by rfl) ?_ ?_
   rotate_left
   ·intro _ j;(try dsimp only at j);obtain⟨s1,s2⟩:=j;go_simp;(try with_reducible rfl)
   simp only[O,Z,U]
  refine aG (f:=257) rfl (by rfl) (by first|(go_simp;done)|(go_simp;rfl)) (T.out _) ?_;rintro e w4 ⟨rfl,rfl⟩;refine⟨_,rfl,_,λ_ h=>h,⟨u1,u2⟩,?_⟩;simp only[O,Z,U]
  iterate 4
   refine af (v:=?_) rfl (by rfl) ?_ ?_
   rotate_left
   ·intro _ j;(try dsimp only at j);go_simp;(try with_reducible rfl)
   simp only[O,Z,U]
  have kk:=cI.out.cell 10;have fk:=cI.out.frozen 10;have jY:=cI.out.set_ 10 (J X tv);simp only[O,Z,U] at jY;have v1:=(K6.out.far (p:=⟨g,10,none⟩) gj.out.symm (J X tv)).cell 0;have v2:=(K8.out.far (p:=⟨g,10,none⟩) iP.out.symm (J X tv)).cell 0;refine bD _ (w':=?_) rfl (by rfl) ?_ ?_ ?_;rotate_left 1
  ·go_simp;(first|(with_reducible rfl)|(constructor<;>with_reducible rfl)|skip)
  ·exact⟨v1,v2⟩
  refine I _ _ ?_;clear I PE;simp only[OD,OE];have Kv:ab (OC ((w2.setCell ⟨g,1,none⟩ (J X a2)).setCell ⟨g,10,none⟩ (J X tv))) g 208 _:=jY.drewN 1;have Ku:=V (gI (cR Kt.out 10 (J X tv)));clear v1 v2 kk fk u1 u2;go_wp2_with fail
  refine⟨rfl,?_⟩;go_wp2_with fail
  go_ret;exact⟨rfl,Kv,Ku.out⟩
theorem Gp (g b0 b1 b2:Nat)(fr:Int)(A:Option Addr)(n c:Nat)(l:List UInt8)(s:aY)(w:World)(hb:ab w g 208 (f9 A n c s))(h0:ab w b0 206 #[OF (some ⟨g,0,none⟩)])(h1:ab w b1 3 #[J X fr])(h2:ab w b2 250 #[OF (some ⟨g,11,none⟩)])
  (hA:Sl w A (l.map ag)) (hn:OA l=n) (hsz:n<=2 ^ 47) (hi: -9223372036854775808<=s.a/\s.a<=9223372036854775807) (hp:aA fr=true) (hd:(ac ao au l s.a).2.2=0-> -16<=(ac ao au l s.a).1/\(ac ao au l s.a).1<=15) (a2:Int) (K:OH.wrap (s.a+(ac ao au l s.a).2.1)=a2):
  Calls OM 255 #[OF (some ⟨b0,0,none⟩),OF (some ⟨b1,0,none⟩),OF (some ⟨b2,0,none⟩)] w λe w'=>
   ((ac ao au l s.a).2.2≠0/\e=OK (J X (ac ao au l s.a).2.2)/\ab w' g 208 (f9 A n c s)/\gm g w w')\/
   ((ac ao au l s.a).2.2=0/\e=OK (J X (aW fr (ac ao au l s.a).1).2)/\ab w' g 208 (f9 A n c {s with a:=a2,my:=(aW fr (ac ao au l s.a).1).1})/\gm g w w'):=by
 obtain⟨a,⟨t0,t1,t2,t3,t4⟩,ad,kd,qu,mx,my,pa,v,x,y⟩:=s;dsimp only at hi K hd⊢;have G:=V (λW hW=>sU A n c l a W hW hn hsz hi);have T:=V (λh3 W=>qY fr (ac ao au l a).1 W hp (hd h3).1 (hd h3).2);obtain⟨⟨rk,rn,re⟩,hr⟩:∃r,ac ao au l a=r:=⟨_,rfl⟩;rw[hr] at G T K⊢;dsimp only at G T K⊢;obtain⟨⟨tv,te⟩,ht⟩:∃r,aW fr rk=r:=⟨_,rfl⟩;rw[ht] at T⊢;dsimp only at T⊢;unfold f9 at*;dsimp only at*;have Ht:g≠b0:=aT hb h0 (by simp);have Hu:g≠b1:=aT hb h1 (by simp);have JT:g≠b2:=aT hb h2 (by simp);have hw:OH.wrap (a+rn)=a2:=K;have N:ab w.drew g 208 _:=hb.drewN 1;have eE:ab w.drew b0 206 _:=h0.drewN 1;have rG:ab w.drew b1 3 _:=h1.drewN 1;have Hl:ab w.drew b2 250 _:=h2.drewN 1;have y0:=N.cell 0;have y1:=N.cell 1;have y2:=eE.cell 0;have av:=V N;have aJ:=V eE;have bM:=V rG;have cE:=V Hl;have fJ:=V (show Sl w.drew A (l.map ag) from hA);have Kx:=V Ht;have gj:=V Hu;have iP:=V JT;clear hb hA hr hi K N hn hsz eE rG Hl h0 h1 h2 hd hp ht Ht Hu JT
 go_enter OO,ON
 go_wp2_with fail
 refine aP (λw'=>w'.cell? ⟨g,0,none⟩=some (OB A n c)/\w'.cell? ⟨g,1,none⟩=some (J X a)/\w'.cell? ⟨b0,0,none⟩=some (OF (some ⟨g,0,none⟩))) 15 (Y 0 (Y 1 (Y 2 (Y 3 (Y 4 (Y 5 (Y 6 (Y 7 (OG 8 (Y 9 (Y 10 (Y 11 (Y 12 (OG 13 (OG 14 .done))))))))))))))) (⟨y0,y1,y2⟩) (λPE I=>?_)
 iterate 8
  refine af (v:=?_) rfl (by rfl) ?_ ?_
  rotate_left
  ·intro _ j;(try dsimp only at j);obtain⟨s0,s1,s2⟩:=j;go_simp;(try with_reducible rfl)
  simp only[O,Z,U]
 refine aG (f:=256) rfl (by rfl) (by first|(go_simp;done)|(go_simp;rfl)) (G.out _ fJ.out) ?_;rintro e w2 ⟨rfl,C⟩;have B:=av.out.below C av.out.lt;have D:=aJ.out.below C aJ.out.lt;have kA:=bM.out.below C bM.out.lt;have kU:=cE.out.below C cE.out.lt;have jg:=V (kP (gI (dE.refl (λk=>k=g) w)) C);refine⟨_,rfl,_,λ_ h=>h,⟨B.cell 0,B.cell 1,D.cell 0⟩,?_⟩;simp only[O,Z,U]
 iterate 4
  refine af (v:=?_) rfl (by rfl) ?_ ?_
  rotate_left
  ·intro _ j;(try dsimp only at j);go_simp;(try with_reducible rfl)
  simp only[O,Z,U]
 refine aj (v:=?_) (w':=?_) rfl (by rfl) ?_ ?_ ?_;rotate_left 2
 ·go_simp;(try (constructor<;>with_reducible rfl))
 ·exact⟨B.cell 0,B.cell 1,D.cell 0⟩
 simp only[O,Z,U];refine aj (v:=?_) (w':=?_) rfl (by rfl) ?_ ?_ ?_;rotate_left 2
 ·go_simp;(try (constructor<;>with_reducible rfl))
 ·exact⟨B.cell 0,B.cell 1,D.cell 0⟩
 simp only[O,Z,U];refine I _ _ ?_;clear I PE;simp only[OD,OE];have M:=V B;have K3:=V D;have K4:=V kA;have K5:=V kU;clear B D kA kU C y0 y1 y2 av aJ bM cE fJ G;go_wp2_with fail
 refine⟨rfl,?_⟩
 cases he:(re !=0) with
 |true=>
  have K0:re≠0:=(by simpa using he);have K9:=V K0;clear K0;go_wp2_with fail
  go_ret;exact .inl ⟨K9.out,rfl,M.out,jg.out⟩
 |false=>
  have Kw:re=0:=(by simpa using he);subst Kw;have T:=V (T.out rfl);have z2:=K3.out.cell 0;have c1:w2.cell? ⟨g,1,none⟩=some (J X a):=(by rw[M.out.cell];rfl);have f1:=M.out.frozen 1;have dv:=M.out.set_ 1 (J X a2);simp only[O,Z,U] at dv;have dy:ab (OC (w2.setCell ⟨g,1,none⟩ (J X a2))) b1 3 _:=(K4.out.far (p:=⟨g,1,none⟩) gj.out.symm (J X a2)).drewN 1;have dO:ab (OC (w2.setCell ⟨g,1,none⟩ (J X a2))) b2 250 _:=(K5.out.far (p:=⟨g,1,none⟩) iP.out.symm (J X a2)).drewN 1;have cI:=V dv;have K6:=V dy;have K8:=V dO;have Kt:=V (cR jg.out 1 (J X a2));have u1:=dy.cell 0;have u2:=dO.cell 0;clear dv dy dO
  go_upto_region 5 with fail
  clear z2 c1 f1;refine aP (λw'=>w'.cell? ⟨b1,0,none⟩=some (J X fr)/\w'.cell? ⟨b2,0,none⟩=some (OF (some ⟨g,11,none⟩))) 9 (Y 0 (Y 1 (Y 2 (OG 3 (Y 4 (Y 5 (Y 6 (Y 7 (OG 8 .done))))))))) (⟨u1,u2⟩) (λPE I=>?_)
  iterate 3
   refine af (v:=?_) rfl (by rfl) ?_ ?_
   rotate_left
   ·intro _ j;(try dsimp only at j);obtain⟨s1,s2⟩:=j;go_simp;(try with_reducible rfl)
   simp only[O,Z,U]
  refine aG (f:=257) rfl (by rfl) (by first|(go_simp;done)|(go_simp;rfl)) (T.out _) ?_;rintro e w4 ⟨rfl,rfl⟩;refine⟨_,rfl,_,λ_ h=>h,⟨u1,u2⟩,?_⟩;simp only[O,Z,U]
  iterate 4
   refine af (v:=?_) rfl (by rfl) ?_ ?_
   rotate_left
   ·intro _ j;(try dsimp only at j);go_simp;(try with_reducible rfl)
   simp only[O,Z,U]
  have kk:=cI.out.cell 11;have fk:=cI.out.frozen 11;have jY:=cI.out.set_ 11 (J X tv);simp only[O,Z,U] at jY;have v1:=(K6.out.far (p:=⟨g,11,none⟩) gj.out.symm (J X tv)).cell 0;have v2:=(K8.out.far (p:=⟨g,11,none⟩) iP.out.symm (J X tv)).cell 0;refine bD _ (w':=?_) rfl (by rfl) ?_ ?_ ?_;rotate_left 1
  ·go_simp;(first|(with_reducible rfl)|(constructor<;>with_reducible rfl)|skip)
  ·exact⟨v1,v2⟩
  refine I _ _ ?_;clear I PE;simp only[OD,OE];have Kv:ab (OC ((w2.setCell ⟨g,1,none⟩ (J X a2)).setCell ⟨g,11,none⟩ (J X tv))) g 208 _:=jY.drewN 1;have Ku:=V (gI (cR Kt.out 11 (J X tv)));clear v1 v2 kk fk u1 u2;go_wp2_with fail
  refine⟨rfl,?_⟩;go_wp2_with fail
  go_ret;exact⟨rfl,Kv,Ku.out⟩
structure AD (w0:World) (g:Nat) (A:Option Addr) (n c:Nat) (s:aY) (xs:List dB) (r:bH×Int×Int) (a2:Int) (w:World) (e:Ending) (w':World):Prop where
 ret:e=OK (J X r.2.2)
 ex:∃v A2 c2,ab w' g 208 (f9 A n c {s with a:=a2,v:=v})/\w'.ownsRow w0.heap.size 93 2 v (OA xs+1) (az ia (xs++[(r.1,A2,c2)]))/\w'.ownsRow w0.heap.size 189 2 (OB A2 r.1.l.length c2) r.1.l.length (az bd r.1.l)
 below:Below w0.heap.size w0 w'
 keep:∀(g':Nat)(t:TypeId)(cs:Array Value),ab w g' t cs->t≠93->g'≠g->ab w' g' t cs
 from_:∀B':Nat,KeepsFrom B' w w'
theorem qN {w:World}{base j e size n:Nat}{v:Value}{xs:List Value}(h:w.ownsRow base e size v n xs)(I:j<=base):w.ownsRow j e size v n xs:=by
 refine⟨h.1,?_⟩;rcases h.2 with D|⟨g,B,C,D,h2,G⟩
 ·exact .inl D
 ·exact .inr ⟨g,B,C,D,Nat.le_trans I h2,G⟩
theorem qn {w:World}{base e size n:Nat}{v:Value}{xs:List Value}(h:w.ownsRow base e size v n xs):∃A c,v=OB A n c/\Sl w A xs:=by
 rcases h.2 with⟨rfl,rfl⟩|⟨g,B,j,rfl,D,G,I,h2,K,C⟩
 ·have:xs=[]:=List.eq_nil_of_length_eq_zero (by simpa using h.1)
  subst this;exact⟨none,0,rfl,Sl.nil _ _⟩
 ·refine⟨_,_,rfl,?_⟩
  have:=(ab.sl (w:=w) (g:=g) (t:=e) (cs:=j) G 0).take (n*size);rw[OE,C] at this;exact this
theorem AX:eU OM 53 93 2 32:= .mk' (z:=.agg #[J X 0,OB none 0 0]) (by kernel_rfl) (by kernel_rfl) rfl (by decide) (by decide)
section
variable {P:Program} {t e size bytes:Nat} {w W:World} {L:List aM} {R:List a9} {base n:Nat} {m:Nat} {v:Value} {xs news:List Value} {nb c:Nat}
theorem vd (et:eU P t e size bytes){j:List (Option Tmp)}{E:Act->World->Prop}{S:World->Prop}{r:eP}{tmps:Array Value}{defers:List Deferred}{o:Oper}{d:Nat}{s x:Operand}(hd:o.dst=some d)(hw:bu o j tmps=true)
  (ho:o.op= .call {callee:= .builtin .append,args:= #[s,x],argTypes:= #[t,t]}) (hs:Act.eval ⟨tmps,defers⟩ s=v) (N:ay w L (⟨base,e,size,v,n,xs⟩::R) W) (hx:Act.eval ⟨tmps,defers⟩ x=OB (some ⟨nb,0,none⟩) m c) (K:ab W nb e news.toArray)
  (hl:OA news=m*size) (h1:∀u∈news,u.oneCell'=true) (hb:(n+m)*bytes<=140737488355328) (B:w.heap.size<=base/\base<=W.heap.size) (hL:∀p∈L,p.2.1≠e\/p.1<base) (hR:∀r∈R,r.e≠e)
  (h:∀G C,ay w L (⟨base,e,size,G,n+m,xs++news⟩::R) C->(∀g t cs,ab W g t cs->t≠e->ab C g t cs)->W.grownBy C v.ownBlock->S C/\cg P j E r S ⟨tmps.setIfInBounds d G,defers⟩ C):
  ko P j o (λT w'=>∃I:World->Prop,(∀w,I w->S w)/\I w'/\cg P j E r I T w') ⟨tmps,defers⟩ W:=by
 obtain⟨G,w',D,h2,M,h4⟩:=nK et o.type (c:=c) N.2.2.head hl (by have:=ab.sl K 0;simpa using this) h1 hb B.2;obtain⟨h5,h6⟩:=pf N M h2 B.1 hL hR;obtain⟨h7,h8⟩:=h G w' h5 h6 M;refine aj (v:=G) (w':=w') hd hw ?_ h7 h8;unfold execOp;simp only[ho,resolve,invoke,builtin,Sem.run_bind,Sem.run_pure,Result.andThen_ok,List.map_toArray,List.map_cons,List.map_nil,hs,hx,D]
end
theorem Gm (w0:World)(g:Nat)(A:Option Addr)(n c:Nat)(l:List UInt8)(s:aY)(xs:List dB)(w:World)(L6:Below w0.heap.size w0 w)(L7:w0.heap.size<=g)(hb:ab w g 208 (f9 A n c s))(hT:Ts w)(hA:Sl w A (l.map ag))(hn:OA l=n)(hsz:n<=2 ^ 47)
  (KJ:w.ownsRow w0.heap.size 93 2 s.v (OA xs) (az ia xs)) (hx:OA xs<=100) (a2:Int) (Kz:OH.wrap (s.a+(bK l s.a s.pt.1).2.1)=a2):
  Calls OM 228 #[OF (some ⟨g,0,none⟩)] w (AD w0 g A n c s xs (bK l s.a s.pt.1) a2 w):=by
 obtain⟨a,⟨t0,t1,t2,t3,t4⟩,ad,kd,qu,mx,my,pa,v,x,y⟩:=s;dsimp only at Kz KJ⊢;have G:=V (λW hW hT=>DK A n c l a t0 W hW hn hsz hT);obtain⟨⟨⟨I,B⟩,rn,re⟩,hr⟩:∃r,bK l a t0=r:=⟨_,rfl⟩;rw[hr] at G Kz⊢;dsimp only at Kz;have hw:OH.wrap (a+rn)=a2:=Kz;obtain⟨RC,K8⟩:∃RC,f9 A n c ⟨a,(t0,t1,t2,t3,t4),ad,kd,qu,mx,my,pa,v,x,y⟩=RC:=⟨_,rfl⟩;have KV:RC[0]? =some (OB A n c):=by rw[<-K8];rfl
 have KW:RC[1]? =some (J X a):=by rw[<-K8];rfl
 have KX:RC[2]? =some (OJ t0):=by rw[<-K8];rfl
 rw[K8] at hb;have KD:ab w.drew g 208 RC:=hb.drewN 1;have y0:=KD.cell 0;have y1:=KD.cell 1;have y2:=KD.cell 2;rw[KV] at y0;rw[KW] at y1;rw[KX] at y2;have L9:=V hb;have L4:=V KD;have K3:=V K8;have jg:=V KV;have dy:=V KW;have jY:=V KX;have L0:=V (show Sl w.drew A (l.map ag) from hA);have L5:=V (show Ts w.drew from hT);have aJ:=V KJ;have fJ:=V L6;have KN:=V L7;have Ld:=hb.lt;clear hb hA hr Kz KD hn hsz hT K8 KV KW KX KJ L6 L7
 go_enter Tryz.func228,Tryz.ntmps228
 go_wp2_with fail
 refine aP (λw'=>w'.cell? ⟨g,0,none⟩=some (OB A n c)/\w'.cell? ⟨g,1,none⟩=some (J X a)/\w'.cell? ⟨g,2,none⟩=some (OJ t0)) 21 (Y 0 (Y 1 (Y 2 (Y 3 (Y 4 (Y 5 (Y 6 (Y 7 (Y 8 (Y 9 (Y 10 (Y 11 (Y 12 (.fork 13 (Y 14 (Y 15 (Y 16 (Y 17 (OG 18 (OG 19 (OG 20 (.done)))))))) 18 (OG 13 (Y 14 (Y 15 (Y 16 (Y 17 (OG 19 (OG 20 (.done)))))))))))))))))))))) (⟨y0,y1,y2⟩) (λPE dO=>?_)
 iterate 13
  refine af (v:=?_) rfl (by rfl) ?_ ?_
  rotate_left
  ·intro _ T;(try dsimp only at T);obtain⟨s0,s1,s2⟩:=T;go_simp;(try with_reducible rfl)
  simp only[O,Z,U]
 refine⟨?_,?_⟩
 ·refine aG (f:=259) rfl (by rfl) (by first|(go_simp;done)|(go_simp;rfl)) (G.out _ L0.out L5.out) ?_
  rintro e w2 ⟨v2,rfl,K,eE⟩;obtain⟨C,c2,KK,_⟩:=qn eE;dsimp only at KK eE;subst KK;dsimp only;have D:=L4.out.below K L4.out.lt;refine⟨_,rfl,_,λ_ h=>h,⟨by rw[D.cell,jg.out],by rw[D.cell,dy.out],by rw[D.cell,jY.out]⟩,?_⟩;simp only[O,Z,U]
  iterate 4
   refine af (v:=?_) rfl (by rfl) ?_ ?_
   rotate_left
   ·intro _ T;(try dsimp only at T);go_simp;(try with_reducible rfl)
   simp only[O,Z,U]
  obtain⟨j,KA⟩:∃j,w2.heap.size=j:=⟨_,rfl⟩;refine aj (v:=?_) (w':=?_) rfl (by rfl) ?_ ?_ ?_;rotate_left 2
  ·go_simp;(try (constructor<;>with_reducible rfl))
  ·exact⟨by rw[(D.alloc _).cell,jg.out],by rw[(D.alloc _).cell,dy.out],by rw[(D.alloc _).cell,jY.out]⟩
  simp only[O,Z,U];refine bD _ (w':=?_) rfl (by rfl) ?_ ?_ ?_;rotate_left 1
  ·go_simp;(first|(with_reducible rfl)|(constructor<;>with_reducible rfl)|skip)
  ·exact⟨by rw[(D.alloc _).cell,jg.out],by rw[(D.alloc _).cell,dy.out],by rw[(D.alloc _).cell,jY.out]⟩
  refine aj (v:=?_) (w':=?_) rfl (by rfl) ?_ ?_ ?_;rotate_left 2
  ·go_simp;(try (constructor<;>with_reducible rfl))
  ·exact⟨by rw[(D.alloc _).cell,jg.out],by rw[(D.alloc _).cell,dy.out],by rw[(D.alloc _).cell,jY.out]⟩
  simp only[O,Z,U];refine dO _ _ ?_;clear dO PE;simp only[OD,OE];go_wp2_with fail
  refine⟨rfl,?_⟩;have KC:Below w0.heap.size w0 w2:=(fJ.out.drew).trans (K.mono (by show _<=w.heap.size;exact fJ.out.size))
  have M:ay w0 [(j,93,#[J X I,OB C (OA B) c2]),(g,208,RC)] [⟨w0.heap.size,93,2,v,OA xs,az ia xs⟩,⟨w0.heap.size,189,2,OB C (OA B) c2,OA B,az bd B⟩] (w2.alloc (OI #[J X I,OB C (OA B) c2] 93)):=
   dQ (ap ⟨KC,aa.cons D (ai _),ar.cons (bL (show (OC w).ownsRow _ _ _ _ _ _ from aJ.out) K (OL _)) (ar.cons (qN eE fJ.out.size) (aF _))⟩ _) (aE (ab.new _ _ _) KA)
  have Ht:Below w.heap.size w (w2.alloc (OI #[J X I,OB C (OA B) c2] 93)):=(((Below.refl _ w).drew).trans (K.mono (by simp))).alloc (by have:=K.size;simpa using this) _;have Kt:=V (show ¬j=g by have:=K.size;simp at this;omega);have Ku:=V (show w.heap.size<=j by have:=K.size;simp at this;omega);clear y0 y1 y2 D KC K eE KA G;generalize w2.alloc (OI #[J X I,OB C (OA B) c2] 93)=W5 at M Ht⊢;have q1:W5.cell? ⟨g,1,none⟩=some (J X a):=(by rw[M.2.1.tail.head.cell,dy.out]);have fq:=M.2.1.tail.head.frozen 1;have La:=V M;have Kv:=V Ht;have Hu:=aV M KN.out 1 (J X a2) (g,208,RC) (by simp) rfl (by simp);have kU:¬j=g:=Kt.out;simp[df,kU] at Hu;have av:=V Hu;clear M Ht Hu kU
  go_upto_region 3 with fail
  clear q1 fq;have bM:=bB av.out;have dv:(RC.setIfInBounds 1 (J X a2))[13]? =some v:=(by rw[<-K3.out];rfl);obtain⟨A9,c9,KZ⟩:=bg aJ.out;subst KZ;have z0:=bM.2.1.head.cell 0;have z1:=bM.2.1.head.cell 1;have z2:=bM.2.1.tail.head.cell 13;rw[dv] at z2;have gj:ab (OC ((W5.setCell ⟨g,1,none⟩ (J X a2)).alloc (OI #[J X I,OB C (OA B) c2] 93))) j 93 #[J X I,OB C (OA B) c2]:=(av.out.2.1.head.alloc _).drewN 1;have K0:ab (OC ((W5.setCell ⟨g,1,none⟩ (J X a2)).alloc (OI #[J X I,OB C (OA B) c2] 93))) g 208 (RC.setIfInBounds 1 (J X a2)):=(av.out.2.1.tail.head.alloc _).drewN 1;have iP:=K0.cell 13;rw[dv] at iP;have Kw:=V gj;have KT:=V K0;have Lb:=V bM;clear bM dv;refine aP (λw'=>w'.cell? ⟨j,0,none⟩=some (J X I)/\w'.cell? ⟨j,1,none⟩=some (OB C (OA B) c2)/\w'.cell? ⟨g,13,none⟩=some (OB A9 (OA xs) c9)) 9 (Y 0 (Y 1 (Y 2 (Y 3 (Y 4 (Y 5 (Y 6 (OG 7 (OG 8 .done))))))))) (⟨z0,z1,z2⟩) (λPE dO=>?_)
  iterate 7
   refine af (v:=?_) rfl (by rfl) ?_ ?_
   rotate_left
   ·intro _ T;(try dsimp only at T);obtain⟨s0,s1,s2⟩:=T;go_simp;(try with_reducible rfl)
   simp only[O,Z,U]
  refine aj (v:=?_) (w':=?_) rfl (by rfl) ?_ ?_ ?_;rotate_left 2
  ·go_simp;(try (constructor<;>with_reducible rfl))
  ·exact⟨gj.cell 0,gj.cell 1,iP⟩
  simp only[O,Z,U];have cI:ay w0 [(g,208,RC.setIfInBounds 1 (J X a2))] [⟨w0.heap.size,93,2,OB A9 (OA xs) c9,OA xs,az ia xs⟩,⟨w0.heap.size,189,2,OB C (OA B) c2,OA B,az bd B⟩] (OC ((W5.setCell ⟨g,1,none⟩ (J X a2)).alloc (OI #[J X I,OB C (OA B) c2] 93))):=bB (ap (aw av.out) _);have KH:ab (OC ((W5.setCell ⟨g,1,none⟩ (J X a2)).alloc (OI #[J X I,OB C (OA B) c2] 93))) W5.heap.size 93 [Value.int X I,OB C (OA B) c2].toArray:=(aE (ab.new _ _ _) (by simp)).drewN 1;refine vd AX rfl rfl rfl rfl cI rfl KH (m:=1) (news:=[J X I,OB C (OA B) c2]) rfl (by intro u hu;simp at hu;rcases hu with rfl|rfl<;>rfl) (by omega) ⟨OL _,cI.1.size⟩ (by simp) (by simp) (λv' W7 N KG JT=>⟨?_,?_⟩)
  ·have KY:j<(OC ((W5.setCell ⟨g,1,none⟩ (J X a2)).alloc (OI #[J X I,OB C (OA B) c2] 93))).heap.size:=Kw.out.lt
   have KB:ab W7 j 93 #[J X I,OB C (OA B) c2]:=(JT.block j KY (λe=>by have h1:=(aJ.out.lt j e.symm).2;have h2:=Ku.out;omega)).trans Kw.out;refine⟨KB.cell 0,KB.cell 1,?_⟩;rw[N.2.1.head.cell 13];exact(KT.out.cell 13).symm.trans iP
  simp only[O,Z,U];obtain⟨K9,Kx,Hl⟩:=bg N.2.2.head;dsimp only at Hl;subst Hl;have KM:=N.2.1.head.cell 13;have Lc:=N.2.1.head.frozen 13;have Ky:(RC.setIfInBounds 1 (J X a2))[13]? =some (OB A9 (OA xs) c9):=(by rw[<-K3.out];rfl);dsimp only at KM;rw[Ky] at KM;have KO:=V N;have KR:=V KG;have KQ:=V JT;clear N KG JT z0 z1 z2 iP gj K0 cI KH Ky;refine dO _ _ ?_;clear dO PE;simp only[OD,OE];go_wp2_with fail
  refine⟨rfl,?_⟩;go_wp2_with fail
  go_ret;have cE:=aV KO.out KN.out 13 (OB K9 (OA xs+1) Kx) (g,208,RC.setIfInBounds 1 (J X a2)) (by simp) rfl (by simp);simp[df] at cE;have cI:=bB (ap (aw av.out) (OI #[J X I,OB C (OA B) c2] 93));refine⟨rfl,⟨OB K9 (OA xs+1) Kx,C,c2,?_,?_,?_⟩,cE.1,λg' t cs h ht KE=>?_,λB'=>?_⟩
  ·have h:=cE.2.1.head
   rw[<-K3.out] at h;exact h
  ·have h:=cE.2.2.head
   rw[gR,fX];exact h
  ·exact cE.2.2.tail.head
  ·exact(KR.out g' t cs (((h.below Kv.out h.lt).far (p:=⟨g,1,none⟩) KE (J X a2)).alloc (OI #[J X I,OB C (OA B) c2] 93)) ht).far (p:=⟨g,13,none⟩) KE _
  ·exact aq (dt (ff (co (aq (fW Kv.out) _ _) _)) (iq (KeepsFrom.refl _ _) KQ.out (gH cI.2.2.head))) _ _
 ·obtain⟨j,KA⟩:∃j,w.heap.size=j:=⟨_,rfl⟩
  have K5:ab (OC (w.alloc (OI #[J X 0,OB none 0 0] 93))) g 208 RC:=(L9.out.alloc _).drewN 1;refine aj (v:=?_) (w':=?_) rfl (by rfl) ?_ ?_ ?_;rotate_left 2
  ·go_simp;(try (constructor<;>with_reducible rfl))
  ·exact⟨by rw[K5.cell,jg.out],by rw[K5.cell,dy.out],by rw[K5.cell,jY.out]⟩
  simp only[O,Z,U];have K4:Below w.heap.size w (OC (w.alloc (OI #[J X 0,OB none 0 0] 93))):=((Below.refl _ _).alloc (OL _) _).drew;have rG:(OC (w.alloc (OI #[J X 0,OB none 0 0] 93))).heap.size=w.heap.size+1:=World.size_alloc _ _;have KU:ab (OC (w.alloc (OI #[J X 0,OB none 0 0] 93))) j 93 #[J X 0,OB none 0 0]:=(aE (ab.new _ _ _) KA).drewN 1;refine aG (f:=259) rfl (by rfl) (by first|(go_simp;done)|(go_simp;rfl)) (G.out _ ((show Sl w A _ from L0.out).below K4) ((show Ts w from L5.out).below K4)) ?_;rintro e w2 ⟨v2,rfl,K,eE⟩;obtain⟨C,c2,KK,_⟩:=qn eE;dsimp only at KK eE;subst KK;dsimp only;have D:=K5.below K K5.lt;have K6:=KU.below K KU.lt;refine⟨_,rfl,_,λ_ h=>h,⟨by rw[D.cell,jg.out],by rw[D.cell,dy.out],by rw[D.cell,jY.out]⟩,?_⟩;simp only[O,Z,U]
  iterate 4
   refine af (v:=?_) rfl (by rfl) ?_ ?_
   rotate_left
   ·intro _ T;(try dsimp only at T);go_simp;(try with_reducible rfl)
   simp only[O,Z,U]
  have KF:g≠j:=(by omega);have kA:=(D.far (p:=⟨j,0,none⟩) KF (J X I)).far (p:=⟨j,1,none⟩) KF (OB C (OA B) c2);have k0:=K6.cell 0;have k1:=K6.cell 1;have f0:=K6.frozen 0;have f1:=K6.frozen 1;refine bD _ (w':=?_) rfl (by rfl) ?_ ?_ ?_;rotate_left 1
  ·go_simp;(first|(with_reducible rfl)|(constructor<;>with_reducible rfl)|skip)
  ·exact⟨by rw[kA.cell,jg.out],by rw[kA.cell,dy.out],by rw[kA.cell,jY.out]⟩
  refine aj (v:=?_) (w':=?_) rfl (by rfl) ?_ ?_ ?_;rotate_left 2
  ·go_simp;(try (constructor<;>with_reducible rfl))
  ·exact⟨by rw[kA.cell,jg.out],by rw[kA.cell,dy.out],by rw[kA.cell,jY.out]⟩
  simp only[O,Z,U];refine dO _ _ ?_;clear dO PE;simp only[OD,OE];go_wp2_with fail
  refine⟨rfl,?_⟩;have KC:Below w0.heap.size w0 w2:=(fJ.out.trans (K4.mono fJ.out.size)).trans (K.mono (by rw[rG];have:=fJ.out.size;omega));have L8:w2.ownsRow w0.heap.size 93 2 v (OA xs) (az ia xs):=bL (bL aJ.out K4 (OL _)) K (OL _);have KL:v.ownBlock≠some j:= λh=>by have h1:=(aJ.out.lt j h).2;omega
  have KI:(Value.slice C (OA B) c2).ownBlock≠some j:= λh=>by have h1:=(eE.lt j h).1;rw[rG] at h1;omega
  have M:ay w0 [(j,93,#[J X I,OB C (OA B) c2]),(g,208,RC)] [⟨w0.heap.size,93,2,v,OA xs,az ia xs⟩,⟨w0.heap.size,189,2,OB C (OA B) c2,OA B,az bd B⟩] ((w2.setCell ⟨j,0,none⟩ (J X I)).setCell ⟨j,1,none⟩ (OB C (OA B) c2)):=
   ⟨(KC.setCell (p:=⟨j,0,none⟩) (by show _<=j;have:=fJ.out.size;omega) _).setCell (p:=⟨j,1,none⟩) (by show _<=j;have:=fJ.out.size;omega) _,aa.cons ((K6.set_ 0 (J X I)).set_ 1 (OB C (OA B) c2)) (aa.cons kA (ai _)),
    ar.cons (ek (ek L8 ⟨j,0,none⟩ _ KL) ⟨j,1,none⟩ _ KL) (ar.cons (ek (ek (qN eE (by rw[rG];have:=fJ.out.size;omega)) ⟨j,0,none⟩ _ KI) ⟨j,1,none⟩ _ KI) (aF _))⟩
  have Ht:Below w.heap.size w ((w2.setCell ⟨j,0,none⟩ (J X I)).setCell ⟨j,1,none⟩ (OB C (OA B) c2)):=(((K4.trans (K.mono (by rw[rG];omega))).setCell (p:=⟨j,0,none⟩) (by show _<=j;omega) _).setCell (p:=⟨j,1,none⟩) (by show _<=j;omega) _);have Kt:=V (show ¬j=g by omega);have Ku:=V (show w.heap.size<=j by omega);clear y0 y1 y2 K5 D kA KC K eE KA G K4 KU K6 KF k0 k1 f0 f1 L8 KL KI rG;generalize (w2.setCell ⟨j,0,none⟩ (J X I)).setCell ⟨j,1,none⟩ (OB C (OA B) c2)=W5 at M Ht⊢;have q1:W5.cell? ⟨g,1,none⟩=some (J X a):=(by rw[M.2.1.tail.head.cell,dy.out]);have fq:=M.2.1.tail.head.frozen 1;have La:=V M;have Kv:=V Ht;have Hu:=aV M KN.out 1 (J X a2) (g,208,RC) (by simp) rfl (by simp);have kU:¬j=g:=Kt.out;simp[df,kU] at Hu;have av:=V Hu;clear M Ht Hu kU
  go_upto_region 3 with fail
  clear q1 fq;have bM:=bB av.out;have dv:(RC.setIfInBounds 1 (J X a2))[13]? =some v:=(by rw[<-K3.out];rfl);obtain⟨A9,c9,KZ⟩:=bg aJ.out;subst KZ;have z0:=bM.2.1.head.cell 0;have z1:=bM.2.1.head.cell 1;have z2:=bM.2.1.tail.head.cell 13;rw[dv] at z2;have gj:ab (OC ((W5.setCell ⟨g,1,none⟩ (J X a2)).alloc (OI #[J X I,OB C (OA B) c2] 93))) j 93 #[J X I,OB C (OA B) c2]:=(av.out.2.1.head.alloc _).drewN 1;have K0:ab (OC ((W5.setCell ⟨g,1,none⟩ (J X a2)).alloc (OI #[J X I,OB C (OA B) c2] 93))) g 208 (RC.setIfInBounds 1 (J X a2)):=(av.out.2.1.tail.head.alloc _).drewN 1;have iP:=K0.cell 13;rw[dv] at iP;have Kw:=V gj;have KT:=V K0;have Lb:=V bM;clear bM dv;refine aP (λw'=>w'.cell? ⟨j,0,none⟩=some (J X I)/\w'.cell? ⟨j,1,none⟩=some (OB C (OA B) c2)/\w'.cell? ⟨g,13,none⟩=some (OB A9 (OA xs) c9)) 9 (Y 0 (Y 1 (Y 2 (Y 3 (Y 4 (Y 5 (Y 6 (OG 7 (OG 8 .done))))))))) (⟨z0,z1,z2⟩) (λPE dO=>?_)
  iterate 7
   refine af (v:=?_) rfl (by rfl) ?_ ?_
   rotate_left
   ·intro _ T;(try dsimp only at T);obtain⟨s0,s1,s2⟩:=T;go_simp;(try with_reducible rfl)
   simp only[O,Z,U]
  refine aj (v:=?_) (w':=?_) rfl (by rfl) ?_ ?_ ?_;rotate_left 2
  ·go_simp;(try (constructor<;>with_reducible rfl))
  ·exact⟨gj.cell 0,gj.cell 1,iP⟩
  simp only[O,Z,U];have cI:ay w0 [(g,208,RC.setIfInBounds 1 (J X a2))] [⟨w0.heap.size,93,2,OB A9 (OA xs) c9,OA xs,az ia xs⟩,⟨w0.heap.size,189,2,OB C (OA B) c2,OA B,az bd B⟩] (OC ((W5.setCell ⟨g,1,none⟩ (J X a2)).alloc (OI #[J X I,OB C (OA B) c2] 93))):=bB (ap (aw av.out) _);have KH:ab (OC ((W5.setCell ⟨g,1,none⟩ (J X a2)).alloc (OI #[J X I,OB C (OA B) c2] 93))) W5.heap.size 93 [Value.int X I,OB C (OA B) c2].toArray:=(aE (ab.new _ _ _) (by simp)).drewN 1;refine vd AX rfl rfl rfl rfl cI rfl KH (m:=1) (news:=[J X I,OB C (OA B) c2]) rfl (by intro u hu;simp at hu;rcases hu with rfl|rfl<;>rfl) (by omega) ⟨OL _,cI.1.size⟩ (by simp) (by simp) (λv' W7 N KG JT=>⟨?_,?_⟩)
  ·have KY:j<(OC ((W5.setCell ⟨g,1,none⟩ (J X a2)).alloc (OI #[J X I,OB C (OA B) c2] 93))).heap.size:=Kw.out.lt
   have KB:ab W7 j 93 #[J X I,OB C (OA B) c2]:=(JT.block j KY (λe=>by have h1:=(aJ.out.lt j e.symm).2;have h2:=Ku.out;omega)).trans Kw.out;refine⟨KB.cell 0,KB.cell 1,?_⟩;rw[N.2.1.head.cell 13];exact(KT.out.cell 13).symm.trans iP
  simp only[O,Z,U];obtain⟨K9,Kx,Hl⟩:=bg N.2.2.head;dsimp only at Hl;subst Hl;have KM:=N.2.1.head.cell 13;have Lc:=N.2.1.head.frozen 13;have Ky:(RC.setIfInBounds 1 (J X a2))[13]? =some (OB A9 (OA xs) c9):=(by rw[<-K3.out];rfl);dsimp only at KM;rw[Ky] at KM;have KO:=V N;have KR:=V KG;have KQ:=V JT;clear N KG JT z0 z1 z2 iP gj K0 cI KH Ky;refine dO _ _ ?_;clear dO PE;simp only[OD,OE];go_wp2_with fail
  refine⟨rfl,?_⟩;go_wp2_with fail
  go_ret;have cE:=aV KO.out KN.out 13 (OB K9 (OA xs+1) Kx) (g,208,RC.setIfInBounds 1 (J X a2)) (by simp) rfl (by simp);simp[df] at cE;have cI:=bB (ap (aw av.out) (OI #[J X I,OB C (OA B) c2] 93));refine⟨rfl,⟨OB K9 (OA xs+1) Kx,C,c2,?_,?_,?_⟩,cE.1,λg' t cs h ht KE=>?_,λB'=>?_⟩
  ·have h:=cE.2.1.head
   rw[<-K3.out] at h;exact h
  ·have h:=cE.2.2.head
   rw[gR,fX];exact h
  ·exact cE.2.2.tail.head
  ·exact(KR.out g' t cs (((h.below Kv.out h.lt).far (p:=⟨g,1,none⟩) KE (J X a2)).alloc (OI #[J X I,OB C (OA B) c2] 93)) ht).far (p:=⟨g,13,none⟩) KE _
  ·exact aq (dt (ff (co (aq (fW Kv.out) _ _) _)) (iq (KeepsFrom.refl _ _) KQ.out (gH cI.2.2.head))) _ _
end
section
open Go Go.RowKit
open List renaming length→O
open Int renaming le_refl→U
theorem rh {s:List UInt8}:∀{cs:List (List UInt8)}{ns:List Int}{n k:Int},cy s cs ns=some (n,k)->n∈ns/\0<=k/\k<=O s
 |[],_,_,_,h=>by simp[cy] at h
 |_::_,[],_,_,h=>by simp[cy] at h
 |c::cs,m::ns,n,k,h=>by
  unfold cy at h
  split at h
  ·rename_i B
   have j:=(List.isPrefixOf_iff_prefix.1 B).length_le;simp only[Option.some.injEq,Prod.mk.injEq] at h;obtain⟨rfl,rfl⟩:=h;exact⟨by simp,by omega,by omega⟩
  ·obtain⟨a,b⟩:=rh h
   exact⟨List.mem_cons_of_mem _ a,b⟩
theorem gV {cs:List (List UInt8)}{ns:List Int}{l:List UInt8}{i:Int}(B:0<=i)(C:i<=8*(O l:Int)):
  0<=(ac cs ns l i).2.1/\i+(ac cs ns l i).2.1<=8*(O l:Int)/\((ac cs ns l i).2.2=0->(ac cs ns l i).1∈ns):=by
 unfold ac jZ;rw[if_neg (by omega)];have hl:(aI l i.toNat (min 24 (8*O l - i.toNat))).length<=8*O l - i.toNat:=by rw[bo];omega
 generalize aI l i.toNat (min 24 (8*O l - i.toNat))=s at hl
 cases j:cy s cs ns with
 |some p=>
  obtain⟨n,k⟩:=p;obtain⟨a,b,c⟩:=rh j;exact⟨b,by show i+k<=_;omega,λ_=>a⟩
 |none=>
  dsimp only
  split
  ·exact⟨by decide,by show i+0<=_;omega,λh=>by cases h⟩
  ·exact⟨by decide,by show i+0<=_;omega,λh=>by cases h⟩
theorem Dn:au.all (λn=>decide (-16<=n)&&decide (n<=15))=true:=by kernel_rfl
theorem sT {l:List UInt8}{i:Int}(j:0<=i)(B:i<=8*(O l:Int))(he:(ac ao au l i).2.2=0): -16<=(ac ao au l i).1/\(ac ao au l i).1<=15:=by
 have h:=List.all_eq_true.1 Dn _ ((gV j B).2.2 he)
 simpa using h
theorem o6 (l:List UInt8):∀(f:Nat)(i:Int)(first:Bool)(left:Int),0<=i->i<=8*(O l:Int)->(bp l f i first left).2.2=0->i<=(bp l f i first left).2.1/\(bp l f i first left).2.1<=8*(O l:Int)
 |0,i,first,left,h0,h1,h=>by simp[bp] at h
 |f+1,i,first,left,h0,h1,h=>by
  have j:=lO l i first h0 h1;unfold mS at j
  have D:bp l (f+1) i first left=(if (aS l i first).2.1 then([],i+(aS l i first).2.2.1,0) else if (aS l i first).2.2.2 !=0 then([],0,(aS l i first).2.2.2) else
   if left - ((aS l i first).1.1+1)<0 then([],0,11) else
   ((aS l i first).1::(bp l f (i+(aS l i first).2.2.1) false (left - ((aS l i first).1.1+1))).1,(bp l f (i+(aS l i first).2.2.1) false (left - ((aS l i first).1.1+1))).2.1,(bp l f (i+(aS l i first).2.2.1) false (left - ((aS l i first).1.1+1))).2.2)):=rfl
  rw[D] at h⊢
  split at h
  ·rename_i he
   rw[if_pos he];exact⟨by show i<=i+_;omega,by show i+_<=_;omega⟩
  ·rename_i he
   rw[if_neg he]
   split at h
   ·rename_i h2
    dsimp only at h;rw[h] at h2
    cases h2
   ·rename_i h2
    rw[if_neg h2]
    split at h
    ·cases h
    ·rename_i C
     rw[if_neg C];have B:=o6 l f (i+(aS l i first).2.2.1) false (left - ((aS l i first).1.1+1)) (by omega) (by omega) h;exact⟨Int.le_trans (by omega) B.1,B.2⟩
theorem AN {l:List UInt8}{i:Int}{intra:Bool}(C:0<=i)(D:i<=8*(O l:Int)):0<=(bK l i intra).2.1/\i+(bK l i intra).2.1<=8*(O l:Int):=by
 unfold bK;rw[if_neg (by omega),if_neg (by omega)]
 cases intra with
 |true=>
  rw[if_pos rfl]
  split
  ·exact⟨U 0,by show i+0<=_;omega⟩
  ·rename_i G
   dsimp only
   split
   ·exact⟨U 0,by show i+0<=_;omega⟩
   ·split
    ·exact⟨U 0,by show i+0<=_;omega⟩
    ·rename_i B
     have j:(bp l 66 (i+8) false 63).2.2=0:=(by simpa using B);have h:=o6 l 66 (i+8) false 63 (by omega) (by omega) j;exact⟨by show 0<=_ - i;omega,by show i+(_ - i)<=_;omega⟩
 |false=>
  rw[if_neg (by decide)];dsimp only
  split
  ·exact⟨U 0,by show i+0<=_;omega⟩
  ·rename_i B
   have j:(bp l 66 i true 64).2.2=0:=(by simpa using B);have h:=o6 l 66 i true 64 (by omega) (by omega) j;exact⟨by show 0<=_ - i;omega,by show i+(_ - i)<=_;omega⟩
def ax (s:aY) (t:Nat):aY:=if 4<=t/\s.pt.1=true then{s with pa:=63} else s
def aC (l:List UInt8) (s:aY):Nat->(aY×List bH)×Int
 |0=>(({s with a:=s.a+(ac aD aN l s.a).2.1,kd:=(ac aD aN l s.a).1,pt:=lg (ac aD aN l s.a).1},[]),(ac aD aN l s.a).2.2)
 |1=>if 8*(O l:Int)<s.a+5 then(({s with a:=s.a+5,qu:=0},[]),5) else(({s with a:=s.a+5,qu:=((aB l s.a.toNat 5:Nat):Int)},[]),if ((aB l s.a.toNat 5:Nat):Int)==0 then 9 else 0)
 |2=>if (ac ao au l s.a).2.2 !=0 then((s,[]),(ac ao au l s.a).2.2) else(({s with a:=s.a+(ac ao au l s.a).2.1,mx:=(aW s.x (ac ao au l s.a).1).1},[]),(aW s.x (ac ao au l s.a).1).2)
 |3=>if (ac ao au l s.a).2.2 !=0 then((s,[]),(ac ao au l s.a).2.2) else(({s with a:=s.a+(ac ao au l s.a).2.1,my:=(aW s.y (ac ao au l s.a).1).1},[]),(aW s.y (ac ao au l s.a).1).2)
 |4=>(({s with a:=s.a+(ac bm bO l s.a).2.1,pa:=(ac bm bO l s.a).1},[]),(ac bm bO l s.a).2.2)
 |_=>(({s with a:=s.a+(bK l s.a s.pt.1).2.1},[(bK l s.a s.pt.1).1]),(bK l s.a s.pt.1).2.2)
def eJ (s:aY):List Nat:=(if s.pt.2.1 then[1] else[])++(if s.pt.2.2.1 then[2,3] else[])++(if s.pt.2.2.2.2 then[4] else[])
def br (l:List UInt8):List Nat->aY->List bH->(aY×List bH)×Int
 |[],s,bl=>((s,bl),0)
 |t::ts,s,bl=>if (aC l (ax s t) t).2 !=0 then(((aC l (ax s t) t).1.1,bl++(aC l (ax s t) t).1.2),(aC l (ax s t) t).2) else br l ts (aC l (ax s t) t).1.1 (bl++(aC l (ax s t) t).1.2)
theorem de (l:List UInt8)(t:Nat)(ts:List Nat)(s:aY)(bl:List bH):br l (t::ts) s bl=if (aC l (ax s t) t).2 !=0 then(((aC l (ax s t) t).1.1,bl++(aC l (ax s t) t).1.2),(aC l (ax s t) t).2) else br l ts (aC l (ax s t) t).1.1 (bl++(aC l (ax s t) t).1.2):=rfl
end
open Go Go.RowKit
attribute [local go_sem] Oper.semAt_some

end Go.Proofs.YthhijgcfbjcgiaaGreatDoor
