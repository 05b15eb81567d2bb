/- Rd, RdP, RdB, Stp -/
import Derived.Test.YthhijgcfbjcgiaaGreatDoorQ33
import Derived.Test.YthhijgcfbjcgiaaGreatDoorQ30
namespace Go.Proofs.YthhijgcfbjcgiaaGreatDoor
section
open Go Go.RowKit
attribute [local go_sem] Oper.semAt_some
set_option maxHeartbeats 16000000
set_option maxRecDepth 100000
open List renaming setIfInBounds_toArray→O,set_cons_succ→U,set_cons_zero→Z,length→OA,drop_succ_cons→OD,drop_zero→OE
open Go.Lib renaming hid→V
open Go.Proofs.YthhijgcfbjcgiaaGreatDoor.cb renaming take→Y,step→OG
open Go.IntKind renaming i64→X,i64→OH
open Go.Value renaming int→J,slice→OB,pointer→OF,bool→OJ
open Go.World renaming drew→OC
open Go.Obj renaming cells→OI
open Go.Ending renaming returned→OK
open Nat renaming le_refl→OL
open Tryz renaming prog→OM,ntmps255→ON,func255→OO
structure aZ where
 a:Int
 pt:Bool×Bool×Bool×Bool×Bool
 ad:Int
 kd:Int
 qu:Int
 mx:Int
 my:Int
 pa:Int
 v:Value
 x:Int
 y:Int
def gj (A:Option Addr) (n c:Nat) (s:aZ):Array Value:= #[OB A n c,J X s.a,OJ s.pt.1,OJ s.pt.2.1,OJ s.pt.2.2.1,OJ s.pt.2.2.2.1,OJ s.pt.2.2.2.2,J X s.ad,J X s.kd,J X s.qu,J X s.mx,J X s.my,J X s.pa,s.v,J X s.x,J X s.y]
def ll (k:Int):Bool×Bool×Bool×Bool×Bool:=if f9 k then(pI k,pQ k,pV k,pF k,pC k) else(false,false,false,false,false)
theorem JC (k:Int):li k=[OJ (ll k).1,OJ (ll k).2.1,OJ (ll k).2.2.1,OJ (ll k).2.2.2.1,OJ (ll k).2.2.2.2]:=by
 unfold li ll
 split<;>rfl
abbrev gm (g:Nat) (A B:World):Prop:=dP (λk=>k=g) A B
theorem kP {g:Nat}{w w' j:World}(h:gm g w w')(B:Below w'.heap.size w' j):gm g w j:=h.trans (dP.of_below B)
theorem gN {g:Nat}{w w':World}(h:gm g w w'):gm g w w'.drew:=h.trans ⟨rfl,rfl,rfl,OL _,λ_ _ _=>rfl⟩
theorem cX {g:Nat}{w w':World}(h:gm g w w')(i:Nat)(v:Value):gm g w (w'.setCell ⟨g,i,none⟩ v):=h.set (.inl rfl) v
theorem By (g:Nat)(A:Option Addr)(n c:Nat)(l:List UInt8)(s:aZ)(w:World)(hb:ab w g 208 (gj A n c s))(hA:Sl w A (l.map af))(hn:OA l=n)(hsz:n<=2 ^ 47)(hi: -9223372036854775808<=s.a/\s.a<=9223372036854775807)(a2:Int)(D:OH.wrap (s.a+(ac ay aG l s.a).2.1)=a2):
  Calls OM 224 #[OF (some ⟨g,0,none⟩)] w λe w'=>e=OK (J X (ac ay aG l s.a).2.2)/\ab w' g 208 (gj A n c {s with a:=a2,kd:=(ac ay aG l s.a).1,pt:=ll (ac ay aG l s.a).1})/\gm g w w':=by
 obtain⟨a,⟨t0,t1,t2,t3,t4⟩,ad,kd,qu,mx,my,pa,v,x,y⟩:=s;dsimp only at hi D⊢;have G:=V (λW hW=>Gd A n c l a W hW hn hsz hi);have CO:=V (λW=>nA (ac ay aG l a).1 W);rw[JC] at CO;generalize ll (ac ay aG l a).1=np at*;obtain⟨⟨rk,rn,re⟩,hr⟩:∃r,ac ay aG l a=r:=⟨_,rfl⟩;rw[hr] at G CO D⊢;dsimp only at G CO D⊢;obtain⟨n0,n1,n2,n3,n4⟩:=np;dsimp only at CO;unfold gj at*;dsimp only at*;generalize mN rk=oe at CO;have HB:=V hb;have HA:=V hA;have HW:=V D;have hw:OH.wrap (a+rn)=a2:=D;have M:ab w.drew g 208 _:=hb.drewN 1;have y0:=M.cell 0;have y1:=M.cell 1;have N:=V M;have aC:=V (show Sl w.drew A (l.map af) from hA);clear hb hA hr hi D M hn hsz
 go_enter Tryz.func224,Tryz.ntmps224
 go_wp2_with fail
 refine bf (λw'=>w'.cell? ⟨g,0,none⟩=some (OB A n c)/\w'.cell? ⟨g,1,none⟩=some (J X a)) 19 (Y 0 (Y 1 (Y 2 (Y 3 (Y 4 (Y 5 (Y 6 (Y 7 (Y 8 (OG 9 (Y 10 (Y 11 (Y 12 (Y 13 (Y 14 (Y 15 (Y 16 (OG 17 (OG 18 .done))))))))))))))))))) (⟨y0,y1⟩) (λPE cz=>?_)
 iterate 9
  refine aj (v:=?_) rfl (by rfl) ?_ ?_
  rotate_left
  ·intro _ K;(try dsimp only at K);obtain⟨s0,s1⟩:=K;go_simp;(try with_reducible rfl)
  simp only[O,Z,U]
 refine aX (f:=254) rfl (by rfl) (by first|(go_simp;done)|(go_simp;rfl)) (G.out _ aC.out) ?_;rintro e w2 ⟨rfl,T⟩;have B:=N.out.below T N.out.lt;have dt:=V (kP (gN (dP.refl (λk=>k=g) w)) T);refine⟨_,rfl,_,λ_ h=>h,⟨B.cell 0,B.cell 1⟩,?_⟩;simp only[O,Z,U]
 iterate 7
  refine aj (v:=?_) rfl (by rfl) ?_ ?_
  rotate_left
  ·intro _ K;(try dsimp only at K);go_simp;(try with_reducible rfl)
  simp only[O,Z,U]
 have k8:=B.cell 8;have f8:=B.frozen 8;have C:=B.set_ 8 (J X rk);refine bG _ (w':=?_) rfl (by rfl) ?_ ?_ ?_;rotate_left 1
 ·go_simp;(first|(with_reducible rfl)|(constructor<;>with_reducible rfl)|skip)
 ·exact⟨C.cell 0,C.cell 1⟩
 refine az (v:=?_) (w':=?_) rfl (by rfl) ?_ ?_ ?_;rotate_left 2
 ·go_simp;(try (constructor<;>with_reducible rfl))
 ·exact⟨C.cell 0,C.cell 1⟩
 simp only[O,Z,U];refine cz _ _ ?_;clear cz PE;simp only[OD,OE];have bE:=V (cX dt.out 8 (J X rk));have I:=V C;clear B C T k8 f8 y0 y1 N aC HB HA G;generalize w2.setCell ⟨g,8,none⟩ (J X rk)=w3 at bE I⊢;have k8:w3.cell? ⟨g,8,none⟩=some (J X rk):=by rw[I.out.cell];rfl
 go_wp2_with fail
 refine⟨rfl,?_⟩;go_wp2_with (go_at_call 106;refine(CO.out _).mono ?_;rintro e w4 ⟨rfl,aB⟩;have j:=V (I.out.below aB I.out.lt);have dD:=V (kP bE.out aB);clear aB;have c1:w4.cell? ⟨g,1,none⟩=some (J X a):=(by rw[j.out.cell];rfl);have c2:w4.cell? ⟨g,2,none⟩=some (OJ t0):=(by rw[j.out.cell];rfl);have c3:w4.cell? ⟨g,3,none⟩=some (OJ t1):=(by rw[j.out.cell];rfl);have c4:w4.cell? ⟨g,4,none⟩=some (OJ t2):=(by rw[j.out.cell];rfl);have c5:w4.cell? ⟨g,5,none⟩=some (OJ t3):=(by rw[j.out.cell];rfl);have c6:w4.cell? ⟨g,6,none⟩=some (OJ t4):=(by rw[j.out.cell];rfl);have f1:=j.out.frozen 1;have f2:=j.out.frozen 2;have f3:=j.out.frozen 3;have f4:=j.out.frozen 4;have f5:=j.out.frozen 5;have f6:=j.out.frozen 6)
 go_ret;have h6:=(((((j.out.set_ 2 (OJ n0)).set_ 3 (OJ n1)).set_ 4 (OJ n2)).set_ 5 (OJ n3)).set_ 6 (OJ n4)).set_ 1 (J X a2);simp only[O,Z,U] at h6;exact⟨rfl,h6,cX (cX (cX (cX (cX (cX dD.out 2 _) 3 _) 4 _) 5 _) 6 _) 1 _⟩
theorem Dc (g:Nat)(A:Option Addr)(n c:Nat)(l:List UInt8)(s:aZ)(w:World)(hb:ab w g 208 (gj A n c s))(hT:Ts w)(hA:Sl w A (l.map af))(hn:OA l=n)(hsz:n<=2 ^ 47)(hi: -9223372036854775808<=s.a/\s.a<=9223372036854775807)(a2:Int)(C:OH.wrap (s.a+(ac bo bN l s.a).2.1)=a2):
  Calls OM 227 #[OF (some ⟨g,0,none⟩)] w λe w'=>e=OK (J X (ac bo bN l s.a).2.2)/\ab w' g 208 (gj A n c {s with a:=a2,pa:=(ac bo bN l s.a).1})/\gm g w w':=by
 obtain⟨a,⟨t0,t1,t2,t3,t4⟩,ad,kd,qu,mx,my,pa,v,x,y⟩:=s;dsimp only at hi C⊢;have G:=V (λW hT hW=>zG A n c l a W hT hW hn hsz hi);obtain⟨⟨rk,rn,re⟩,hr⟩:∃r,ac bo bN l a=r:=⟨_,rfl⟩;rw[hr] at G C⊢;dsimp only at G C⊢;unfold gj at*;dsimp only at*;have HB:=V hb;have HA:=V hA;have HW:=V C;have hw:OH.wrap (a+rn)=a2:=C;have K:ab w.drew g 208 _:=hb.drewN 1;have y0:=K.cell 0;have y1:=K.cell 1;have M:=V K;have T:=V (show Sl w.drew A (l.map af) from hA);have cz:=V (show Ts w.drew from hT);clear hb hA hr hi C K hn hsz hT
 go_enter Tryz.func227,Tryz.ntmps227
 go_wp2_with fail
 refine bf (λw'=>w'.cell? ⟨g,0,none⟩=some (OB A n c)/\w'.cell? ⟨g,1,none⟩=some (J X a)) 19 (Y 0 (Y 1 (Y 2 (Y 3 (Y 4 (Y 5 (Y 6 (Y 7 (Y 8 (OG 9 (Y 10 (Y 11 (Y 12 (Y 13 (Y 14 (Y 15 (Y 16 (OG 17 (OG 18 .done))))))))))))))))))) (⟨y0,y1⟩) (λPE aC=>?_)
 iterate 9
  refine aj (v:=?_) rfl (by rfl) ?_ ?_
  rotate_left
  ·intro _ I;(try dsimp only at I);obtain⟨s0,s1⟩:=I;go_simp;(try with_reducible rfl)
  simp only[O,Z,U]
 refine aX (f:=258) rfl (by rfl) (by first|(go_simp;done)|(go_simp;rfl)) (G.out _ cz.out T.out) ?_;rintro e w2 ⟨rfl,N⟩;have j:=M.out.below N M.out.lt;have bE:=V (kP (gN (dP.refl (λk=>k=g) w)) N);refine⟨_,rfl,_,λ_ h=>h,⟨j.cell 0,j.cell 1⟩,?_⟩;simp only[O,Z,U]
 iterate 7
  refine aj (v:=?_) rfl (by rfl) ?_ ?_
  rotate_left
  ·intro _ I;(try dsimp only at I);go_simp;(try with_reducible rfl)
  simp only[O,Z,U]
 have k8:=j.cell 12;have f8:=j.frozen 12;have B:=j.set_ 12 (J X rk);refine bG _ (w':=?_) rfl (by rfl) ?_ ?_ ?_;rotate_left 1
 ·go_simp;(first|(with_reducible rfl)|(constructor<;>with_reducible rfl)|skip)
 ·exact⟨B.cell 0,B.cell 1⟩
 refine az (v:=?_) (w':=?_) rfl (by rfl) ?_ ?_ ?_;rotate_left 2
 ·go_simp;(try (constructor<;>with_reducible rfl))
 ·exact⟨B.cell 0,B.cell 1⟩
 simp only[O,Z,U];refine aC _ _ ?_;clear aC PE;simp only[OD,OE];have aB:=V (cX bE.out 12 (J X rk));have D:=V B;clear j B N k8 f8 y0 y1 M T HB HA G;generalize w2.setCell ⟨g,12,none⟩ (J X rk)=w3 at aB D⊢;have c1:w3.cell? ⟨g,1,none⟩=some (J X a):=by rw[D.out.cell];rfl
 have f1:=D.out.frozen 1;go_wp2_with fail
 refine⟨rfl,?_⟩;go_wp2_with fail
 go_ret;exact⟨rfl,D.out.set_ 1 (J X a2),cX aB.out 1 _⟩
theorem yo (g:Nat)(A:Option Addr)(n c:Nat)(l:List UInt8)(s:aZ)(w:World)(hb:ab w g 208 (gj A n c s))(hA:Sl w A (l.map af))(q er a2:Int)
  (hR:∀W,Sl W A (l.map af)->Calls OM 56 #[OB A n c,J X s.a,J X 5] W λe w'=>e=OK (.tuple #[J X q,J X er])/\W=w') (aC:OH.wrap (s.a+5)=a2) (dY:er=0\/er=5):
  Calls OM 225 #[OF (some ⟨g,0,none⟩)] w λe w'=>e=OK (J X (if er==0&&q==0 then 9 else er))/\ab w' g 208 (gj A n c {s with a:=a2,qu:=q})/\gm g w w':=by
 obtain⟨a,⟨t0,t1,t2,t3,t4⟩,ad,kd,qu,mx,my,pa,v,x,y⟩:=s;dsimp only at hR aC⊢;have G:=V hR;unfold gj at*;dsimp only at*;have HB:=V hb;have HA:=V hA;have hw:OH.wrap (a+5)=a2:=aC;have N:ab w.drew g 208 _:=hb.drewN 1;have y0:=N.cell 0;have y1:=N.cell 1;have cz:=V N;have bE:=V (show Sl w.drew A (l.map af) from hA);obtain⟨T,D⟩:∃R:Int,(if er==0&&q==0 then 9 else er)=R:=⟨_,rfl⟩;rw[D];have B:=V D;clear hb hA hR aC N D
 go_enter Tryz.func225,Tryz.ntmps225
 go_wp2_with fail
 refine bf (λw'=>w'.cell? ⟨g,0,none⟩=some (OB A n c)/\w'.cell? ⟨g,1,none⟩=some (J X a)) 17 (Y 0 (Y 1 (Y 2 (Y 3 (Y 4 (Y 5 (Y 6 (Y 7 (Y 8 (OG 9 (Y 10 (Y 11 (Y 12 (Y 13 (Y 14 (Y 15 (OG 16 .done))))))))))))))))) (⟨y0,y1⟩) (λPE dD=>?_)
 iterate 9
  refine aj (v:=?_) rfl (by rfl) ?_ ?_
  rotate_left
  ·intro _ M;(try dsimp only at M);obtain⟨s0,s1⟩:=M;go_simp;(try with_reducible rfl)
  simp only[O,Z,U]
 refine aX (f:=56) rfl (by rfl) (by first|(go_simp;done)|(go_simp;rfl)) (G.out _ bE.out) ?_;rintro e w2 ⟨rfl,rfl⟩;have K:=cz.out;have dE:=V (gN (dP.refl (λk=>k=g) w));refine⟨_,rfl,_,λ_ h=>h,⟨K.cell 0,K.cell 1⟩,?_⟩;simp only[O,Z,U]
 iterate 6
  refine aj (v:=?_) rfl (by rfl) ?_ ?_
  rotate_left
  ·intro _ M;(try dsimp only at M);go_simp;(try with_reducible rfl)
  simp only[O,Z,U]
 have k8:=HB.out.cell 9;have f8:=HB.out.frozen 9;have aB:=K.set_ 9 (J X q);refine bG _ (w':=?_) rfl (by rfl) ?_ ?_ ?_;rotate_left 1
 ·go_simp;(first|(with_reducible rfl)|(constructor<;>with_reducible rfl)|skip)
 ·exact⟨aB.cell 0,aB.cell 1⟩
 refine dD _ _ ?_;clear dD PE;simp only[OD,OE];have dt:ab (OC (w.setCell ⟨g,9,none⟩ (J X q))) g 208 _:=(HB.out.set_ 9 (J X q)).drewN 1;have j:=V dt;have I:=V (gN (cX (dP.refl (λk=>k=g) w) 9 (J X q)));clear K aB dt k8 f8 y0 y1 cz bE HA G HB dE;generalize OC (w.setCell ⟨g,9,none⟩ (J X q))=w3 at I j⊢;have c1:w3.cell? ⟨g,1,none⟩=some (J X a):=by rw[j.out.cell];rfl
 have c9:w3.cell? ⟨g,9,none⟩=some (J X q):=by rw[j.out.cell];rfl
 have f1:=j.out.frozen 1;go_wp2_with fail
 refine⟨rfl,?_⟩;rcases dY with rfl|rfl
 ·cases hq:(q==0) with
  |true=>
   have C:T=9:=(by rw[<-B.out,hq];rfl);subst C;go_wp2_with fail
   go_ret;exact⟨rfl,j.out.set_ 1 (J X a2),cX I.out 1 _⟩
  |false=>
   have C:T=0:=(by rw[<-B.out,hq];rfl);subst C;go_wp2_with fail
   go_ret;exact⟨rfl,j.out.set_ 1 (J X a2),cX I.out 1 _⟩
 ·have C:T=5:=by rw[<-B.out];rfl
  subst C;go_wp2_with fail
  go_ret;exact⟨rfl,j.out.set_ 1 (J X a2),cX I.out 1 _⟩
theorem GG (g b0 b1 b2:Nat)(fr:Int)(A:Option Addr)(n c:Nat)(l:List UInt8)(s:aZ)(w:World)(hb:ab w g 208 (gj A n c s))(h0:ab w b0 206 #[OF (some ⟨g,0,none⟩)])(h1:ab w b1 3 #[J X fr])(h2:ab w b2 250 #[OF (some ⟨g,10,none⟩)])
  (hA:Sl w A (l.map af)) (hn:OA l=n) (hsz:n<=2 ^ 47) (hi: -9223372036854775808<=s.a/\s.a<=9223372036854775807) (hp:aK fr=true) (hd:(ac ak ap l s.a).2.2=0-> -16<=(ac ak ap l s.a).1/\(ac ak ap l s.a).1<=15) (a2:Int) (K:OH.wrap (s.a+(ac ak ap l s.a).2.1)=a2):
  Calls OM 255 #[OF (some ⟨b0,0,none⟩),OF (some ⟨b1,0,none⟩),OF (some ⟨b2,0,none⟩)] w λe w'=>
   ((ac ak ap l s.a).2.2≠0/\e=OK (J X (ac ak ap l s.a).2.2)/\ab w' g 208 (gj A n c s)/\gm g w w')\/
   ((ac ak ap l s.a).2.2=0/\e=OK (J X (aY fr (ac ak ap l s.a).1).2)/\ab w' g 208 (gj A n c {s with a:=a2,mx:=(aY fr (ac ak ap l s.a).1).1})/\gm g w w'):=by
 obtain⟨a,⟨t0,t1,t2,t3,t4⟩,ad,kd,qu,mx,my,pa,v,x,y⟩:=s;dsimp only at hi K hd⊢;have G:=V (λW hW=>tx A n c l a W hW hn hsz hi);have T:=V (λh3 W=>rh fr (ac ak ap l a).1 W hp (hd h3).1 (hd h3).2);obtain⟨⟨rk,rn,re⟩,hr⟩:∃r,ac ak ap l a=r:=⟨_,rfl⟩;rw[hr] at G T K⊢;dsimp only at G T K⊢;obtain⟨⟨tv,te⟩,ht⟩:∃r,aY fr rk=r:=⟨_,rfl⟩;rw[ht] at T⊢;dsimp only at T⊢;unfold gj at*;dsimp only at*;have Io:g≠b0:=aU hb h0 (by simp);have Ip:g≠b1:=aU hb h1 (by simp);have Iq:g≠b2:=aU hb h2 (by simp);have hw:OH.wrap (a+rn)=a2:=K;have N:ab w.drew g 208 _:=hb.drewN 1;have eE:ab w.drew b0 206 _:=h0.drewN 1;have rX:ab w.drew b1 3 _:=h1.drewN 1;have wj:ab w.drew b2 250 _:=h2.drewN 1;have y0:=N.cell 0;have y1:=N.cell 1;have y2:=eE.cell 0;have aB:=V N;have aC:=V eE;have bE:=V rX;have cz:=V wj;have fW:=V (show Sl w.drew A (l.map af) from hA);have KC:=V Io;have gy:=V Ip;have gJ:=V Iq;clear hb hA hr hi K N hn hsz eE rX wj h0 h1 h2 hd hp ht Io Ip Iq
 go_enter OO,ON
 go_wp2_with fail
 refine bf (λw'=>w'.cell? ⟨g,0,none⟩=some (OB A n c)/\w'.cell? ⟨g,1,none⟩=some (J X a)/\w'.cell? ⟨b0,0,none⟩=some (OF (some ⟨g,0,none⟩))) 15 (Y 0 (Y 1 (Y 2 (Y 3 (Y 4 (Y 5 (Y 6 (Y 7 (OG 8 (Y 9 (Y 10 (Y 11 (Y 12 (OG 13 (OG 14 .done))))))))))))))) (⟨y0,y1,y2⟩) (λPE I=>?_)
 iterate 8
  refine aj (v:=?_) rfl (by rfl) ?_ ?_
  rotate_left
  ·intro _ j;(try dsimp only at j);obtain⟨s0,s1,s2⟩:=j;go_simp;(try with_reducible rfl)
  simp only[O,Z,U]
 refine aX (f:=256) rfl (by rfl) (by first|(go_simp;done)|(go_simp;rfl)) (G.out _ fW.out) ?_;rintro e w2 ⟨rfl,C⟩;have B:=aB.out.below C aB.out.lt;have D:=aC.out.below C aC.out.lt;have jT:=bE.out.below C bE.out.lt;have kz:=cz.out.below C cz.out.lt;have hU:=V (kP (gN (dP.refl (λk=>k=g) w)) C);refine⟨_,rfl,_,λ_ h=>h,⟨B.cell 0,B.cell 1,D.cell 0⟩,?_⟩;simp only[O,Z,U]
 iterate 4
  refine aj (v:=?_) rfl (by rfl) ?_ ?_
  rotate_left
  ·intro _ j;(try dsimp only at j);go_simp;(try with_reducible rfl)
  simp only[O,Z,U]
 refine az (v:=?_) (w':=?_) rfl (by rfl) ?_ ?_ ?_;rotate_left 2
 ·go_simp;(try (constructor<;>with_reducible rfl))
 ·exact⟨B.cell 0,B.cell 1,D.cell 0⟩
 simp only[O,Z,U];refine az (v:=?_) (w':=?_) rfl (by rfl) ?_ ?_ ?_;rotate_left 2
 ·go_simp;(try (constructor<;>with_reducible rfl))
 ·exact⟨B.cell 0,B.cell 1,D.cell 0⟩
 simp only[O,Z,U];refine I _ _ ?_;clear I PE;simp only[OD,OE];have M:=V B;have K0:=V D;have K1:=V jT;have K2:=V kz;clear B D jT kz C y0 y1 y2 aB aC bE cz fW G;go_wp2_with fail
 refine⟨rfl,?_⟩
 cases he:(re !=0) with
 |true=>
  have J2:re≠0:=(by simpa using he);have K5:=V J2;clear J2;go_wp2_with fail
  go_ret;exact .inl ⟨K5.out,rfl,M.out,hU.out⟩
 |false=>
  have Kr:re=0:=(by simpa using he);subst Kr;have T:=V (T.out rfl);have z2:=K0.out.cell 0;have c1:w2.cell? ⟨g,1,none⟩=some (J X a):=(by rw[M.out.cell];rfl);have f1:=M.out.frozen 1;have dD:=M.out.set_ 1 (J X a2);simp only[O,Z,U] at dD;have dE:ab (OC (w2.setCell ⟨g,1,none⟩ (J X a2))) b1 3 _:=(K1.out.far (p:=⟨g,1,none⟩) gy.out.symm (J X a2)).drewN 1;have dY:ab (OC (w2.setCell ⟨g,1,none⟩ (J X a2))) b2 250 _:=(K2.out.far (p:=⟨g,1,none⟩) gJ.out.symm (J X a2)).drewN 1;have dt:=V dD;have K3:=V dE;have K4:=V dY;have K6:=V (cX hU.out 1 (J X a2));have u1:=dE.cell 0;have u2:=dY.cell 0;clear dD dE dY
  go_upto_region 5 with fail
  clear z2 c1 f1;refine bf (λw'=>w'.cell? ⟨b1,0,none⟩=some (J X fr)/\w'.cell? ⟨b2,0,none⟩=some (OF (some ⟨g,10,none⟩))) 9 (Y 0 (Y 1 (Y 2 (OG 3 (Y 4 (Y 5 (Y 6 (Y 7 (OG 8 .done))))))))) (⟨u1,u2⟩) (λPE I=>?_)
  iterate 3
   refine aj (v:=?_) rfl (by rfl) ?_ ?_
   rotate_left
   ·intro _ j;(try dsimp only at j);obtain⟨s1,s2⟩:=j;go_simp;(try with_reducible rfl)
   simp only[O,Z,U]
  refine aX (f:=257) rfl (by rfl) (by first|(go_simp;done)|(go_simp;rfl)) (T.out _) ?_;rintro e w4 ⟨rfl,rfl⟩;refine⟨_,rfl,_,λ_ h=>h,⟨u1,u2⟩,?_⟩;simp only[O,Z,U]
  iterate 4
   refine aj (v:=?_) rfl (by rfl) ?_ ?_
   rotate_left
   ·intro _ j;(try dsimp only at j);go_simp;(try with_reducible rfl)
   simp only[O,Z,U]
  have kk:=dt.out.cell 10;have fk:=dt.out.frozen 10;have ja:=dt.out.set_ 10 (J X tv);simp only[O,Z,U] at ja;have v1:=(K3.out.far (p:=⟨g,10,none⟩) gy.out.symm (J X tv)).cell 0;have v2:=(K4.out.far (p:=⟨g,10,none⟩) gJ.out.symm (J X tv)).cell 0;refine bG _ (w':=?_) rfl (by rfl) ?_ ?_ ?_;rotate_left 1
  ·go_simp;(first|(with_reducible rfl)|(constructor<;>with_reducible rfl)|skip)
  ·exact⟨v1,v2⟩
  refine I _ _ ?_;clear I PE;simp only[OD,OE];have K9:ab (OC ((w2.setCell ⟨g,1,none⟩ (J X a2)).setCell ⟨g,10,none⟩ (J X tv))) g 208 _:=ja.drewN 1;have K8:=V (gN (cX K6.out 10 (J X tv)));clear v1 v2 kk fk u1 u2;go_wp2_with fail
  refine⟨rfl,?_⟩;go_wp2_with fail
  go_ret;exact⟨rfl,K9,K8.out⟩
theorem GH (g b0 b1 b2:Nat)(fr:Int)(A:Option Addr)(n c:Nat)(l:List UInt8)(s:aZ)(w:World)(hb:ab w g 208 (gj A n c s))(h0:ab w b0 206 #[OF (some ⟨g,0,none⟩)])(h1:ab w b1 3 #[J X fr])(h2:ab w b2 250 #[OF (some ⟨g,11,none⟩)])
  (hA:Sl w A (l.map af)) (hn:OA l=n) (hsz:n<=2 ^ 47) (hi: -9223372036854775808<=s.a/\s.a<=9223372036854775807) (hp:aK fr=true) (hd:(ac ak ap l s.a).2.2=0-> -16<=(ac ak ap l s.a).1/\(ac ak ap l s.a).1<=15) (a2:Int) (K:OH.wrap (s.a+(ac ak ap l s.a).2.1)=a2):
  Calls OM 255 #[OF (some ⟨b0,0,none⟩),OF (some ⟨b1,0,none⟩),OF (some ⟨b2,0,none⟩)] w λe w'=>
   ((ac ak ap l s.a).2.2≠0/\e=OK (J X (ac ak ap l s.a).2.2)/\ab w' g 208 (gj A n c s)/\gm g w w')\/
   ((ac ak ap l s.a).2.2=0/\e=OK (J X (aY fr (ac ak ap l s.a).1).2)/\ab w' g 208 (gj A n c {s with a:=a2,my:=(aY fr (ac ak ap l s.a).1).1})/\gm g w w'):=by
 obtain⟨a,⟨t0,t1,t2,t3,t4⟩,ad,kd,qu,mx,my,pa,v,x,y⟩:=s;dsimp only at hi K hd⊢;have G:=V (λW hW=>tx A n c l a W hW hn hsz hi);have T:=V (λh3 W=>rh fr (ac ak ap l a).1 W hp (hd h3).1 (hd h3).2);obtain⟨⟨rk,rn,re⟩,hr⟩:∃r,ac ak ap l a=r:=⟨_,rfl⟩;rw[hr] at G T K⊢;dsimp only at G T K⊢;obtain⟨⟨tv,te⟩,ht⟩:∃r,aY fr rk=r:=⟨_,rfl⟩;rw[ht] at T⊢;dsimp only at T⊢;unfold gj at*;dsimp only at*;have Io:g≠b0:=aU hb h0 (by simp);have Ip:g≠b1:=aU hb h1 (by simp);have Iq:g≠b2:=aU hb h2 (by simp);have hw:OH.wrap (a+rn)=a2:=K;have N:ab w.drew g 208 _:=hb.drewN 1;have eE:ab w.drew b0 206 _:=h0.drewN 1;have rX:ab w.drew b1 3 _:=h1.drewN 1;have wj:ab w.drew b2 250 _:=h2.drewN 1;have y0:=N.cell 0;have y1:=N.cell 1;have y2:=eE.cell 0;have aB:=V N;have aC:=V eE;have bE:=V rX;have cz:=V wj;have fW:=V (show Sl w.drew A (l.map af) from hA);have KC:=V Io;have gy:=V Ip;have gJ:=V Iq;clear hb hA hr hi K N hn hsz eE rX wj h0 h1 h2 hd hp ht Io Ip Iq
 go_enter OO,ON
 go_wp2_with fail
 refine bf (λw'=>w'.cell? ⟨g,0,none⟩=some (OB A n c)/\w'.cell? ⟨g,1,none⟩=some (J X a)/\w'.cell? ⟨b0,0,none⟩=some (OF (some ⟨g,0,none⟩))) 15 (Y 0 (Y 1 (Y 2 (Y 3 (Y 4 (Y 5 (Y 6 (Y 7 (OG 8 (Y 9 (Y 10 (Y 11 (Y 12 (OG 13 (OG 14 .done))))))))))))))) (⟨y0,y1,y2⟩) (λPE I=>?_)
 iterate 8
  refine aj (v:=?_) rfl (by rfl) ?_ ?_
  rotate_left
  ·intro _ j;(try dsimp only at j);obtain⟨s0,s1,s2⟩:=j;go_simp;(try with_reducible rfl)
  simp only[O,Z,U]
 refine aX (f:=256) rfl (by rfl) (by first|(go_simp;done)|(go_simp;rfl)) (G.out _ fW.out) ?_;rintro e w2 ⟨rfl,C⟩;have B:=aB.out.below C aB.out.lt;have D:=aC.out.below C aC.out.lt;have jT:=bE.out.below C bE.out.lt;have kz:=cz.out.below C cz.out.lt;have hU:=V (kP (gN (dP.refl (λk=>k=g) w)) C);refine⟨_,rfl,_,λ_ h=>h,⟨B.cell 0,B.cell 1,D.cell 0⟩,?_⟩;simp only[O,Z,U]
 iterate 4
  refine aj (v:=?_) rfl (by rfl) ?_ ?_
  rotate_left
  ·intro _ j;(try dsimp only at j);go_simp;(try with_reducible rfl)
  simp only[O,Z,U]
 refine az (v:=?_) (w':=?_) rfl (by rfl) ?_ ?_ ?_;rotate_left 2
 ·go_simp;(try (constructor<;>with_reducible rfl))
 ·exact⟨B.cell 0,B.cell 1,D.cell 0⟩
 simp only[O,Z,U];refine az (v:=?_) (w':=?_) rfl (by rfl) ?_ ?_ ?_;rotate_left 2
 ·go_simp;(try (constructor<;>with_reducible rfl))
 ·exact⟨B.cell 0,B.cell 1,D.cell 0⟩
 simp only[O,Z,U];refine I _ _ ?_;clear I PE;simp only[OD,OE];have M:=V B;have K0:=V D;have K1:=V jT;have K2:=V kz;clear B D jT kz C y0 y1 y2 aB aC bE cz fW G;go_wp2_with fail
 refine⟨rfl,?_⟩
 cases he:(re !=0) with
 |true=>
  have J2:re≠0:=(by simpa using he);have K5:=V J2;clear J2;go_wp2_with fail
  go_ret;exact .inl ⟨K5.out,rfl,M.out,hU.out⟩
 |false=>
  have Kr:re=0:=(by simpa using he);subst Kr;have T:=V (T.out rfl);have z2:=K0.out.cell 0;have c1:w2.cell? ⟨g,1,none⟩=some (J X a):=(by rw[M.out.cell];rfl);have f1:=M.out.frozen 1;have dD:=M.out.set_ 1 (J X a2);simp only[O,Z,U] at dD;have dE:ab (OC (w2.setCell ⟨g,1,none⟩ (J X a2))) b1 3 _:=(K1.out.far (p:=⟨g,1,none⟩) gy.out.symm (J X a2)).drewN 1;have dY:ab (OC (w2.setCell ⟨g,1,none⟩ (J X a2))) b2 250 _:=(K2.out.far (p:=⟨g,1,none⟩) gJ.out.symm (J X a2)).drewN 1;have dt:=V dD;have K3:=V dE;have K4:=V dY;have K6:=V (cX hU.out 1 (J X a2));have u1:=dE.cell 0;have u2:=dY.cell 0;clear dD dE dY
  go_upto_region 5 with fail
  clear z2 c1 f1;refine bf (λw'=>w'.cell? ⟨b1,0,none⟩=some (J X fr)/\w'.cell? ⟨b2,0,none⟩=some (OF (some ⟨g,11,none⟩))) 9 (Y 0 (Y 1 (Y 2 (OG 3 (Y 4 (Y 5 (Y 6 (Y 7 (OG 8 .done))))))))) (⟨u1,u2⟩) (λPE I=>?_)
  iterate 3
   refine aj (v:=?_) rfl (by rfl) ?_ ?_
   rotate_left
   ·intro _ j;(try dsimp only at j);obtain⟨s1,s2⟩:=j;go_simp;(try with_reducible rfl)
   simp only[O,Z,U]
  refine aX (f:=257) rfl (by rfl) (by first|(go_simp;done)|(go_simp;rfl)) (T.out _) ?_;rintro e w4 ⟨rfl,rfl⟩;refine⟨_,rfl,_,λ_ h=>h,⟨u1,u2⟩,?_⟩;simp only[O,Z,U]
  iterate 4
   refine aj (v:=?_) rfl (by rfl) ?_ ?_
   rotate_left
   ·intro _ j;(try dsimp only at j);go_simp;(try with_reducible rfl)
   simp only[O,Z,U]
  have kk:=dt.out.cell 11;have fk:=dt.out.frozen 11;have ja:=dt.out.set_ 11 (J X tv);simp only[O,Z,U] at ja;have v1:=(K3.out.far (p:=⟨g,11,none⟩) gy.out.symm (J X tv)).cell 0;have v2:=(K4.out.far (p:=⟨g,11,none⟩) gJ.out.symm (J X tv)).cell 0;refine bG _ (w':=?_) rfl (by rfl) ?_ ?_ ?_;rotate_left 1
  ·go_simp;(first|(with_reducible rfl)|(constructor<;>with_reducible rfl)|skip)
  ·exact⟨v1,v2⟩
  refine I _ _ ?_;clear I PE;simp only[OD,OE];have K9:ab (OC ((w2.setCell ⟨g,1,none⟩ (J X a2)).setCell ⟨g,11,none⟩ (J X tv))) g 208 _:=ja.drewN 1;have K8:=V (gN (cX K6.out 11 (J X tv)));clear v1 v2 kk fk u1 u2;go_wp2_with fail
  refine⟨rfl,?_⟩;go_wp2_with fail
  go_ret;exact⟨rfl,K9,K8.out⟩
structure AM (w0:World) (g:Nat) (A:Option Addr) (n c:Nat) (s:aZ) (xs:List ew) (r:bH×Int×Int) (a2:Int) (w:World) (e:Ending) (w':World):Prop where
 ret:e=OK (J X r.2.2)
 ex:∃v A2 c2,ab w' g 208 (gj A n c {s with a:=a2,v:=v})/\w'.ownsRow w0.heap.size 93 2 v (OA xs+1) (av ij (xs++[(r.1,A2,c2)]))/\w'.ownsRow w0.heap.size 189 2 (OB A2 r.1.l.length c2) r.1.l.length (av bj r.1.l)
 below:Below w0.heap.size w0 w'
 keep:∀(g':Nat)(t:TypeId)(cs:Array Value),ab w g' t cs->t≠93->g'≠g->ab w' g' t cs
 from_:∀B':Nat,KeepsFrom B' w w'
theorem qV {w:World}{base j e size n:Nat}{v:Value}{xs:List Value}(h:w.ownsRow base e size v n xs)(I:j<=base):w.ownsRow j e size v n xs:=by
 refine⟨h.1,?_⟩;rcases h.2 with D|⟨g,B,C,D,h2,G⟩
 ·exact .inl D
 ·exact .inr ⟨g,B,C,D,Nat.le_trans I h2,G⟩
theorem qx {w:World}{base e size n:Nat}{v:Value}{xs:List Value}(h:w.ownsRow base e size v n xs):∃A c,v=OB A n c/\Sl w A xs:=by
 rcases h.2 with⟨rfl,rfl⟩|⟨g,B,j,rfl,D,G,I,h2,K,C⟩
 ·have:xs=[]:=List.eq_nil_of_length_eq_zero (by simpa using h.1)
  subst this;exact⟨none,0,rfl,Sl.nil _ _⟩
 ·refine⟨_,_,rfl,?_⟩
  have:=(ab.sl (w:=w) (g:=g) (t:=e) (cs:=j) G 0).take (n*size);rw[OE,C] at this;exact this
theorem tU:eY OM 53 93 2 32:= .mk' (z:=.agg #[J X 0,OB none 0 0]) (by kernel_rfl) (by kernel_rfl) rfl (by decide) (by decide)
section
variable {P:Program} {t e size bytes:Nat} {w W:World} {L:List aL} {R:List aV} {base n:Nat} {m:Nat} {v:Value} {xs news:List Value} {nb c:Nat}
theorem vN (et:eY P t e size bytes){j:List (Option Tmp)}{E:Act->World->Prop}{S:World->Prop}{r:eT}{tmps:Array Value}{defers:List Deferred}{o:Oper}{d:Nat}{s x:Operand}(hd:o.dst=some d)(hw:bA o j tmps=true)
  (ho:o.op= .call {callee:= .builtin .append,args:= #[s,x],argTypes:= #[t,t]}) (hs:Act.eval ⟨tmps,defers⟩ s=v) (N:ar w L (⟨base,e,size,v,n,xs⟩::R) W) (hx:Act.eval ⟨tmps,defers⟩ x=OB (some ⟨nb,0,none⟩) m c) (K:ab W nb e news.toArray)
  (hl:OA news=m*size) (h1:∀u∈news,u.oneCell'=true) (hb:(n+m)*bytes<=140737488355328) (B:w.heap.size<=base/\base<=W.heap.size) (hL:∀p∈L,p.2.1≠e\/p.1<base) (hR:∀r∈R,r.e≠e)
  (h:∀G C,ar w L (⟨base,e,size,G,n+m,xs++news⟩::R) C->(∀g t cs,ab W g t cs->t≠e->ab C g t cs)->W.grownBy C v.ownBlock->S C/\ct P j E r S ⟨tmps.setIfInBounds d G,defers⟩ C):
  kj P j o (λT w'=>∃I:World->Prop,(∀w,I w->S w)/\I w'/\ct P j E r I T w') ⟨tmps,defers⟩ W:=by
 obtain⟨G,w',D,h2,M,h4⟩:=nK et o.type (c:=c) N.2.2.head hl (by have:=ab.sl K 0;simpa using this) h1 hb B.2;obtain⟨h5,h6⟩:=pj N M h2 B.1 hL hR;obtain⟨h7,h8⟩:=h G w' h5 h6 M;refine az (v:=G) (w':=w') hd hw ?_ h7 h8;unfold execOp;simp only[ho,resolve,invoke,builtin,Sem.run_bind,Sem.run_pure,Result.andThen_ok,List.map_toArray,List.map_cons,List.map_nil,hs,hx,D]
end
theorem GF (w0:World)(g:Nat)(A:Option Addr)(n c:Nat)(l:List UInt8)(s:aZ)(xs:List ew)(w:World)(Lc:Below w0.heap.size w0 w)(Ld:w0.heap.size<=g)(hb:ab w g 208 (gj A n c s))(hT:Ts w)(hA:Sl w A (l.map af))(hn:OA l=n)(hsz:n<=2 ^ 47)
  (KQ:w.ownsRow w0.heap.size 93 2 s.v (OA xs) (av ij xs)) (hx:OA xs<=100) (a2:Int) (KF:OH.wrap (s.a+(a9 l s.a s.pt.1).2.1)=a2):
  Calls OM 228 #[OF (some ⟨g,0,none⟩)] w (AM w0 g A n c s xs (a9 l s.a s.pt.1) a2 w):=by
 obtain⟨a,⟨t0,t1,t2,t3,t4⟩,ad,kd,qu,mx,my,pa,v,x,y⟩:=s;dsimp only at KF KQ⊢;have G:=V (λW hW hT=>D3 A n c l a t0 W hW hn hsz hT);obtain⟨⟨⟨I,B⟩,rn,re⟩,hr⟩:∃r,a9 l a t0=r:=⟨_,rfl⟩;rw[hr] at G KF⊢;dsimp only at KF;have hw:OH.wrap (a+rn)=a2:=KF;obtain⟨RC,K4⟩:∃RC,gj A n c ⟨a,(t0,t1,t2,t3,t4),ad,kd,qu,mx,my,pa,v,x,y⟩=RC:=⟨_,rfl⟩;have L4:RC[0]? =some (OB A n c):=by rw[<-K4];rfl
 have L5:RC[1]? =some (J X a):=by rw[<-K4];rfl
 have L6:RC[2]? =some (OJ t0):=by rw[<-K4];rfl
 rw[K4] at hb;have KJ:ab w.drew g 208 RC:=hb.drewN 1;have y0:=KJ.cell 0;have y1:=KJ.cell 1;have y2:=KJ.cell 2;rw[L4] at y0;rw[L5] at y1;rw[L6] at y2;have Lf:=V hb;have La:=V KJ;have K0:=V K4;have hU:=V L4;have dE:=V L5;have ja:=V L6;have L9:=V (show Sl w.drew A (l.map af) from hA);have Lb:=V (show Ts w.drew from hT);have aC:=V KQ;have fW:=V Lc;have KV:=V Ld;have Lj:=hb.lt;clear hb hA hr KF KJ hn hsz hT K4 L4 L5 L6 KQ Lc Ld
 go_enter Tryz.func228,Tryz.ntmps228
 go_wp2_with fail
 refine bf (λw'=>w'.cell? ⟨g,0,none⟩=some (OB A n c)/\w'.cell? ⟨g,1,none⟩=some (J X a)/\w'.cell? ⟨g,2,none⟩=some (OJ t0)) 21 (Y 0 (Y 1 (Y 2 (Y 3 (Y 4 (Y 5 (Y 6 (Y 7 (Y 8 (Y 9 (Y 10 (Y 11 (Y 12 (.fork 13 (Y 14 (Y 15 (Y 16 (Y 17 (OG 18 (OG 19 (OG 20 (.done)))))))) 18 (OG 13 (Y 14 (Y 15 (Y 16 (Y 17 (OG 19 (OG 20 (.done)))))))))))))))))))))) (⟨y0,y1,y2⟩) (λPE dY=>?_)
 iterate 13
  refine aj (v:=?_) rfl (by rfl) ?_ ?_
  rotate_left
  ·intro _ T;(try dsimp only at T);obtain⟨s0,s1,s2⟩:=T;go_simp;(try with_reducible rfl)
  simp only[O,Z,U]
 refine⟨?_,?_⟩
 ·refine aX (f:=259) rfl (by rfl) (by first|(go_simp;done)|(go_simp;rfl)) (G.out _ L9.out Lb.out) ?_
  rintro e w2 ⟨v2,rfl,K,eE⟩;obtain⟨C,c2,KR,_⟩:=qx eE;dsimp only at KR eE;subst KR;dsimp only;have D:=La.out.below K La.out.lt;refine⟨_,rfl,_,λ_ h=>h,⟨by rw[D.cell,hU.out],by rw[D.cell,dE.out],by rw[D.cell,ja.out]⟩,?_⟩;simp only[O,Z,U]
  iterate 4
   refine aj (v:=?_) rfl (by rfl) ?_ ?_
   rotate_left
   ·intro _ T;(try dsimp only at T);go_simp;(try with_reducible rfl)
   simp only[O,Z,U]
  obtain⟨j,KG⟩:∃j,w2.heap.size=j:=⟨_,rfl⟩;refine az (v:=?_) (w':=?_) rfl (by rfl) ?_ ?_ ?_;rotate_left 2
  ·go_simp;(try (constructor<;>with_reducible rfl))
  ·exact⟨by rw[(D.alloc _).cell,hU.out],by rw[(D.alloc _).cell,dE.out],by rw[(D.alloc _).cell,ja.out]⟩
  simp only[O,Z,U];refine bG _ (w':=?_) rfl (by rfl) ?_ ?_ ?_;rotate_left 1
  ·go_simp;(first|(with_reducible rfl)|(constructor<;>with_reducible rfl)|skip)
  ·exact⟨by rw[(D.alloc _).cell,hU.out],by rw[(D.alloc _).cell,dE.out],by rw[(D.alloc _).cell,ja.out]⟩
  refine az (v:=?_) (w':=?_) rfl (by rfl) ?_ ?_ ?_;rotate_left 2
  ·go_simp;(try (constructor<;>with_reducible rfl))
  ·exact⟨by rw[(D.alloc _).cell,hU.out],by rw[(D.alloc _).cell,dE.out],by rw[(D.alloc _).cell,ja.out]⟩
  simp only[O,Z,U];refine dY _ _ ?_;clear dY PE;simp only[OD,OE];go_wp2_with fail
  refine⟨rfl,?_⟩;have KI:Below w0.heap.size w0 w2:=(fW.out.drew).trans (K.mono (by show _<=w.heap.size;exact fW.out.size))
  have M:ar w0 [(j,93,#[J X I,OB C (OA B) c2]),(g,208,RC)] [⟨w0.heap.size,93,2,v,OA xs,av ij xs⟩,⟨w0.heap.size,189,2,OB C (OA B) c2,OA B,av bj B⟩] (w2.alloc (OI #[J X I,OB C (OA B) c2] 93)):=
   dZ (ao ⟨KI,aa.cons D (ag _),ai.cons (cC (show (OC w).ownsRow _ _ _ _ _ _ from aC.out) K (OL _)) (ai.cons (qV eE fW.out.size) (aA _))⟩ _) (aH (ab.new _ _ _) KG)
  have Io:Below w.heap.size w (w2.alloc (OI #[J X I,OB C (OA B) c2] 93)):=(((Below.refl _ w).drew).trans (K.mono (by simp))).alloc (by have:=K.size;simpa using this) _;have K6:=V (show ¬j=g by have:=K.size;simp at this;omega);have K8:=V (show w.heap.size<=j by have:=K.size;simp at this;omega);clear y0 y1 y2 D KI K eE KG G;generalize w2.alloc (OI #[J X I,OB C (OA B) c2] 93)=W5 at M Io⊢;have q1:W5.cell? ⟨g,1,none⟩=some (J X a):=(by rw[M.2.1.tail.head.cell,dE.out]);have fq:=M.2.1.tail.head.frozen 1;have Lg:=V M;have K9:=V Io;have Ip:=aW M KV.out 1 (J X a2) (g,208,RC) (by simp) rfl (by simp);have kz:¬j=g:=K6.out;simp[di,kz] at Ip;have aB:=V Ip;clear M Io Ip kz
  go_upto_region 3 with fail
  clear q1 fq;have bE:=bR aB.out;have dD:(RC.setIfInBounds 1 (J X a2))[13]? =some v:=(by rw[<-K0.out];rfl);obtain⟨A9,c9,L8⟩:=aP aC.out;subst L8;have z0:=bE.2.1.head.cell 0;have z1:=bE.2.1.head.cell 1;have z2:=bE.2.1.tail.head.cell 13;rw[dD] at z2;have gy:ab (OC ((W5.setCell ⟨g,1,none⟩ (J X a2)).alloc (OI #[J X I,OB C (OA B) c2] 93))) j 93 #[J X I,OB C (OA B) c2]:=(aB.out.2.1.head.alloc _).drewN 1;have J2:ab (OC ((W5.setCell ⟨g,1,none⟩ (J X a2)).alloc (OI #[J X I,OB C (OA B) c2] 93))) g 208 (RC.setIfInBounds 1 (J X a2)):=(aB.out.2.1.tail.head.alloc _).drewN 1;have gJ:=J2.cell 13;rw[dD] at gJ;have Kr:=V gy;have KZ:=V J2;have Lh:=V bE;clear bE dD;refine bf (λw'=>w'.cell? ⟨j,0,none⟩=some (J X I)/\w'.cell? ⟨j,1,none⟩=some (OB C (OA B) c2)/\w'.cell? ⟨g,13,none⟩=some (OB A9 (OA xs) c9)) 9 (Y 0 (Y 1 (Y 2 (Y 3 (Y 4 (Y 5 (Y 6 (OG 7 (OG 8 .done))))))))) (⟨z0,z1,z2⟩) (λPE dY=>?_)
  iterate 7
   refine aj (v:=?_) rfl (by rfl) ?_ ?_
   rotate_left
   ·intro _ T;(try dsimp only at T);obtain⟨s0,s1,s2⟩:=T;go_simp;(try with_reducible rfl)
   simp only[O,Z,U]
  refine az (v:=?_) (w':=?_) rfl (by rfl) ?_ ?_ ?_;rotate_left 2
  ·go_simp;(try (constructor<;>with_reducible rfl))
  ·exact⟨gy.cell 0,gy.cell 1,gJ⟩
  simp only[O,Z,U];have dt:ar w0 [(g,208,RC.setIfInBounds 1 (J X a2))] [⟨w0.heap.size,93,2,OB A9 (OA xs) c9,OA xs,av ij xs⟩,⟨w0.heap.size,189,2,OB C (OA B) c2,OA B,av bj B⟩] (OC ((W5.setCell ⟨g,1,none⟩ (J X a2)).alloc (OI #[J X I,OB C (OA B) c2] 93))):=bR (ao (aw aB.out) _);have KN:ab (OC ((W5.setCell ⟨g,1,none⟩ (J X a2)).alloc (OI #[J X I,OB C (OA B) c2] 93))) W5.heap.size 93 [Value.int X I,OB C (OA B) c2].toArray:=(aH (ab.new _ _ _) (by simp)).drewN 1;refine vN tU rfl rfl rfl rfl dt rfl KN (m:=1) (news:=[J X I,OB C (OA B) c2]) rfl (by intro u hu;simp at hu;rcases hu with rfl|rfl<;>rfl) (by omega) ⟨OL _,dt.1.size⟩ (by simp) (by simp) (λv' W7 N KM Iq=>⟨?_,?_⟩)
  ·have L7:j<(OC ((W5.setCell ⟨g,1,none⟩ (J X a2)).alloc (OI #[J X I,OB C (OA B) c2] 93))).heap.size:=Kr.out.lt
   have KH:ab W7 j 93 #[J X I,OB C (OA B) c2]:=(Iq.block j L7 (λe=>by have h1:=(aC.out.lt j e.symm).2;have h2:=K8.out;omega)).trans Kr.out;refine⟨KH.cell 0,KH.cell 1,?_⟩;rw[N.2.1.head.cell 13];exact(KZ.out.cell 13).symm.trans gJ
  simp only[O,Z,U];obtain⟨K5,KC,wj⟩:=aP N.2.2.head;dsimp only at wj;subst wj;have KU:=N.2.1.head.cell 13;have Li:=N.2.1.head.frozen 13;have KE:(RC.setIfInBounds 1 (J X a2))[13]? =some (OB A9 (OA xs) c9):=(by rw[<-K0.out];rfl);dsimp only at KU;rw[KE] at KU;have KW:=V N;have KY:=V KM;have KX:=V Iq;clear N KM Iq z0 z1 z2 gJ gy J2 dt KN KE;refine dY _ _ ?_;clear dY PE;simp only[OD,OE];go_wp2_with fail
  refine⟨rfl,?_⟩;go_wp2_with fail
  go_ret;have cz:=aW KW.out KV.out 13 (OB K5 (OA xs+1) KC) (g,208,RC.setIfInBounds 1 (J X a2)) (by simp) rfl (by simp);simp[di] at cz;have dt:=bR (ao (aw aB.out) (OI #[J X I,OB C (OA B) c2] 93));refine⟨rfl,⟨OB K5 (OA xs+1) KC,C,c2,?_,?_,?_⟩,cz.1,λg' t cs h ht KK=>?_,λB'=>?_⟩
  ·have h:=cz.2.1.head
   rw[<-K0.out] at h;exact h
  ·have h:=cz.2.2.head
   rw[eo,dV];exact h
  ·exact cz.2.2.tail.head
  ·exact(KY.out g' t cs (((h.below K9.out h.lt).far (p:=⟨g,1,none⟩) KK (J X a2)).alloc (OI #[J X I,OB C (OA B) c2] 93)) ht).far (p:=⟨g,13,none⟩) KK _
  ·exact aq (dx (fo (cy (aq (fZ K9.out) _ _) _)) (iy (KeepsFrom.refl _ _) KX.out (gM dt.2.2.head))) _ _
 ·obtain⟨j,KG⟩:∃j,w.heap.size=j:=⟨_,rfl⟩
  have K2:ab (OC (w.alloc (OI #[J X 0,OB none 0 0] 93))) g 208 RC:=(Lf.out.alloc _).drewN 1;refine az (v:=?_) (w':=?_) rfl (by rfl) ?_ ?_ ?_;rotate_left 2
  ·go_simp;(try (constructor<;>with_reducible rfl))
  ·exact⟨by rw[K2.cell,hU.out],by rw[K2.cell,dE.out],by rw[K2.cell,ja.out]⟩
  simp only[O,Z,U];have K1:Below w.heap.size w (OC (w.alloc (OI #[J X 0,OB none 0 0] 93))):=((Below.refl _ _).alloc (OL _) _).drew;have rX:(OC (w.alloc (OI #[J X 0,OB none 0 0] 93))).heap.size=w.heap.size+1:=World.size_alloc _ _;have L0:ab (OC (w.alloc (OI #[J X 0,OB none 0 0] 93))) j 93 #[J X 0,OB none 0 0]:=(aH (ab.new _ _ _) KG).drewN 1;refine aX (f:=259) rfl (by rfl) (by first|(go_simp;done)|(go_simp;rfl)) (G.out _ ((show Sl w A _ from L9.out).below K1) ((show Ts w from Lb.out).below K1)) ?_;rintro e w2 ⟨v2,rfl,K,eE⟩;obtain⟨C,c2,KR,_⟩:=qx eE;dsimp only at KR eE;subst KR;dsimp only;have D:=K2.below K K2.lt;have K3:=L0.below K L0.lt;refine⟨_,rfl,_,λ_ h=>h,⟨by rw[D.cell,hU.out],by rw[D.cell,dE.out],by rw[D.cell,ja.out]⟩,?_⟩;simp only[O,Z,U]
  iterate 4
   refine aj (v:=?_) rfl (by rfl) ?_ ?_
   rotate_left
   ·intro _ T;(try dsimp only at T);go_simp;(try with_reducible rfl)
   simp only[O,Z,U]
  have KL:g≠j:=(by omega);have jT:=(D.far (p:=⟨j,0,none⟩) KL (J X I)).far (p:=⟨j,1,none⟩) KL (OB C (OA B) c2);have k0:=K3.cell 0;have k1:=K3.cell 1;have f0:=K3.frozen 0;have f1:=K3.frozen 1;refine bG _ (w':=?_) rfl (by rfl) ?_ ?_ ?_;rotate_left 1
  ·go_simp;(first|(with_reducible rfl)|(constructor<;>with_reducible rfl)|skip)
  ·exact⟨by rw[jT.cell,hU.out],by rw[jT.cell,dE.out],by rw[jT.cell,ja.out]⟩
  refine az (v:=?_) (w':=?_) rfl (by rfl) ?_ ?_ ?_;rotate_left 2
  ·go_simp;(try (constructor<;>with_reducible rfl))
  ·exact⟨by rw[jT.cell,hU.out],by rw[jT.cell,dE.out],by rw[jT.cell,ja.out]⟩
  simp only[O,Z,U];refine dY _ _ ?_;clear dY PE;simp only[OD,OE];go_wp2_with fail
  refine⟨rfl,?_⟩;have KI:Below w0.heap.size w0 w2:=(fW.out.trans (K1.mono fW.out.size)).trans (K.mono (by rw[rX];have:=fW.out.size;omega));have Le:w2.ownsRow w0.heap.size 93 2 v (OA xs) (av ij xs):=cC (cC aC.out K1 (OL _)) K (OL _);have KT:v.ownBlock≠some j:= λh=>by have h1:=(aC.out.lt j h).2;omega
  have KO:(Value.slice C (OA B) c2).ownBlock≠some j:= λh=>by have h1:=(eE.lt j h).1;rw[rX] at h1;omega
  have M:ar w0 [(j,93,#[J X I,OB C (OA B) c2]),(g,208,RC)] [⟨w0.heap.size,93,2,v,OA xs,av ij xs⟩,⟨w0.heap.size,189,2,OB C (OA B) c2,OA B,av bj B⟩] ((w2.setCell ⟨j,0,none⟩ (J X I)).setCell ⟨j,1,none⟩ (OB C (OA B) c2)):=
   ⟨(KI.setCell (p:=⟨j,0,none⟩) (by show _<=j;have:=fW.out.size;omega) _).setCell (p:=⟨j,1,none⟩) (by show _<=j;have:=fW.out.size;omega) _,aa.cons ((K3.set_ 0 (J X I)).set_ 1 (OB C (OA B) c2)) (aa.cons jT (ag _)),
    ai.cons (eR (eR Le ⟨j,0,none⟩ _ KT) ⟨j,1,none⟩ _ KT) (ai.cons (eR (eR (qV eE (by rw[rX];have:=fW.out.size;omega)) ⟨j,0,none⟩ _ KO) ⟨j,1,none⟩ _ KO) (aA _))⟩
  have Io:Below w.heap.size w ((w2.setCell ⟨j,0,none⟩ (J X I)).setCell ⟨j,1,none⟩ (OB C (OA B) c2)):=(((K1.trans (K.mono (by rw[rX];omega))).setCell (p:=⟨j,0,none⟩) (by show _<=j;omega) _).setCell (p:=⟨j,1,none⟩) (by show _<=j;omega) _);have K6:=V (show ¬j=g by omega);have K8:=V (show w.heap.size<=j by omega);clear y0 y1 y2 K2 D jT KI K eE KG G K1 L0 K3 KL k0 k1 f0 f1 Le KT KO rX;generalize (w2.setCell ⟨j,0,none⟩ (J X I)).setCell ⟨j,1,none⟩ (OB C (OA B) c2)=W5 at M Io⊢;have q1:W5.cell? ⟨g,1,none⟩=some (J X a):=(by rw[M.2.1.tail.head.cell,dE.out]);have fq:=M.2.1.tail.head.frozen 1;have Lg:=V M;have K9:=V Io;have Ip:=aW M KV.out 1 (J X a2) (g,208,RC) (by simp) rfl (by simp);have kz:¬j=g:=K6.out;simp[di,kz] at Ip;have aB:=V Ip;clear M Io Ip kz
  go_upto_region 3 with fail
  clear q1 fq;have bE:=bR aB.out;have dD:(RC.setIfInBounds 1 (J X a2))[13]? =some v:=(by rw[<-K0.out];rfl);obtain⟨A9,c9,L8⟩:=aP aC.out;subst L8;have z0:=bE.2.1.head.cell 0;have z1:=bE.2.1.head.cell 1;have z2:=bE.2.1.tail.head.cell 13;rw[dD] at z2;have gy:ab (OC ((W5.setCell ⟨g,1,none⟩ (J X a2)).alloc (OI #[J X I,OB C (OA B) c2] 93))) j 93 #[J X I,OB C (OA B) c2]:=(aB.out.2.1.head.alloc _).drewN 1;have J2:ab (OC ((W5.setCell ⟨g,1,none⟩ (J X a2)).alloc (OI #[J X I,OB C (OA B) c2] 93))) g 208 (RC.setIfInBounds 1 (J X a2)):=(aB.out.2.1.tail.head.alloc _).drewN 1;have gJ:=J2.cell 13;rw[dD] at gJ;have Kr:=V gy;have KZ:=V J2;have Lh:=V bE;clear bE dD;refine bf (λw'=>w'.cell? ⟨j,0,none⟩=some (J X I)/\w'.cell? ⟨j,1,none⟩=some (OB C (OA B) c2)/\w'.cell? ⟨g,13,none⟩=some (OB A9 (OA xs) c9)) 9 (Y 0 (Y 1 (Y 2 (Y 3 (Y 4 (Y 5 (Y 6 (OG 7 (OG 8 .done))))))))) (⟨z0,z1,z2⟩) (λPE dY=>?_)
  iterate 7
   refine aj (v:=?_) rfl (by rfl) ?_ ?_
   rotate_left
   ·intro _ T;(try dsimp only at T);obtain⟨s0,s1,s2⟩:=T;go_simp;(try with_reducible rfl)
   simp only[O,Z,U]
  refine az (v:=?_) (w':=?_) rfl (by rfl) ?_ ?_ ?_;rotate_left 2
  ·go_simp;(try (constructor<;>with_reducible rfl))
  ·exact⟨gy.cell 0,gy.cell 1,gJ⟩
  simp only[O,Z,U];have dt:ar w0 [(g,208,RC.setIfInBounds 1 (J X a2))] [⟨w0.heap.size,93,2,OB A9 (OA xs) c9,OA xs,av ij xs⟩,⟨w0.heap.size,189,2,OB C (OA B) c2,OA B,av bj B⟩] (OC ((W5.setCell ⟨g,1,none⟩ (J X a2)).alloc (OI #[J X I,OB C (OA B) c2] 93))):=bR (ao (aw aB.out) _);have KN:ab (OC ((W5.setCell ⟨g,1,none⟩ (J X a2)).alloc (OI #[J X I,OB C (OA B) c2] 93))) W5.heap.size 93 [Value.int X I,OB C (OA B) c2].toArray:=(aH (ab.new _ _ _) (by simp)).drewN 1;refine vN tU rfl rfl rfl rfl dt rfl KN (m:=1) (news:=[J X I,OB C (OA B) c2]) rfl (by intro u hu;simp at hu;rcases hu with rfl|rfl<;>rfl) (by omega) ⟨OL _,dt.1.size⟩ (by simp) (by simp) (λv' W7 N KM Iq=>⟨?_,?_⟩)
  ·have L7:j<(OC ((W5.setCell ⟨g,1,none⟩ (J X a2)).alloc (OI #[J X I,OB C (OA B) c2] 93))).heap.size:=Kr.out.lt
   have KH:ab W7 j 93 #[J X I,OB C (OA B) c2]:=(Iq.block j L7 (λe=>by have h1:=(aC.out.lt j e.symm).2;have h2:=K8.out;omega)).trans Kr.out;refine⟨KH.cell 0,KH.cell 1,?_⟩;rw[N.2.1.head.cell 13];exact(KZ.out.cell 13).symm.trans gJ
  simp only[O,Z,U];obtain⟨K5,KC,wj⟩:=aP N.2.2.head;dsimp only at wj;subst wj;have KU:=N.2.1.head.cell 13;have Li:=N.2.1.head.frozen 13;have KE:(RC.setIfInBounds 1 (J X a2))[13]? =some (OB A9 (OA xs) c9):=(by rw[<-K0.out];rfl);dsimp only at KU;rw[KE] at KU;have KW:=V N;have KY:=V KM;have KX:=V Iq;clear N KM Iq z0 z1 z2 gJ gy J2 dt KN KE;refine dY _ _ ?_;clear dY PE;simp only[OD,OE];go_wp2_with fail
  refine⟨rfl,?_⟩;go_wp2_with fail
  go_ret;have cz:=aW KW.out KV.out 13 (OB K5 (OA xs+1) KC) (g,208,RC.setIfInBounds 1 (J X a2)) (by simp) rfl (by simp);simp[di] at cz;have dt:=bR (ao (aw aB.out) (OI #[J X I,OB C (OA B) c2] 93));refine⟨rfl,⟨OB K5 (OA xs+1) KC,C,c2,?_,?_,?_⟩,cz.1,λg' t cs h ht KK=>?_,λB'=>?_⟩
  ·have h:=cz.2.1.head
   rw[<-K0.out] at h;exact h
  ·have h:=cz.2.2.head
   rw[eo,dV];exact h
  ·exact cz.2.2.tail.head
  ·exact(KY.out g' t cs (((h.below K9.out h.lt).far (p:=⟨g,1,none⟩) KK (J X a2)).alloc (OI #[J X I,OB C (OA B) c2] 93)) ht).far (p:=⟨g,13,none⟩) KK _
  ·exact aq (dx (fo (cy (aq (fZ K9.out) _ _) _)) (iy (KeepsFrom.refl _ _) KX.out (gM dt.2.2.head))) _ _
end
open Go Go.RowKit
open List renaming length→O
open Int renaming le_refl→U
theorem rt {s:List UInt8}:∀{cs:List (List UInt8)}{ns:List Int}{n k:Int},bK s cs ns=some (n,k)->n∈ns/\0<=k/\k<=O s
 |[],_,_,_,h=>by simp[bK] at h
 |_::_,[],_,_,h=>by simp[bK] at h
 |c::cs,m::ns,n,k,h=>by
  unfold bK at h
  split at h
  ·rename_i B
   have j:=(List.isPrefixOf_iff_prefix.1 B).length_le;simp only[Option.some.injEq,Prod.mk.injEq] at h;obtain⟨rfl,rfl⟩:=h;exact⟨by simp,by omega,by omega⟩
  ·obtain⟨a,b⟩:=rt h
   exact⟨List.mem_cons_of_mem _ a,b⟩
theorem g7 {cs:List (List UInt8)}{ns:List Int}{l:List UInt8}{i:Int}(B:0<=i)(C:i<=8*(O l:Int)):
  0<=(ac cs ns l i).2.1/\i+(ac cs ns l i).2.1<=8*(O l:Int)/\((ac cs ns l i).2.2=0->(ac cs ns l i).1∈ns):=by
 unfold ac gQ;rw[if_neg (by omega)];have hl:(aI l i.toNat (min 24 (8*O l - i.toNat))).length<=8*O l - i.toNat:=by rw[bm];omega
 generalize aI l i.toNat (min 24 (8*O l - i.toNat))=s at hl
 cases j:bK s cs ns with
 |some p=>
  obtain⟨n,k⟩:=p;obtain⟨a,b,c⟩:=rt j;exact⟨b,by show i+k<=_;omega,λ_=>a⟩
 |none=>
  dsimp only
  split
  ·exact⟨by decide,by show i+0<=_;omega,λh=>by cases h⟩
  ·exact⟨by decide,by show i+0<=_;omega,λh=>by cases h⟩
theorem DE:ap.all (λn=>decide (-16<=n)&&decide (n<=15))=true:=by kernel_rfl
theorem tw {l:List UInt8}{i:Int}(j:0<=i)(B:i<=8*(O l:Int))(he:(ac ak ap l i).2.2=0): -16<=(ac ak ap l i).1/\(ac ak ap l i).1<=15:=by
 have h:=List.all_eq_true.1 DE _ ((g7 j B).2.2 he)
 simpa using h
theorem pd (l:List UInt8):∀(f:Nat)(i:Int)(first:Bool)(left:Int),0<=i->i<=8*(O l:Int)->(a8 l f i first left).2.2=0->i<=(a8 l f i first left).2.1/\(a8 l f i first left).2.1<=8*(O l:Int)
 |0,i,first,left,h0,h1,h=>by simp[a8] at h
 |f+1,i,first,left,h0,h1,h=>by
  have j:=lL l i first h0 h1;unfold mO at j
  have D:a8 l (f+1) i first left=(if (aR l i first).2.1 then([],i+(aR l i first).2.2.1,0) else if (aR l i first).2.2.2 !=0 then([],0,(aR l i first).2.2.2) else
   if left - ((aR l i first).1.1+1)<0 then([],0,11) else
   ((aR l i first).1::(a8 l f (i+(aR l i first).2.2.1) false (left - ((aR l i first).1.1+1))).1,(a8 l f (i+(aR l i first).2.2.1) false (left - ((aR l i first).1.1+1))).2.1,(a8 l f (i+(aR l i first).2.2.1) false (left - ((aR l i first).1.1+1))).2.2)):=rfl
  rw[D] at h⊢
  split at h
  ·rename_i he
   rw[if_pos he];exact⟨by show i<=i+_;omega,by show i+_<=_;omega⟩
  ·rename_i he
   rw[if_neg he]
   split at h
   ·rename_i h2
    dsimp only at h;rw[h] at h2
    cases h2
   ·rename_i h2
    rw[if_neg h2]
    split at h
    ·cases h
    ·rename_i C
     rw[if_neg C];have B:=pd l f (i+(aR l i first).2.2.1) false (left - ((aR l i first).1.1+1)) (by omega) (by omega) h;exact⟨Int.le_trans (by omega) B.1,B.2⟩
theorem tM {l:List UInt8}{i:Int}{intra:Bool}(C:0<=i)(D:i<=8*(O l:Int)):0<=(a9 l i intra).2.1/\i+(a9 l i intra).2.1<=8*(O l:Int):=by
 unfold a9;rw[if_neg (by omega),if_neg (by omega)]
 cases intra with
 |true=>
  rw[if_pos rfl]
  split
  ·exact⟨U 0,by show i+0<=_;omega⟩
  ·rename_i G
   dsimp only
   split
   ·exact⟨U 0,by show i+0<=_;omega⟩
   ·split
    ·exact⟨U 0,by show i+0<=_;omega⟩
    ·rename_i B
     have j:(a8 l 66 (i+8) false 63).2.2=0:=(by simpa using B);have h:=pd l 66 (i+8) false 63 (by omega) (by omega) j;exact⟨by show 0<=_ - i;omega,by show i+(_ - i)<=_;omega⟩
 |false=>
  rw[if_neg (by decide)];dsimp only
  split
  ·exact⟨U 0,by show i+0<=_;omega⟩
  ·rename_i B
   have j:(a8 l 66 i true 64).2.2=0:=(by simpa using B);have h:=pd l 66 i true 64 (by omega) (by omega) j;exact⟨by show 0<=_ - i;omega,by show i+(_ - i)<=_;omega⟩
def ax (s:aZ) (t:Nat):aZ:=if 4<=t/\s.pt.1=true then{s with pa:=63} else s
def aF (l:List UInt8) (s:aZ):Nat->(aZ×List bH)×Int
 |0=>(({s with a:=s.a+(ac ay aG l s.a).2.1,kd:=(ac ay aG l s.a).1,pt:=ll (ac ay aG l s.a).1},[]),(ac ay aG l s.a).2.2)
 |1=>if 8*(O l:Int)<s.a+5 then(({s with a:=s.a+5,qu:=0},[]),5) else(({s with a:=s.a+5,qu:=((au l s.a.toNat 5:Nat):Int)},[]),if ((au l s.a.toNat 5:Nat):Int)==0 then 9 else 0)
 |2=>if (ac ak ap l s.a).2.2 !=0 then((s,[]),(ac ak ap l s.a).2.2) else(({s with a:=s.a+(ac ak ap l s.a).2.1,mx:=(aY s.x (ac ak ap l s.a).1).1},[]),(aY s.x (ac ak ap l s.a).1).2)
 |3=>if (ac ak ap l s.a).2.2 !=0 then((s,[]),(ac ak ap l s.a).2.2) else(({s with a:=s.a+(ac ak ap l s.a).2.1,my:=(aY s.y (ac ak ap l s.a).1).1},[]),(aY s.y (ac ak ap l s.a).1).2)
 |4=>(({s with a:=s.a+(ac bo bN l s.a).2.1,pa:=(ac bo bN l s.a).1},[]),(ac bo bN l s.a).2.2)
 |_=>(({s with a:=s.a+(a9 l s.a s.pt.1).2.1},[(a9 l s.a s.pt.1).1]),(a9 l s.a s.pt.1).2.2)
def eL (s:aZ):List Nat:=(if s.pt.2.1 then[1] else[])++(if s.pt.2.2.1 then[2,3] else[])++(if s.pt.2.2.2.2 then[4] else[])
def bz (l:List UInt8):List Nat->aZ->List bH->(aZ×List bH)×Int
 |[],s,bl=>((s,bl),0)
 |t::ts,s,bl=>if (aF l (ax s t) t).2 !=0 then(((aF l (ax s t) t).1.1,bl++(aF l (ax s t) t).1.2),(aF l (ax s t) t).2) else bz l ts (aF l (ax s t) t).1.1 (bl++(aF l (ax s t) t).1.2)
theorem dh (l:List UInt8)(t:Nat)(ts:List Nat)(s:aZ)(bl:List bH):bz l (t::ts) s bl=if (aF l (ax s t) t).2 !=0 then(((aF l (ax s t) t).1.1,bl++(aF l (ax s t) t).1.2),(aF l (ax s t) t).2) else bz l ts (aF l (ax s t) t).1.1 (bl++(aF l (ax s t) t).1.2):=rfl
end Go.Proofs.YthhijgcfbjcgiaaGreatDoor
