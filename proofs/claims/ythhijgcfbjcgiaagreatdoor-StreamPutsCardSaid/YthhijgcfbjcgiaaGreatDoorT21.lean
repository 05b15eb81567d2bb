/- Same, SameM, Huge21 -/
import Derived.Test.YthhijgcfbjcgiaaGreatDoorT20
namespace Go.Proofs.YthhijgcfbjcgiaaGreatDoor
open Go Go.RowKit
attribute [local go_sem] Oper.semAt_some
set_option maxHeartbeats 16000000
set_option maxRecDepth 100000
open Go.IntKind renaming i64→O,wrap_i64→OL,i64→OR
open Go.Value renaming int→U,slice→X,bool→OY,agg→Ob
open Go.Lib renaming hid→Z
open List renaming length→V,setIfInBounds_toArray→J,getElem?_eq_getElem→OA,take_of_length_le→OB,set_cons_succ→OC,set_cons_zero→OD,drop_succ_cons→OH,take_add_one→OI,drop_nil→OK,getElem_mem→OM,any_eq_false→OQ,getElem_map→OT,length_map→OU,map_append→OV
open Go.Proofs.YthhijgcfbjcgiaaGreatDoor.bY renaming take→Y
open Tryz renaming ntmps151→OE,func151→OF,prog→OO,ntmps196→OW,ntmps233→OX,func196→OZ,func233→Oa
open Go.Obj renaming cells→OG
open Nat renaming le_refl→OJ,lt_or_ge→ON
open Go.Ending renaming returned→OP
open Bool renaming and_eq_true→OS
theorem E3 {α:Type}{l m:List α}{j:Nat}(hl:j<V l)(B:j<V m)(h:l.take j=m.take j)(e:l[j]=m[j]):l.take (j+1)=m.take (j+1):=by
 rw[OI,OI,h,OA hl,OA B,e]
theorem GH {α:Type}{l m:List α}{j:Nat}(hl:j<V l)(B:j<V m)(e:l[j]≠m[j]):l≠m:=by
 rintro rfl;exact e rfl
theorem vI (l m:List (Int×Int))(A B:Option Addr)(c d:Nat)(w:World)(hA:Sl w A (az bd l))(hB:Sl w B (az bd m))(hl:V l<=1000000):
  Calls OO 233 #[X A (V l) c,X B (V m) d] w λe w'=>e=OP (OY (l==m))/\Below w.heap.size w w':=by
 have HA:=Z hA;have HB:=Z hB;have HL:=Z hl;clear hA hB hl;obtain⟨G,N⟩:∃G,(l==m)=G:=⟨_,rfl⟩;rw[N];obtain⟨n,hn⟩:∃n,V l=n:=⟨_,rfl⟩;obtain⟨k,hk⟩:∃k,V m=k:=⟨_,rfl⟩;rw[hn,hk];have I:=Z N;have HN:=Z hn;have HK:=Z hk;clear N hn hk;rcases Decidable.em (n≠k) with cE|cE
 ·have JT:(n:Int)≠(k:Int):=by omega
  have hR:G=false:=by
   rw[<-I.out,beq_eq_false_iff_ne];rintro rfl;have:=HN.out;have:=HK.out;omega
  subst hR;clear cE
  go_enter Oa,OX
  go_wp2
  go_ret;exact⟨rfl,Below.refl _ _⟩
 obtain rfl:n=k:=by omega
 clear cE
 go_enter Oa,OX
 go_wp2_with fail
 go_loopg [5] n (λg i=> λwr=>∃(j:Nat),j+g=n/\i=U O (j:Int)/\Hid (l.take j=m.take j)/\Hid (Below w.heap.size w wr))
 case atStart=>exact⟨0,by omega,rfl,Z (by simp),Z (Below.refl _ _)⟩
 case round=>
  obtain⟨j,hj,rfl,HJ,HI⟩:=hrel
  cases gk with
  |zero=>
   have Ht:¬((j:Int)<(n:Int)):=by omega
   have iP:G=true:=by
    rw[<-I.out,beq_iff_eq];have h:=HJ.out
    rwa [OB (by have:=HN.out;omega),OB (by have:=HK.out;omega)] at h
   subst iP;clear hj;go_wp2_with fail
   go_ret;exact⟨rfl,HI.out⟩
  |succ g=>
   have Ht:((j:Int)<(n:Int)):=(by omega);have Hu:¬((j:Int)<0):=(by omega);have K:j<(V l):=(by rw[HN.out];omega);have M:j<(V m):=(by rw[HK.out];omega);obtain⟨a,rfl,jg,jY,kA⟩:=fH (HA.out.below HI.out) j K;obtain⟨b,rfl,kU,rG,Hl⟩:=fH (HB.out.below HI.out) j M;obtain⟨⟨p0,p1⟩,hp⟩:∃p,l[j]=p:=⟨_,rfl⟩;obtain⟨⟨q0,q1⟩,hq⟩:∃q,m[j]=q:=⟨_,rfl⟩
   have HC:Hid (∀W,Sl W (some a) (az bd l)/\Sl W (some b) (az bd m)->(W.cell? (a.add (j*2))=some (U O p0)/\W.cell? ⟨(a.add (j*2)).block,(a.add (j*2)).off+1,none⟩=some (U O p1))/\(W.cell? (b.add (j*2))=some (U O q0)/\W.cell? ⟨(b.add (j*2)).block,(b.add (j*2)).off+1,none⟩=some (U O q1))):=Z λW hW=>by
    obtain⟨a',e1,_,c1,c2⟩:=fH hW.1 j K;obtain⟨b',e2,_,d1,d2⟩:=fH hW.2 j M
    cases e1;cases e2
    rw[hp] at c1 c2;rw[hq] at d1 d2;exact⟨⟨c1,c2⟩,d1,d2⟩
   have K0:OR.wrap ((j:Int)+1)=(j:Int)+1:=(by have:=HL.out;have:=HN.out;rw[OL];omega);have gj:=Z hj;have T:Below w.heap.size w wr.drew:=HI.out.drew;have av:=Z T;have bM:Hid (Sl wr.drew (some a) (az bd l)/\Sl wr.drew (some b) (az bd m)):=Z ⟨HA.out.below T,HB.out.below T⟩;have cI:Hid ((p0=q0/\p1=q1)->l.take (j+1)=m.take (j+1)):=Z λh=>E3 K M HJ.out (by rw[hp,hq,h.1,h.2])
   have aJ:Hid (¬(p0=q0/\p1=q1)->G=false):=Z λh=>by
    rw[<-I.out,beq_eq_false_iff_ne];exact GH K M (by rw[hp,hq];intro e;exact h ⟨(Prod.mk.inj e).1,(Prod.mk.inj e).2⟩)
   clear jg jY kA kU rG Hl hj hp hq T I HJ;clear K M;clear HA HB HN HK;obtain⟨b0,dv⟩:∃b,(p0==q0)=b:=⟨_,rfl⟩;obtain⟨b1,dy⟩:∃b,(p1==q1)=b:=⟨_,rfl⟩;have eE:=Z dv;have fJ:=Z dy
   cases b0 with
   |false=>
    have hr:G=false:=aJ.out (λh=>by have:=eE.out;rw[h.1,beq_self_eq_true] at this;cases this);subst hr;go_wp2_with fail
    refine aP (λW=>Sl W (some a) (az bd l)/\Sl W (some b) (az bd m)) 9 (Y 0 (Y 1 (Y 2 (Y 3 (Y 4 (Y 5 (Y 6 (Y 7 (Y 8 .done))))))))) (bM.out) (λPE C=>?_)
    iterate 9
     refine af (v:=?_) rfl (by rfl) ?_ ?_
     rotate_left
     ·intro _ D;(try dsimp only at D);obtain⟨⟨z0,z1⟩,z2,z3⟩:=HC.out _ D;go_simp;(try with_reducible rfl)
     simp only[J,OD,OC]
    refine C _ _ ?_;clear C PE;simp only[OH,OK];go_wp2_with fail
    refine⟨rfl,?_⟩;go_wp2_with fail
    go_ret;exact⟨rfl,av.out⟩
   |true=>
    cases b1 with
    |false=>
     have hr:G=false:=aJ.out (λh=>by have:=fJ.out;rw[h.2,beq_self_eq_true] at this;cases this);subst hr;go_wp2_with fail
     refine aP (λW=>Sl W (some a) (az bd l)/\Sl W (some b) (az bd m)) 9 (Y 0 (Y 1 (Y 2 (Y 3 (Y 4 (Y 5 (Y 6 (Y 7 (Y 8 .done))))))))) (bM.out) (λPE C=>?_)
     iterate 9
      refine af (v:=?_) rfl (by rfl) ?_ ?_
      rotate_left
      ·intro _ D;(try dsimp only at D);obtain⟨⟨z0,z1⟩,z2,z3⟩:=HC.out _ D;go_simp;(try with_reducible rfl)
      simp only[J,OD,OC]
     refine C _ _ ?_;clear C PE;simp only[OH,OK];go_wp2_with fail
     refine⟨rfl,?_⟩;go_wp2_with fail
     go_ret;exact⟨rfl,av.out⟩
    |true=>
     have hq:p0=q0:=beq_iff_eq.1 dv;have dO:p1=q1:=beq_iff_eq.1 dy;have HE:=Z (cI.out ⟨hq,dO⟩);subst hq dO;clear cI aJ;go_wp2_with fail
     refine aP (λW=>Sl W (some a) (az bd l)/\Sl W (some b) (az bd m)) 9 (Y 0 (Y 1 (Y 2 (Y 3 (Y 4 (Y 5 (Y 6 (Y 7 (Y 8 .done))))))))) (bM.out) (λPE C=>?_)
     iterate 9
      refine af (v:=?_) rfl (by rfl) ?_ ?_
      rotate_left
      ·intro _ D;(try dsimp only at D);obtain⟨⟨z0,z1⟩,z2,z3⟩:=HC.out _ D;go_simp;(try with_reducible rfl)
      simp only[J,OD,OC]
     refine C _ _ ?_;clear C PE;simp only[OH,OK];go_wp2_with fail
     refine⟨rfl,?_⟩;go_wp2_with fail
     go_roundg g
     case measure=>omega
     case rel=>exact⟨j+1,by have:=gj.out;omega,rfl,HE,av⟩
def lG (x y:bH):Bool:=x.dc==y.dc&&x.l==y.l
theorem pN {x y:bH}:lG x y=true↔x=y:=by
 obtain⟨a,b⟩:=x;obtain⟨c,d⟩:=y;unfold lG;simp
theorem vF (x y:bH)(A B:Option Addr)(c d:Nat)(w:World)(N:Sl w A (az bd x.l))(T:Sl w B (az bd y.l))(hl:V x.l<=1000000):
  Calls OO 196 #[Ob #[U O x.dc,X A (V x.l) c],Ob #[U O y.dc,X B (V y.l) d]] w λe w'=>e=OP (OY (lG x y))/\Below w.heap.size w w':=by
 obtain⟨a,l⟩:=x;obtain⟨b,m⟩:=y;unfold lG;dsimp only at N T hl⊢;have G:Below w.heap.size w (w.alloc (OG #[U O a,X A (V l) c] 93)):=(Below.refl _ w).alloc (OJ _) _;have j:=Z (G.alloc G.size (OG #[U O b,X B (V m) d] 93));have C:=Z (vI l m A B c d _ (N.below j.out) (T.below j.out) hl);have I:=(ab.new w 93 #[U O a,X A (V l) c]).alloc (OG #[U O b,X B (V m) d] 93);have D:=ab.new (w.alloc (OG #[U O a,X A (V l) c] 93)) 93 #[U O b,X B (V m) d];rw[World.size_alloc] at D;have z0:=I.cell 0;have z1:=I.cell 1;have z2:=D.cell 0;have z3:=D.cell 1;(try dsimp only at z0 z1 z2 z3);clear N T hl G I D;generalize (l==m)=lm at C⊢;generalize (V l)=n at*;generalize (V m)=k at*
 cases av:(a==b) with
 |false=>
  go_enter OZ,OW
  go_wp2_with fail
  go_ret;exact⟨rfl,j.out⟩
 |true=>
  go_enter OZ,OW
  go_wp2_with (go_at_call 233;refine C.out.mono ?_;rintro e w2 ⟨rfl,K⟩;have M:=Z K;clear K)
  go_ret;exact⟨by simp,j.out.trans (M.out.mono j.out.size)⟩
def mz:List bH->List bH->Bool
 |[],[]=>true
 |x::l,y::m=>lG x y&&mz l m
 |_,_=>false
theorem sE:∀{l m:List bH},mz l m=true↔l=m
 |[],[]=>by simp[mz]
 |[],_::_=>by simp[mz]
 |_::_,[]=>by simp[mz]
 |x::l,y::m=>by
  unfold mz;rw[OS,pN,sE,List.cons.injEq]
def sF (a b:aX):Bool:=a.ad==b.ad&&a.kd==b.kd&&a.qu==b.qu&&a.x==b.x&&a.y==b.y&&a.pa==b.pa&&mz a.bl b.bl
theorem pO {a b:aX}:sF a b=true↔a=b:=by
 obtain⟨a1,a2,K,M,N,T,a7⟩:=a;obtain⟨b1,b2,b3,b4,b5,b6,b7⟩:=b;unfold sF;simp only[OS,beq_iff_eq,sE,aX.mk.injEq];constructor
 ·rintro⟨⟨⟨⟨⟨⟨j,h2⟩,B⟩,C⟩,D⟩,G⟩,I⟩;exact⟨j,h2,B,C,D,G,I⟩
 ·rintro⟨j,h2,B,C,D,G,I⟩;exact⟨⟨⟨⟨⟨⟨j,h2⟩,B⟩,C⟩,D⟩,G⟩,I⟩
theorem EL {a b:aX}(h:a≠b):sF a b=false:=by
 rw[<-Bool.not_eq_true];exact λh2=>h (pO.1 h2)
theorem vH (m1 m2:aX)(xs ys:List dB)(A B:Option Addr)(c d:Nat)(w:World)(h1:m1.bl=xs.map (·.1))(h2:m2.bl=ys.map (·.1))(hA:ja w A xs)(hB:ja w B ys):
  Calls OO 151 #[dU m1 A (V xs) c,dU m2 B (V ys) d] w λe w'=>e=OP (OY (sF m1 m2))/\Below w.heap.size w w':=by
 have C:=Z (@EL m1 m2);have M:=Z (@pO m1 m2);have HA:=Z hA;have HB:=Z hB
 have rG:m1.bl=m2.bl->V xs=(V ys):= λe=>by
  have h:=congrArg List.length e;rw[h1,h2,OU,OU] at h;exact h
 have kU:m1.bl=m2.bl↔xs.map (·.1)=ys.map (·.1):=by rw[h1,h2]
 obtain⟨a1,a2,a3,a4,a5,a6,a7⟩:=m1;obtain⟨b1,b2,b3,b4,b5,b6,b7⟩:=m2;obtain⟨G,gj⟩:∃G,sF ⟨a1,a2,a3,a4,a5,a6,a7⟩ ⟨b1,b2,b3,b4,b5,b6,b7⟩=G:=⟨_,rfl⟩;rw[gj] at C M⊢;unfold dU;dsimp only at rG kU⊢;have jg:=Z rG;have fJ:=Z kU;clear gj hA hB h1 h2 rG kU;obtain⟨n,hn⟩:∃n,V xs=n:=⟨_,rfl⟩;obtain⟨k,hk⟩:∃k,V ys=k:=⟨_,rfl⟩;have Kz:n<=64:=by rw[<-hn];exact HA.out.len
 rw[hn,hk] at jg⊢;have HN:=Z hn;have HK:=Z hk;clear hn hk;have kA:Below w.heap.size w (w.alloc (OG #[U O a1,U O a2,U O a3,U O a4,U O a5,U O a6,X A n c] 55)):=(Below.refl _ w).alloc (OJ _) _;have K3:=kA.alloc kA.size (OG #[U O b1,U O b2,U O b3,U O b4,U O b5,U O b6,X B k d] 55);have I:=(ab.new w 55 #[U O a1,U O a2,U O a3,U O a4,U O a5,U O a6,X A n c]).alloc (OG #[U O b1,U O b2,U O b3,U O b4,U O b5,U O b6,X B k d] 55);have K:ab ((w.alloc (OG #[U O a1,U O a2,U O a3,U O a4,U O a5,U O a6,X A n c] 55)).alloc (OG #[U O b1,U O b2,U O b3,U O b4,U O b5,U O b6,X B k d] 55)) (w.heap.size+1) 55 #[U O b1,U O b2,U O b3,U O b4,U O b5,U O b6,X B k d]:=aE (ab.new _ _ _) (by simp);have D:=Z K3;have av:=Z I;have cI:=Z K;have x0:=I.cell 0;have x1:=I.cell 1;have x2:=I.cell 2;have x3:=I.cell 3;have x4:=I.cell 4;have x5:=I.cell 5;have x6:=I.cell 6;have y0:=K.cell 0;have y1:=K.cell 1;have y2:=K.cell 2;have y3:=K.cell 3;have y4:=K.cell 4;have y5:=K.cell 5;have y6:=K.cell 6;simp at x0 x1 x2 x3 x4 x5 x6 y0 y1 y2 y3 y4 y5 y6;clear kA K3 I K
 cases q1:(a1 !=b1) with
 |true=>
  have hr:G=false:=C.out (λh=>by have h:=aX.mk.inj h;have h:=h.1;rw[h] at q1;simp at q1);subst hr;clear C M
  go_enter OF,OE
  go_wp2_with fail
  go_ret;exact⟨rfl,D.out⟩
 |false=>
 have e1:a1=b1:=by simpa using q1
 subst e1;clear q1
 cases q2:(a2 !=b2) with
 |true=>
  have hr:G=false:=C.out (λh=>by have h:=aX.mk.inj h;have h:=h.2.1;rw[h] at q2;simp at q2);subst hr;clear C M
  go_enter OF,OE
  go_wp2_with fail
  go_ret;exact⟨rfl,D.out⟩
 |false=>
 have e2:a2=b2:=by simpa using q2
 subst e2;clear q2
 cases q3:(a3 !=b3) with
 |true=>
  have hr:G=false:=C.out (λh=>by have h:=aX.mk.inj h;have h:=h.2.2.1;rw[h] at q3;simp at q3);subst hr;clear C M
  go_enter OF,OE
  go_wp2_with fail
  go_ret;exact⟨rfl,D.out⟩
 |false=>
 have e3:a3=b3:=by simpa using q3
 subst e3;clear q3
 cases q4:(a4 !=b4) with
 |true=>
  have hr:G=false:=C.out (λh=>by have h:=aX.mk.inj h;have h:=h.2.2.2.1;rw[h] at q4;simp at q4);subst hr;clear C M
  go_enter OF,OE
  go_wp2_with fail
  go_ret;exact⟨rfl,D.out⟩
 |false=>
 have e4:a4=b4:=by simpa using q4
 subst e4;clear q4
 cases q5:(a5 !=b5) with
 |true=>
  have hr:G=false:=C.out (λh=>by have h:=aX.mk.inj h;have h:=h.2.2.2.2.1;rw[h] at q5;simp at q5);subst hr;clear C M
  go_enter OF,OE
  go_wp2_with fail
  go_ret;exact⟨rfl,D.out⟩
 |false=>
 have e5:a5=b5:=by simpa using q5
 subst e5;clear q5
 cases q6:(a6 !=b6) with
 |true=>
  have hr:G=false:=C.out (λh=>by have h:=aX.mk.inj h;have h:=h.2.2.2.2.2.1;rw[h] at q6;simp at q6);subst hr;clear C M
  go_enter OF,OE
  go_wp2_with fail
  go_ret;exact⟨rfl,D.out⟩
 |false=>
 have e6:a6=b6:=by simpa using q6
 subst e6;clear q6
 cases q7:((n:Int) !=(k:Int)) with
 |true=>
  have hr:G=false:=C.out (λh=>by have h:=aX.mk.inj h;have:=jg.out h.2.2.2.2.2.2;subst this;simp at q7);subst hr;clear C M
  go_enter OF,OE
  go_wp2_with fail
  go_ret;exact⟨rfl,D.out⟩
 |false=>
 have e7:n=k:=by have h:(n:Int)=(k:Int):=(by simpa using q7);omega
 subst e7;clear q7
 go_enter OF,OE
 go_wp2_with fail
 generalize K9:(w.alloc (OG #[U O a1,U O a2,U O a3,U O a4,U O a5,U O a6,X A n c] 55)).alloc (OG #[U O a1,U O a2,U O a3,U O a4,U O a5,U O a6,X B n d] 55)=W1 at D av cI x0 x1 x2 x3 x4 x5 x6 y0 y1 y2 y3 y4 y5 y6⊢;obtain⟨g1,eE⟩:∃g1,w.heap.size=g1:=⟨_,rfl⟩;obtain⟨g2,K5⟩:∃g2,g1+1=g2:=⟨_,rfl⟩;rw[eE] at av cI⊢;rw[K5] at cI⊢;have Hl:=Z eE;have dy:=Z (HA.out.below D.out (OJ _));have cE:=Z (HB.out.below D.out (OJ _));rw[eE] at D;clear x0 x1 x2 x3 x4 x5 x6 y0 y1 y2 y3 y4 y5 y6 K9 eE K5 HA HB jg
 go_loopg [5] n (λg i=> λwr=>∃(j:Nat),j+g=n/\i=U O (j:Int)/\Hid ((xs.take j).map (·.1)=(ys.take j).map (·.1))/\Hid (Below W1.heap.size W1 wr))
 case atStart=>exact⟨0,by omega,rfl,Z (by simp),Z (Below.refl _ _)⟩
 case round=>
  obtain⟨j,hj,rfl,HJ,HI⟩:=hrel;have hz:=(av.out.below HI.out av.out.lt).cell 6;(try dsimp only at hz)
  cases gk with
  |zero=>
   have Kx:¬((j:Int)<(n:Int)):=by omega
   have K8:G=true:=M.out.2 (by
    have h:=HJ.out;rw[OB (by have:=HN.out;omega),OB (by have:=HK.out;omega)] at h;rw[fJ.out.2 h])
   subst K8;clear hj;go_wp2_with fail
   go_ret;exact⟨rfl,(by have h:=D.out;rw[<-Hl.out] at h;exact h.trans (HI.out.mono h.size))⟩
  |succ g=>
   have Kx:((j:Int)<(n:Int)):=(by omega);have Ky:¬((j:Int)<0):=(by omega);have T:j<(V xs):=(by rw[HN.out];omega);have bM:j<(V ys):=(by rw[HK.out];omega);obtain⟨a,rfl,Kt,Ku,Kv⟩:=jL (dy.out.row.below HI.out) j T;obtain⟨b,rfl,I,K,Kw⟩:=jL (cE.out.row.below HI.out) j bM;obtain⟨p,hp⟩:∃p,xs[j]=p:=⟨_,rfl⟩;obtain⟨q,hq⟩:∃q,ys[j]=q:=⟨_,rfl⟩
   have HC:Hid (∀W,Sl W (some a) (az ia xs)/\Sl W (some b) (az ia ys)->(W.cell? (a.add (j*2))=some (U O p.1.dc)/\W.cell? ⟨(a.add (j*2)).block,(a.add (j*2)).off+1,none⟩=some (X p.2.1 p.1.l.length p.2.2))/\(W.cell? (b.add (j*2))=some (U O q.1.dc)/\W.cell? ⟨(b.add (j*2)).block,(b.add (j*2)).off+1,none⟩=some (X q.2.1 q.1.l.length q.2.2))):=Z λW hW=>by
    obtain⟨a',e1,_,c1,c2⟩:=jL hW.1 j T;obtain⟨b',e2,_,d1,d2⟩:=jL hW.2 j bM
    cases e1;cases e2
    rw[hp] at c1 c2;rw[hq] at d1 d2;exact⟨⟨c1,c2⟩,d1,d2⟩
   have KA:OR.wrap ((j:Int)+1)=(j:Int)+1:=(by rw[OL];omega);have K6:=Z hj;have N:Below W1.heap.size W1 wr.drew:=HI.out.drew;have Ht:=Z N;have dO:Hid ((aa [(g1,55,#[U O a1,U O a2,U O a3,U O a4,U O a5,U O a6,X (some a) n c]),(g2,55,#[U O a1,U O a2,U O a3,U O a4,U O a5,U O a6,X (some b) n d])] wr.drew)/\Sl wr.drew (some a) (az ia xs)/\Sl wr.drew (some b) (az ia ys)):=Z ⟨aa.cons (av.out.below N av.out.lt) (aa.cons (cI.out.below N cI.out.lt) (ai _)),dy.out.row.below N,cE.out.row.below N⟩;have JT:Hid (Calls OO 196 #[Ob #[U O p.1.dc,X p.2.1 p.1.l.length p.2.2],Ob #[U O q.1.dc,X q.2.1 q.1.l.length q.2.2]] wr.drew λe w'=>e=OP (OY (lG p.1 q.1))/\Below wr.drew.heap.size wr.drew w'):=Z (vF p.1 q.1 p.2.1 q.2.1 p.2.2 q.2.2 wr.drew ((dy.out.bl p (by rw[<-hp];exact OM T)).below N) ((cE.out.bl q (by rw[<-hq];exact OM bM)).below N) (by have:=dy.out.lens p (by rw[<-hp];exact OM T);omega))
   have iP:Hid (lG p.1 q.1=true->(xs.take (j+1)).map (·.1)=(ys.take (j+1)).map (·.1)):=Z λh=>by
    have e:=pN.1 h;rw[OI,OI,OV,OV,HJ.out,OA T,OA bM,hp,hq];simp[e]
   have jY:Hid (lG p.1 q.1=false->G=false):=Z λh=>C.out λe=>by
    have e7:=fJ.out.1 (by have e:=aX.mk.inj e;exact e.2.2.2.2.2.2);have e8:(xs.map (·.1))[j]'(by simpa using T)=(ys.map (·.1))[j]'(by simpa using bM):=(by simp only[e7]);rw[OT,OT,hp,hq] at e8;rw[pN.2 e8] at h
    cases h
   clear Kt Ku Kv I K Kw hj hp hq N HJ;obtain⟨bb,K4⟩:∃bb,lG p.1 q.1=bb:=⟨_,rfl⟩;rw[K4] at JT iP jY;clear K4 T bM;go_wp2_with fail
   refine aP (λW=>(aa [(g1,55,#[U O a1,U O a2,U O a3,U O a4,U O a5,U O a6,X (some a) n c]),(g2,55,#[U O a1,U O a2,U O a3,U O a4,U O a5,U O a6,X (some b) n d])] W)/\Sl W (some a) (az ia xs)/\Sl W (some b) (az ia ys)) 12 (Y 0 (Y 1 (Y 2 (Y 3 (Y 4 (Y 5 (Y 6 (Y 7 (Y 8 (Y 9 (.step 10 (Y 11 .done)))))))))))) (dO.out) (λPE K0=>?_)
   iterate 10
    refine af (v:=?_) rfl (by rfl) ?_ ?_
    rotate_left
    ·intro _ aJ;(try dsimp only at aJ);obtain⟨⟨z0,z1⟩,z2,z3⟩:=HC.out _ aJ.2;have z4:=aJ.1.head.cell 6;have z5:=aJ.1.tail.head.cell 6;(try dsimp only at z4 z5);go_simp;(try with_reducible rfl)
    simp only[J,OD,OC]
   refine aG (f:=196) rfl (by rfl) (by first|(go_simp;done)|(go_simp;rfl)) JT.out ?_;rintro e w2 ⟨rfl,dv⟩;have Hu:=Z (Ht.out.trans (dv.mono Ht.out.size));refine⟨_,rfl,_,λ_ h=>h,⟨dO.out.1.below dv,dO.out.2.1.below dv,dO.out.2.2.below dv⟩,?_⟩;simp only[J,OD,OC];refine af (v:=?_) rfl (by rfl) ?_ ?_;rotate_left
   ·intro _ aJ;(try dsimp only at aJ);go_simp;(try with_reducible rfl)
   simp only[J,OD,OC];refine K0 _ _ ?_;clear K0 PE;simp only[OH,OK];clear dv hz
   cases bb with
   |false=>
    have hr:=jY.out rfl;subst hr;go_wp2_with fail
    refine⟨rfl,?_⟩;go_wp2_with fail
    go_ret;exact⟨rfl,(by have h:=D.out;rw[<-Hl.out] at h;exact h.trans (Hu.out.mono h.size))⟩
   |true=>
    have HE:=Z (iP.out rfl);clear iP jY;go_wp2_with fail
    refine⟨rfl,?_⟩;go_wp2_with fail
    go_roundg g
    case measure=>omega
    case rel=>exact⟨j+1,by have:=K6.out;omega,rfl,HE,Hu⟩
def o4 (p:dB):Bool:=decide (70<p.1.l.length)
def lB (xs:List dB):Bool:=(xs.take 9).any o4||decide (8<V xs)
theorem FZ {xs:List dB}(h:lB xs=false):V xs<=8/\∀p∈xs,p.1.l.length<=70:=by
 unfold lB at h;rw[Bool.or_eq_false_iff,decide_eq_false_iff_not] at h;refine⟨by omega,λp j=>?_⟩;rw[OB (by omega)] at h;have:=OQ.1 h.1 p j;unfold o4 at this
 simpa using this
theorem FX {xs:List dB}{j:Nat}(C:j<V xs)(B:j<9)(h:o4 xs[j]=true):lB xs=true:=by
 unfold lB;rw[Bool.or_eq_true]
 left
 rw[List.any_eq_true];exact⟨xs[j],List.mem_of_getElem? (i:=j) (by rw[List.getElem?_take_of_lt B,OA C]),h⟩
theorem FY {xs:List dB}{j:Nat}(D:j=9\/j=V xs)(h:∀k (B:k<V xs),k<j->o4 xs[k]=false):lB xs=decide (8<V xs):=by
 unfold lB
 have:(xs.take 9).any o4=false:=by
  rw[OQ];intro p C;obtain⟨k,B,rfl⟩:=List.getElem_of_mem C;rw[List.length_take] at B;rw[List.getElem_take,h k (by omega) (by omega)]
  decide
 rw[this,Bool.false_or]
theorem Cd (m:aX)(xs:List dB)(A:Option Addr)(c:Nat)(w:World)(hA:Sl w A (az ia xs)):
  Calls OO 29 #[dU m A (V xs) c] w λe w'=>e=OP (OY (lB xs))/\Below w.heap.size w w':=by
 have HA:=Z hA;obtain⟨G,K⟩:∃G,lB xs=G:=⟨_,rfl⟩;rw[K];have M:=Z K;obtain⟨n,hn⟩:∃n,V xs=n:=⟨_,rfl⟩;rw[hn];have HN:=Z hn;unfold dU;have dv:Below w.heap.size w (w.alloc (OG #[U O m.ad,U O m.kd,U O m.qu,U O m.x,U O m.y,U O m.pa,X A n c] 55)):=(Below.refl _ w).alloc (OJ _) _;have dy:=ab.new w 55 #[U O m.ad,U O m.kd,U O m.qu,U O m.x,U O m.y,U O m.pa,X A n c];have D:=Z dv;have N:=Z dy;clear hA K hn dv dy
 go_enter Tryz.func29,Tryz.ntmps29
 go_wp2_with fail
 generalize w.alloc (OG #[U O m.ad,U O m.kd,U O m.qu,U O m.x,U O m.y,U O m.pa,X A n c] 55)=W1 at D N⊢;obtain⟨g1,T⟩:∃g1,w.heap.size=g1:=⟨_,rfl⟩;rw[T] at N⊢;have gj:=Z (HA.out.below D.out);have HG:=Z T;clear T HA;have z6:=N.out.cell 6;(try dsimp only at z6)
 go_loopg [3] 9 (λgk i=> λwr=>∃(j:Nat),j+gk=9/\j<=n/\i=U O (j:Int)/\Hid (∀k (hk:k<V xs),k<j->o4 xs[k]=false)/\wr=W1)
 case atStart=>exact⟨0,by omega,by omega,rfl,Z (λk hk h=>by omega),rfl⟩
 case round=>
  obtain⟨j,hj,JT,rfl,HJ,rfl⟩:=hrel
  have fin:Hid (j=9\/j=n->G=decide (8<n)):=Z λh=>by
   rw[<-M.out,FY (by rw[HN.out];exact h) HJ.out,HN.out]
  cases gk with
  |zero=>
   have h9:j=9:=(by omega);have hr:=fin.out (.inl h9);have fJ:¬((j:Int)<9):=(by omega);have Ht:((8:Int)<(n:Int)):=(by omega);have bM:G=true:=(by rw[hr];simp;omega);subst bM;clear hj hr fin;rcases ON j n with B|Hl
   ·have aJ:((j:Int)<(n:Int)):=by omega
    go_wp2_with fail
    go_ret;exact⟨rfl,D.out⟩
   ·have aJ:¬((j:Int)<(n:Int)):=by omega
    go_wp2_with fail
    go_ret;exact⟨rfl,D.out⟩
  |succ g=>
   have fJ:((j:Int)<9):=(by omega);rcases ON j n with B|Hl
   ·have aJ:((j:Int)<(n:Int)):=by omega
    have Hu:¬((j:Int)<0):=(by omega);have dO:j<(V xs):=(by rw[HN.out];exact B);obtain⟨a,rfl,kU,rG,c1⟩:=jL gj.out j dO;have K0:OR.wrap ((j:Int)+1)=(j:Int)+1:=(by rw[OL];omega);have C:o4 xs[j]=decide (70<xs[j].1.l.length):=rfl;have cI:=Z (λh=>FX dO (by omega) h);obtain⟨lj,av⟩:∃lj,xs[j].1.l.length=lj:=⟨_,rfl⟩;rw[av] at c1 C;have cE:=Z C;have iP:=Z hj;have jg:=Z B;rcases ON 70 lj with I|I
    ·have kA:((70:Int)<(lj:Int)):=by omega
     have hr:G=true:=(by rw[<-M.out];exact cI.out (by rw[cE.out];simpa using I));subst hr;clear kU rG hj B av C I fin;go_wp2_with fail
     go_ret;exact⟨rfl,D.out⟩
    ·have kA:¬((70:Int)<(lj:Int)):=by omega
     have jY:Hid (o4 xs[j]=false):=Z (by rw[cE.out];simpa using I);clear hj B av C I fin;go_wp2_with fail
     go_roundg g
     case measure=>omega
     case rel=>
      refine⟨j+1,by have:=iP.out;omega,by have:=jg.out;omega,rfl,Z λk hk h=>?_,rfl⟩;rcases ON k j with h1|h1
      ·exact HJ.out k hk h1
      ·obtain rfl:k=j:=by omega
       exact jY.out
   ·have eE:j=n:=by omega
    have hr:=fin.out (.inr eE);have aJ:¬((j:Int)<(n:Int)):=(by omega);have Ht:¬((8:Int)<(n:Int)):=(by omega);have bM:G=false:=(by rw[hr];simp;omega);subst bM;clear hj hr fin;go_wp2_with fail
    go_ret;exact⟨rfl,D.out⟩
end Go.Proofs.YthhijgcfbjcgiaaGreatDoor
