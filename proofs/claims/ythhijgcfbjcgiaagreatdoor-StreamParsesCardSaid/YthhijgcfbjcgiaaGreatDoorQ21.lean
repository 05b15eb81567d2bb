/- Same, SameM -/
import Derived.Test.YthhijgcfbjcgiaaGreatDoorQ20
namespace Go.Proofs.YthhijgcfbjcgiaaGreatDoor
open Go Go.RowKit
attribute [local go_sem] Oper.semAt_some
set_option maxHeartbeats 16000000
set_option maxRecDepth 100000
open Go.IntKind renaming i64→O,wrap_i64→OP,i64→OX
open Go.Value renaming int→U,slice→X,bool→OY,agg→OZ
open Go.Lib renaming hid→Z
open List renaming length→V,setIfInBounds_toArray→J,set_cons_succ→OA,set_cons_zero→OB,getElem?_eq_getElem→OD,take_of_length_le→OF,drop_succ_cons→OG,take_add_one→OH,drop_nil→OJ,getElem_mem→OK,getElem_map→OQ,length_map→OR,map_append→OS
open Go.Proofs.YthhijgcfbjcgiaaGreatDoor.cb renaming take→Y
open Tryz renaming ntmps151→OC,func151→OE,prog→OM,ntmps196→OT,ntmps233→OU,func196→OV,func233→OW
open Go.Obj renaming cells→OI
open Nat renaming le_refl→OL
open Go.Ending renaming returned→ON
open Bool renaming and_eq_true→OO
theorem Fk {α:Type}{l m:List α}{j:Nat}(hl:j<V l)(B:j<V m)(h:l.take j=m.take j)(e:l[j]=m[j]):l.take (j+1)=m.take (j+1):=by
 rw[OH,OH,h,OD hl,OD B,e]
theorem G1 {α:Type}{l m:List α}{j:Nat}(hl:j<V l)(B:j<V m)(e:l[j]≠m[j]):l≠m:=by
 rintro rfl;exact e rfl
theorem wv (l m:List (Int×Int))(A B:Option Addr)(c d:Nat)(w:World)(hA:Sl w A (av bj l))(hB:Sl w B (av bj m))(hl:V l<=1000000):
  Calls OM 233 #[X A (V l) c,X B (V m) d] w λe w'=>e=ON (OY (l==m))/\Below w.heap.size w w':=by
 have HA:=Z hA;have HB:=Z hB;have HL:=Z hl;clear hA hB hl;obtain⟨G,N⟩:∃G,(l==m)=G:=⟨_,rfl⟩;rw[N];obtain⟨n,hn⟩:∃n,V l=n:=⟨_,rfl⟩;obtain⟨k,hk⟩:∃k,V m=k:=⟨_,rfl⟩;rw[hn,hk];have I:=Z N;have HN:=Z hn;have HK:=Z hk;clear N hn hk;rcases Decidable.em (n≠k) with cz|cz
 ·have Iq:(n:Int)≠(k:Int):=by omega
  have hR:G=false:=by
   rw[<-I.out,beq_eq_false_iff_ne];rintro rfl;have:=HN.out;have:=HK.out;omega
  subst hR;clear cz
  go_enter OW,OU
  go_wp2
  go_ret;exact⟨rfl,Below.refl _ _⟩
 obtain rfl:n=k:=by omega
 clear cz
 go_enter OW,OU
 go_wp2_with fail
 go_loopg [5] n (λg i=> λwr=>∃(j:Nat),j+g=n/\i=U O (j:Int)/\Hid (l.take j=m.take j)/\Hid (Below w.heap.size w wr))
 case atStart=>exact⟨0,by omega,rfl,Z (by simp),Z (Below.refl _ _)⟩
 case round=>
  obtain⟨j,hj,rfl,HJ,HI⟩:=hrel
  cases gk with
  |zero=>
   have Io:¬((j:Int)<(n:Int)):=by omega
   have gJ:G=true:=by
    rw[<-I.out,beq_iff_eq];have h:=HJ.out
    rwa [OF (by have:=HN.out;omega),OF (by have:=HK.out;omega)] at h
   subst gJ;clear hj;go_wp2_with fail
   go_ret;exact⟨rfl,HI.out⟩
  |succ g=>
   have Io:((j:Int)<(n:Int)):=(by omega);have Ip:¬((j:Int)<0):=(by omega);have K:j<(V l):=(by rw[HN.out];omega);have M:j<(V m):=(by rw[HK.out];omega);obtain⟨a,rfl,hU,ja,jT⟩:=jj (HA.out.below HI.out) j K;obtain⟨b,rfl,kz,rX,wj⟩:=jj (HB.out.below HI.out) j M;obtain⟨⟨p0,p1⟩,hp⟩:∃p,l[j]=p:=⟨_,rfl⟩;obtain⟨⟨q0,q1⟩,hq⟩:∃q,m[j]=q:=⟨_,rfl⟩
   have HC:Hid (∀W,Sl W (some a) (av bj l)/\Sl W (some b) (av bj m)->(W.cell? (a.add (j*2))=some (U O p0)/\W.cell? ⟨(a.add (j*2)).block,(a.add (j*2)).off+1,none⟩=some (U O p1))/\(W.cell? (b.add (j*2))=some (U O q0)/\W.cell? ⟨(b.add (j*2)).block,(b.add (j*2)).off+1,none⟩=some (U O q1))):=Z λW hW=>by
    obtain⟨a',e1,_,c1,c2⟩:=jj hW.1 j K;obtain⟨b',e2,_,d1,d2⟩:=jj hW.2 j M
    cases e1;cases e2
    rw[hp] at c1 c2;rw[hq] at d1 d2;exact⟨⟨c1,c2⟩,d1,d2⟩
   have J2:OX.wrap ((j:Int)+1)=(j:Int)+1:=(by have:=HL.out;have:=HN.out;rw[OP];omega);have gy:=Z hj;have T:Below w.heap.size w wr.drew:=HI.out.drew;have aB:=Z T;have bE:Hid (Sl wr.drew (some a) (av bj l)/\Sl wr.drew (some b) (av bj m)):=Z ⟨HA.out.below T,HB.out.below T⟩;have dt:Hid ((p0=q0/\p1=q1)->l.take (j+1)=m.take (j+1)):=Z λh=>Fk K M HJ.out (by rw[hp,hq,h.1,h.2])
   have aC:Hid (¬(p0=q0/\p1=q1)->G=false):=Z λh=>by
    rw[<-I.out,beq_eq_false_iff_ne];exact G1 K M (by rw[hp,hq];intro e;exact h ⟨(Prod.mk.inj e).1,(Prod.mk.inj e).2⟩)
   clear hU ja jT kz rX wj hj hp hq T I HJ;clear K M;clear HA HB HN HK;obtain⟨b0,dD⟩:∃b,(p0==q0)=b:=⟨_,rfl⟩;obtain⟨b1,dE⟩:∃b,(p1==q1)=b:=⟨_,rfl⟩;have eE:=Z dD;have fW:=Z dE
   cases b0 with
   |false=>
    have hr:G=false:=aC.out (λh=>by have:=eE.out;rw[h.1,beq_self_eq_true] at this;cases this);subst hr;go_wp2_with fail
    refine bf (λW=>Sl W (some a) (av bj l)/\Sl W (some b) (av bj m)) 9 (Y 0 (Y 1 (Y 2 (Y 3 (Y 4 (Y 5 (Y 6 (Y 7 (Y 8 .done))))))))) (bE.out) (λPE C=>?_)
    iterate 9
     refine aj (v:=?_) rfl (by rfl) ?_ ?_
     rotate_left
     ·intro _ D;(try dsimp only at D);obtain⟨⟨z0,z1⟩,z2,z3⟩:=HC.out _ D;go_simp;(try with_reducible rfl)
     simp only[J,OB,OA]
    refine C _ _ ?_;clear C PE;simp only[OG,OJ];go_wp2_with fail
    refine⟨rfl,?_⟩;go_wp2_with fail
    go_ret;exact⟨rfl,aB.out⟩
   |true=>
    cases b1 with
    |false=>
     have hr:G=false:=aC.out (λh=>by have:=fW.out;rw[h.2,beq_self_eq_true] at this;cases this);subst hr;go_wp2_with fail
     refine bf (λW=>Sl W (some a) (av bj l)/\Sl W (some b) (av bj m)) 9 (Y 0 (Y 1 (Y 2 (Y 3 (Y 4 (Y 5 (Y 6 (Y 7 (Y 8 .done))))))))) (bE.out) (λPE C=>?_)
     iterate 9
      refine aj (v:=?_) rfl (by rfl) ?_ ?_
      rotate_left
      ·intro _ D;(try dsimp only at D);obtain⟨⟨z0,z1⟩,z2,z3⟩:=HC.out _ D;go_simp;(try with_reducible rfl)
      simp only[J,OB,OA]
     refine C _ _ ?_;clear C PE;simp only[OG,OJ];go_wp2_with fail
     refine⟨rfl,?_⟩;go_wp2_with fail
     go_ret;exact⟨rfl,aB.out⟩
    |true=>
     have hq:p0=q0:=beq_iff_eq.1 dD;have dY:p1=q1:=beq_iff_eq.1 dE;have HE:=Z (dt.out ⟨hq,dY⟩);subst hq dY;clear dt aC;go_wp2_with fail
     refine bf (λW=>Sl W (some a) (av bj l)/\Sl W (some b) (av bj m)) 9 (Y 0 (Y 1 (Y 2 (Y 3 (Y 4 (Y 5 (Y 6 (Y 7 (Y 8 .done))))))))) (bE.out) (λPE C=>?_)
     iterate 9
      refine aj (v:=?_) rfl (by rfl) ?_ ?_
      rotate_left
      ·intro _ D;(try dsimp only at D);obtain⟨⟨z0,z1⟩,z2,z3⟩:=HC.out _ D;go_simp;(try with_reducible rfl)
      simp only[J,OB,OA]
     refine C _ _ ?_;clear C PE;simp only[OG,OJ];go_wp2_with fail
     refine⟨rfl,?_⟩;go_wp2_with fail
     go_roundg g
     case measure=>omega
     case rel=>exact⟨j+1,by have:=gy.out;omega,rfl,HE,aB⟩
def lF (x y:bH):Bool:=x.dc==y.dc&&x.l==y.l
theorem pZ {x y:bH}:lF x y=true↔x=y:=by
 obtain⟨a,b⟩:=x;obtain⟨c,d⟩:=y;unfold lF;simp
theorem ws (x y:bH)(A B:Option Addr)(c d:Nat)(w:World)(N:Sl w A (av bj x.l))(T:Sl w B (av bj y.l))(hl:V x.l<=1000000):
  Calls OM 196 #[OZ #[U O x.dc,X A (V x.l) c],OZ #[U O y.dc,X B (V y.l) d]] w λe w'=>e=ON (OY (lF x y))/\Below w.heap.size w w':=by
 obtain⟨a,l⟩:=x;obtain⟨b,m⟩:=y;unfold lF;dsimp only at N T hl⊢;have G:Below w.heap.size w (w.alloc (OI #[U O a,X A (V l) c] 93)):=(Below.refl _ w).alloc (OL _) _;have j:=Z (G.alloc G.size (OI #[U O b,X B (V m) d] 93));have C:=Z (wv l m A B c d _ (N.below j.out) (T.below j.out) hl);have I:=(ab.new w 93 #[U O a,X A (V l) c]).alloc (OI #[U O b,X B (V m) d] 93);have D:=ab.new (w.alloc (OI #[U O a,X A (V l) c] 93)) 93 #[U O b,X B (V m) d];rw[World.size_alloc] at D;have z0:=I.cell 0;have z1:=I.cell 1;have z2:=D.cell 0;have z3:=D.cell 1;(try dsimp only at z0 z1 z2 z3);clear N T hl G I D;generalize (l==m)=lm at C⊢;generalize (V l)=n at*;generalize (V m)=k at*
 cases aB:(a==b) with
 |false=>
  go_enter OV,OT
  go_wp2_with fail
  go_ret;exact⟨rfl,j.out⟩
 |true=>
  go_enter OV,OT
  go_wp2_with (go_at_call 233;refine C.out.mono ?_;rintro e w2 ⟨rfl,K⟩;have M:=Z K;clear K)
  go_ret;exact⟨by simp,j.out.trans (M.out.mono j.out.size)⟩
def mr:List bH->List bH->Bool
 |[],[]=>true
 |x::l,y::m=>lF x y&&mr l m
 |_,_=>false
theorem sZ:∀{l m:List bH},mr l m=true↔l=m
 |[],[]=>by simp[mr]
 |[],_::_=>by simp[mr]
 |_::_,[]=>by simp[mr]
 |x::l,y::m=>by
  unfold mr;rw[OO,pZ,sZ,List.cons.injEq]
def s7 (a b:aT):Bool:=a.ad==b.ad&&a.kd==b.kd&&a.qu==b.qu&&a.x==b.x&&a.y==b.y&&a.pa==b.pa&&mr a.bl b.bl
theorem qa {a b:aT}:s7 a b=true↔a=b:=by
 obtain⟨a1,a2,K,M,N,T,a7⟩:=a;obtain⟨b1,b2,b3,b4,b5,b6,b7⟩:=b;unfold s7;simp only[OO,beq_iff_eq,sZ,aT.mk.injEq];constructor
 ·rintro⟨⟨⟨⟨⟨⟨j,h2⟩,B⟩,C⟩,D⟩,G⟩,I⟩;exact⟨j,h2,B,C,D,G,I⟩
 ·rintro⟨j,h2,B,C,D,G,I⟩;exact⟨⟨⟨⟨⟨⟨j,h2⟩,B⟩,C⟩,D⟩,G⟩,I⟩
theorem E6 {a b:aT}(h:a≠b):s7 a b=false:=by
 rw[<-Bool.not_eq_true];exact λh2=>h (qa.1 h2)
theorem wu (m1 m2:aT)(xs ys:List ew)(A B:Option Addr)(c d:Nat)(w:World)(h1:m1.bl=xs.map (·.1))(h2:m2.bl=ys.map (·.1))(hA:kh w A xs)(hB:kh w B ys):
  Calls OM 151 #[fI m1 A (V xs) c,fI m2 B (V ys) d] w λe w'=>e=ON (OY (s7 m1 m2))/\Below w.heap.size w w':=by
 have C:=Z (@E6 m1 m2);have M:=Z (@qa m1 m2);have HA:=Z hA;have HB:=Z hB
 have rX:m1.bl=m2.bl->V xs=(V ys):= λe=>by
  have h:=congrArg List.length e;rw[h1,h2,OR,OR] at h;exact h
 have kz:m1.bl=m2.bl↔xs.map (·.1)=ys.map (·.1):=by rw[h1,h2]
 obtain⟨a1,a2,a3,a4,a5,a6,a7⟩:=m1;obtain⟨b1,b2,b3,b4,b5,b6,b7⟩:=m2;obtain⟨G,gy⟩:∃G,s7 ⟨a1,a2,a3,a4,a5,a6,a7⟩ ⟨b1,b2,b3,b4,b5,b6,b7⟩=G:=⟨_,rfl⟩;rw[gy] at C M⊢;unfold fI;dsimp only at rX kz⊢;have hU:=Z rX;have fW:=Z kz;clear gy hA hB h1 h2 rX kz;obtain⟨n,hn⟩:∃n,V xs=n:=⟨_,rfl⟩;obtain⟨k,hk⟩:∃k,V ys=k:=⟨_,rfl⟩;have KF:n<=64:=by rw[<-hn];exact HA.out.len
 rw[hn,hk] at hU⊢;have HN:=Z hn;have HK:=Z hk;clear hn hk;have jT:Below w.heap.size w (w.alloc (OI #[U O a1,U O a2,U O a3,U O a4,U O a5,U O a6,X A n c] 55)):=(Below.refl _ w).alloc (OL _) _;have K0:=jT.alloc jT.size (OI #[U O b1,U O b2,U O b3,U O b4,U O b5,U O b6,X B k d] 55);have I:=(ab.new w 55 #[U O a1,U O a2,U O a3,U O a4,U O a5,U O a6,X A n c]).alloc (OI #[U O b1,U O b2,U O b3,U O b4,U O b5,U O b6,X B k d] 55);have K:ab ((w.alloc (OI #[U O a1,U O a2,U O a3,U O a4,U O a5,U O a6,X A n c] 55)).alloc (OI #[U O b1,U O b2,U O b3,U O b4,U O b5,U O b6,X B k d] 55)) (w.heap.size+1) 55 #[U O b1,U O b2,U O b3,U O b4,U O b5,U O b6,X B k d]:=aH (ab.new _ _ _) (by simp);have D:=Z K0;have aB:=Z I;have dt:=Z K;have x0:=I.cell 0;have x1:=I.cell 1;have x2:=I.cell 2;have x3:=I.cell 3;have x4:=I.cell 4;have x5:=I.cell 5;have x6:=I.cell 6;have y0:=K.cell 0;have y1:=K.cell 1;have y2:=K.cell 2;have y3:=K.cell 3;have y4:=K.cell 4;have y5:=K.cell 5;have y6:=K.cell 6;simp at x0 x1 x2 x3 x4 x5 x6 y0 y1 y2 y3 y4 y5 y6;clear jT K0 I K
 cases q1:(a1 !=b1) with
 |true=>
  have hr:G=false:=C.out (λh=>by have h:=aT.mk.inj h;have h:=h.1;rw[h] at q1;simp at q1);subst hr;clear C M
  go_enter OE,OC
  go_wp2_with fail
  go_ret;exact⟨rfl,D.out⟩
 |false=>
 have e1:a1=b1:=by simpa using q1
 subst e1;clear q1
 cases q2:(a2 !=b2) with
 |true=>
  have hr:G=false:=C.out (λh=>by have h:=aT.mk.inj h;have h:=h.2.1;rw[h] at q2;simp at q2);subst hr;clear C M
  go_enter OE,OC
  go_wp2_with fail
  go_ret;exact⟨rfl,D.out⟩
 |false=>
 have e2:a2=b2:=by simpa using q2
 subst e2;clear q2
 cases q3:(a3 !=b3) with
 |true=>
  have hr:G=false:=C.out (λh=>by have h:=aT.mk.inj h;have h:=h.2.2.1;rw[h] at q3;simp at q3);subst hr;clear C M
  go_enter OE,OC
  go_wp2_with fail
  go_ret;exact⟨rfl,D.out⟩
 |false=>
 have e3:a3=b3:=by simpa using q3
 subst e3;clear q3
 cases q4:(a4 !=b4) with
 |true=>
  have hr:G=false:=C.out (λh=>by have h:=aT.mk.inj h;have h:=h.2.2.2.1;rw[h] at q4;simp at q4);subst hr;clear C M
  go_enter OE,OC
  go_wp2_with fail
  go_ret;exact⟨rfl,D.out⟩
 |false=>
 have e4:a4=b4:=by simpa using q4
 subst e4;clear q4
 cases q5:(a5 !=b5) with
 |true=>
  have hr:G=false:=C.out (λh=>by have h:=aT.mk.inj h;have h:=h.2.2.2.2.1;rw[h] at q5;simp at q5);subst hr;clear C M
  go_enter OE,OC
  go_wp2_with fail
  go_ret;exact⟨rfl,D.out⟩
 |false=>
 have e5:a5=b5:=by simpa using q5
 subst e5;clear q5
 cases q6:(a6 !=b6) with
 |true=>
  have hr:G=false:=C.out (λh=>by have h:=aT.mk.inj h;have h:=h.2.2.2.2.2.1;rw[h] at q6;simp at q6);subst hr;clear C M
  go_enter OE,OC
  go_wp2_with fail
  go_ret;exact⟨rfl,D.out⟩
 |false=>
 have e6:a6=b6:=by simpa using q6
 subst e6;clear q6
 cases q7:((n:Int) !=(k:Int)) with
 |true=>
  have hr:G=false:=C.out (λh=>by have h:=aT.mk.inj h;have:=hU.out h.2.2.2.2.2.2;subst this;simp at q7);subst hr;clear C M
  go_enter OE,OC
  go_wp2_with fail
  go_ret;exact⟨rfl,D.out⟩
 |false=>
 have e7:n=k:=by have h:(n:Int)=(k:Int):=(by simpa using q7);omega
 subst e7;clear q7
 go_enter OE,OC
 go_wp2_with fail
 generalize K5:(w.alloc (OI #[U O a1,U O a2,U O a3,U O a4,U O a5,U O a6,X A n c] 55)).alloc (OI #[U O a1,U O a2,U O a3,U O a4,U O a5,U O a6,X B n d] 55)=W1 at D aB dt x0 x1 x2 x3 x4 x5 x6 y0 y1 y2 y3 y4 y5 y6⊢;obtain⟨g1,eE⟩:∃g1,w.heap.size=g1:=⟨_,rfl⟩;obtain⟨g2,K2⟩:∃g2,g1+1=g2:=⟨_,rfl⟩;rw[eE] at aB dt⊢;rw[K2] at dt⊢;have wj:=Z eE;have dE:=Z (HA.out.below D.out (OL _));have cz:=Z (HB.out.below D.out (OL _));rw[eE] at D;clear x0 x1 x2 x3 x4 x5 x6 y0 y1 y2 y3 y4 y5 y6 K5 eE K2 HA HB hU
 go_loopg [5] n (λg i=> λwr=>∃(j:Nat),j+g=n/\i=U O (j:Int)/\Hid ((xs.take j).map (·.1)=(ys.take j).map (·.1))/\Hid (Below W1.heap.size W1 wr))
 case atStart=>exact⟨0,by omega,rfl,Z (by simp),Z (Below.refl _ _)⟩
 case round=>
  obtain⟨j,hj,rfl,HJ,HI⟩:=hrel;have hz:=(aB.out.below HI.out aB.out.lt).cell 6;(try dsimp only at hz)
  cases gk with
  |zero=>
   have KC:¬((j:Int)<(n:Int)):=by omega
   have K4:G=true:=M.out.2 (by
    have h:=HJ.out;rw[OF (by have:=HN.out;omega),OF (by have:=HK.out;omega)] at h;rw[fW.out.2 h])
   subst K4;clear hj;go_wp2_with fail
   go_ret;exact⟨rfl,(by have h:=D.out;rw[<-wj.out] at h;exact h.trans (HI.out.mono h.size))⟩
  |succ g=>
   have KC:((j:Int)<(n:Int)):=(by omega);have KE:¬((j:Int)<0):=(by omega);have T:j<(V xs):=(by rw[HN.out];omega);have bE:j<(V ys):=(by rw[HK.out];omega);obtain⟨a,rfl,K6,K8,K9⟩:=qE (dE.out.row.below HI.out) j T;obtain⟨b,rfl,I,K,Kr⟩:=qE (cz.out.row.below HI.out) j bE;obtain⟨p,hp⟩:∃p,xs[j]=p:=⟨_,rfl⟩;obtain⟨q,hq⟩:∃q,ys[j]=q:=⟨_,rfl⟩
   have HC:Hid (∀W,Sl W (some a) (av ij xs)/\Sl W (some b) (av ij ys)->(W.cell? (a.add (j*2))=some (U O p.1.dc)/\W.cell? ⟨(a.add (j*2)).block,(a.add (j*2)).off+1,none⟩=some (X p.2.1 p.1.l.length p.2.2))/\(W.cell? (b.add (j*2))=some (U O q.1.dc)/\W.cell? ⟨(b.add (j*2)).block,(b.add (j*2)).off+1,none⟩=some (X q.2.1 q.1.l.length q.2.2))):=Z λW hW=>by
    obtain⟨a',e1,_,c1,c2⟩:=qE hW.1 j T;obtain⟨b',e2,_,d1,d2⟩:=qE hW.2 j bE
    cases e1;cases e2
    rw[hp] at c1 c2;rw[hq] at d1 d2;exact⟨⟨c1,c2⟩,d1,d2⟩
   have KG:OX.wrap ((j:Int)+1)=(j:Int)+1:=(by rw[OP];omega);have K3:=Z hj;have N:Below W1.heap.size W1 wr.drew:=HI.out.drew;have Io:=Z N;have dY:Hid ((aa [(g1,55,#[U O a1,U O a2,U O a3,U O a4,U O a5,U O a6,X (some a) n c]),(g2,55,#[U O a1,U O a2,U O a3,U O a4,U O a5,U O a6,X (some b) n d])] wr.drew)/\Sl wr.drew (some a) (av ij xs)/\Sl wr.drew (some b) (av ij ys)):=Z ⟨aa.cons (aB.out.below N aB.out.lt) (aa.cons (dt.out.below N dt.out.lt) (ag _)),dE.out.row.below N,cz.out.row.below N⟩;have Iq:Hid (Calls OM 196 #[OZ #[U O p.1.dc,X p.2.1 p.1.l.length p.2.2],OZ #[U O q.1.dc,X q.2.1 q.1.l.length q.2.2]] wr.drew λe w'=>e=ON (OY (lF p.1 q.1))/\Below wr.drew.heap.size wr.drew w'):=Z (ws p.1 q.1 p.2.1 q.2.1 p.2.2 q.2.2 wr.drew ((dE.out.bl p (by rw[<-hp];exact OK T)).below N) ((cz.out.bl q (by rw[<-hq];exact OK bE)).below N) (by have:=dE.out.lens p (by rw[<-hp];exact OK T);omega))
   have gJ:Hid (lF p.1 q.1=true->(xs.take (j+1)).map (·.1)=(ys.take (j+1)).map (·.1)):=Z λh=>by
    have e:=pZ.1 h;rw[OH,OH,OS,OS,HJ.out,OD T,OD bE,hp,hq];simp[e]
   have ja:Hid (lF p.1 q.1=false->G=false):=Z λh=>C.out λe=>by
    have e7:=fW.out.1 (by have e:=aT.mk.inj e;exact e.2.2.2.2.2.2);have e8:(xs.map (·.1))[j]'(by simpa using T)=(ys.map (·.1))[j]'(by simpa using bE):=(by simp only[e7]);rw[OQ,OQ,hp,hq] at e8;rw[pZ.2 e8] at h
    cases h
   clear K6 K8 K9 I K Kr hj hp hq N HJ;obtain⟨bb,K1⟩:∃bb,lF p.1 q.1=bb:=⟨_,rfl⟩;rw[K1] at Iq gJ ja;clear K1 T bE;go_wp2_with fail
   refine bf (λW=>(aa [(g1,55,#[U O a1,U O a2,U O a3,U O a4,U O a5,U O a6,X (some a) n c]),(g2,55,#[U O a1,U O a2,U O a3,U O a4,U O a5,U O a6,X (some b) n d])] W)/\Sl W (some a) (av ij xs)/\Sl W (some b) (av ij ys)) 12 (Y 0 (Y 1 (Y 2 (Y 3 (Y 4 (Y 5 (Y 6 (Y 7 (Y 8 (Y 9 (.step 10 (Y 11 .done)))))))))))) (dY.out) (λPE J2=>?_)
   iterate 10
    refine aj (v:=?_) rfl (by rfl) ?_ ?_
    rotate_left
    ·intro _ aC;(try dsimp only at aC);obtain⟨⟨z0,z1⟩,z2,z3⟩:=HC.out _ aC.2;have z4:=aC.1.head.cell 6;have z5:=aC.1.tail.head.cell 6;(try dsimp only at z4 z5);go_simp;(try with_reducible rfl)
    simp only[J,OB,OA]
   refine aX (f:=196) rfl (by rfl) (by first|(go_simp;done)|(go_simp;rfl)) Iq.out ?_;rintro e w2 ⟨rfl,dD⟩;have Ip:=Z (Io.out.trans (dD.mono Io.out.size));refine⟨_,rfl,_,λ_ h=>h,⟨dY.out.1.below dD,dY.out.2.1.below dD,dY.out.2.2.below dD⟩,?_⟩;simp only[J,OB,OA];refine aj (v:=?_) rfl (by rfl) ?_ ?_;rotate_left
   ·intro _ aC;(try dsimp only at aC);go_simp;(try with_reducible rfl)
   simp only[J,OB,OA];refine J2 _ _ ?_;clear J2 PE;simp only[OG,OJ];clear dD hz
   cases bb with
   |false=>
    have hr:=ja.out rfl;subst hr;go_wp2_with fail
    refine⟨rfl,?_⟩;go_wp2_with fail
    go_ret;exact⟨rfl,(by have h:=D.out;rw[<-wj.out] at h;exact h.trans (Ip.out.mono h.size))⟩
   |true=>
    have HE:=Z (gJ.out rfl);clear gJ ja;go_wp2_with fail
    refine⟨rfl,?_⟩;go_wp2_with fail
    go_roundg g
    case measure=>omega
    case rel=>exact⟨j+1,by have:=K3.out;omega,rfl,HE,Ip⟩
end Go.Proofs.YthhijgcfbjcgiaaGreatDoor
