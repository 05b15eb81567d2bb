/- StrB, StrA, StrG, StrM, StrC, StrV, MLen, StrL, R8P -/
import Derived.Test.YthhijgcfbjcgiaaGreatDoorQ02
namespace Go.Proofs.YthhijgcfbjcgiaaGreatDoor
open Go Go.RowKit
open List renaming length→O,length_append→U,length_cons→V,prefix_or_prefix_of_prefix→OA,getElem?_eq_getElem→OB,isPrefixOf_iff_prefix→OC,getElem_of_mem→OG,getElem?_eq_none→OI,mem_cons_of_mem→OJ,prefix_rfl→OK,getD_eq_getElem?_getD→OL,getElem?_append_left→OM,getElem_append_left→ON,getElem_mem→OO,getElem?_map→OV,getD→OY
open Bool renaming and_eq_true→Z,false_ne_true→J,not_eq_true→OD,eq_iff_iff→OP,eq_false_iff→OU
open Nat renaming lt_or_ge→Y,le_refl→X,zero_le→OH,add_assoc→OQ,eq_or_lt_of_le→OR,mul_comm→OS,pow_succ→OT,mul_assoc→OW
open Int renaming toNat_natCast→OE,le_refl→OX
open Option renaming getD_some→OF
theorem vJ (b:UInt8)(sp:List UInt8):fu (b::sp)=49::(aD b.toNat 8++fu sp):=by simp[fu]
theorem zc {l:List UInt8}:∀(k p:Nat),(∀j,p<=j->j<p+k->aS l j=0)->dH l k p=k
 |0,_,_=>rfl
 |k+1,p,h=>by
  rw[dH,if_pos (h p (by omega) (by omega)),zc k (p+1) (λj B h2=>h j (by omega) (by omega))]
theorem zd {l:List UInt8}:∀(z k p:Nat),z<k->(∀j,p<=j->j<p+z->aS l j=0)->aS l (p+z)≠0->dH l k p=z
 |0,k+1,p,_,_,h=>by rw[dH,if_neg (by simpa using h)]
 |z+1,k+1,p,hk,h0,h=>by
  rw[dH,if_pos (h0 p (by omega) (by omega)),zd z k (p+1) (by omega) (λj B h2=>h0 j (by omega) (by omega)) (by rw[show p+1+z=p+(z+1) by omega];exact h)]
theorem jd (n:Int):(fK n).length=20:=by simp[fK,cf]
def Kx (l:List UInt8) (p:Nat):Prop:=p<=8*O l/\∀j,p<=j->j<8*O l->aS l j=0
def Stop (l:List UInt8) (p:Nat):Prop:=At l p bU\/Kx l p
theorem DU {m:aT}(j:AL m){ad:Int}(h:m.ad<ad):cu (ed m) ad=true:=by
 unfold cu ed;have B:=j.a1
 cases C:pV m.kd with
 |true=>
  simp only[if_true,Z,decide_eq_true_eq,Bool.true_or,and_true];exact⟨⟨⟨by omega,h⟩,j.px⟩,j.py⟩
 |false=>
  simp only[Bool.false_eq_true,if_false,Z,decide_eq_true_eq];exact⟨⟨⟨⟨by omega,h⟩,rfl⟩,rfl⟩,rfl⟩
theorem kC (m:aT):(ed m).ad=m.ad:=by unfold ed;split<;>rfl
theorem zh {ad:Int}(h:0<ad):cu co ad=true:=by
 unfold cu co;simp only[Z,decide_eq_true_eq];exact⟨⟨⟨⟨OX _,h⟩,rfl⟩,rfl⟩,rfl⟩
theorem ph (d:Nat)(hd:d<34):1<=(bd.getD d []).length:=by
 have h:=nz xc d (by show d<35;omega);rw[tN d hd] at h;exact h.1
def KD (T:List UInt8):Prop:=T=[]\/∃n j,T=fK n++j
theorem rN {f g:Int}:∀(ms:List aT)(last:Int),fC f g last ms=true->last<=33->(O ms:Int)<=33 - last
 |[],last,_,h=>by simp;omega
 |m::ms,last,hr,h=>by
  rw[fC] at hr;simp only[Z,decide_eq_true_eq] at hr;have j:=((jY m).1 hr.1.1.1).a2;have:=rN ms m.ad hr.2 j;have:=hr.1.1.2;simp only[V];omega
theorem E8 (s:dI):1<=(gv s).length:=by unfold gv;rw[U,jd];omega
theorem oI:∀ss:List dI,O ss<=(cU ss).length
 |[]=>OH _
 |s::ss=>by rw[cU,U,V];have:=oI ss;have:=E8 s;omega
theorem xu {l:List UInt8}{p:Nat}(h:iN l p=true):∀(k q:Nat),q<=p->p<q+k->(∀j,q<=j->j<p->iN l j=false)->eX l k q=some p
 |0,q,a,b,_=>by omega
 |k+1,q,a,b,hj=>by
  rw[eX];rcases OR a with e|e
  ·rw[e,h,if_pos rfl]
  ·rw[hj q (X _) e,if_neg (by simp)]
   exact xu h k (q+1) (by omega) (by omega) (λj c d=>hj j (by omega) d)
theorem xb (l:List UInt8):∀(m i:Nat),aI l i m=aD (au l i m) m
 |0,_=>rfl
 |m+1,i=>by
  have C:aD (au l i (m+1)) (m+1)=aD (au l i (m+1) / 2) m++[if au l i (m+1) % 2=0 then 48 else 49]:=by
   unfold aD;rw[List.range_succ,List.map_append];congr 1
   ·apply List.map_congr_left
    intro j B;have B:=List.mem_range.1 B;have e:m+1 - 1 - j=(m - 1 - j)+1:=(by omega);rw[e,OT,OS,<-Nat.div_div_eq_div_mul]
   ·simp
  have K:=eQ l (i+m);have D:au l i (m+1)=2*au l i m+aS l (i+m):=rfl;rw[gP,C,xb l m i,D];have G:(2*au l i m+aS l (i+m)) / 2=au l i m:=(by omega);rw[G];congr 2;unfold du;have I:(2*au l i m+aS l (i+m)) % 2=aS l (i+m):=(by omega);rw[I]
theorem IM (l:List UInt8)(p:Nat):iN l p=(decide (p+20<=8*O l)&&au l p 20==16):=by
 unfold iN;congr 1;rw[OP,beq_iff_eq,beq_iff_eq];have j:fK 0=aD 16 20:=by decide
 constructor
 ·intro h
  exact vg l 20 p 16 (h.trans j) (by decide)
 ·intro h
  rw[xb,h,j]
theorem xa (d:Nat):de (bd.getD d []):=by
 rcases Y d 34 with h|h
 ·rw[<-tN d h];exact uA xc _ _
 ·rw[OY,OI (by rw[eW];exact h)];exact eV
theorem l5:∀sp:List UInt8,de (fu sp)
 |[]=>jQ (by decide)
 |b::sp=>by
  have h:=(jQ (s:=[49]) (by decide)).app ((ek b.toNat 8).app (l5 sp));rw[vJ];exact h
theorem uD:∀(ms:List aT)(x:bi),de (cO x ms)
 |[],_=>eV
 |m::ms,x=>by rw[cO];exact(xa _).app ((uE m x).app (uD ms _))
theorem nV (n:Int):de (fK n):=(ek _ _).app (ek _ _)
theorem FL (g:ig):de (nd g):=(nV _).app ((ek _ _).app ((l5 _).app (uD _ _)))
theorem uC:∀gs:List ig,de (dd gs)
 |[]=>eV
 |g::gs=>(FL g).app (uC gs)
theorem DZ (s:dI):de (gv s):=(nV _).app (((ek _ _).app ((ek _ _).app (l5 _))).app (uC _))
theorem sg:∀ss:List dI,de (cU ss)
 |[]=>eV
 |s::ss=>(DZ s).app (sg ss)
def pO (ss:List dI):List UInt8:=bM (cU ss)
theorem rq {l:List UInt8}{i:Int}(M:0<=i)(N:i<=8*(O l:Int))(he:(dz l i).2.2=0)(D:(dz l i).1≠34):
  ∃d:Nat,d<34/\(dz l i).1=d/\(dz l i).2.1=((bd.getD d []).length:Int)/\i+(dz l i).2.1<=8*(O l:Int):=by
 unfold dz kr at he D⊢
 split at he
 ·rename_i h;rw[if_pos h] at D;exact absurd rfl D
 ·rename_i h
  rw[if_neg h];obtain⟨j,hj,h2,T⟩:=mz he;have h4:=g8 M N he;have C:j<35:=hj;have G:=Gl j C;rw[h2] at G;have I:(ac fi mi l i).1=(j:Int):=G
  have B:j<34:=by
   rcases Y j 34 with K|K
   ·exact K
   ·exact absurd (by rw[I];omega) h
  exact⟨j,B,I,by rw[T,tN j B],h4⟩
theorem jc:∀sp:List UInt8,(fu sp).length=9*O sp+1
 |[]=>rfl
 |b::sp=>by rw[vJ,V,U,cf,jc sp,V];omega
theorem nN {l:List UInt8}:∀(k p:Nat),(dj l k p).2.2=0->(dj l k p).1.length<=k/\(dj l k p).2.1=p+(fu (dj l k p).1).length/\(dj l k p).2.1<=8*O l
 |0,p=>by
  rw[dj.eq_def];dsimp only
  split
  ·intro h;cases h
  ·split
   ·intro _;exact⟨X _,rfl,by dsimp only;omega⟩
   ·intro h;cases h
 |k+1,p=>by
  rw[dj.eq_def];dsimp only
  split
  ·intro h;cases h
  ·split
   ·intro _;exact⟨OH _,rfl,by dsimp only;omega⟩
   ·split
    ·intro h;cases h
    ·intro h
     obtain⟨j,h2,B⟩:=nN k (p+9) h;refine⟨by simpa using j,?_,B⟩;dsimp only;rw[h2,jc,jc,V];omega
theorem BN (l:List UInt8):∀k p,dH l k p<=k
 |0,_=>X _
 |k+1,p=>by
  rw[dH]
  split
  ·have:=BN l k (p+1);omega
  ·omega
theorem kO {l:List UInt8}{p:Nat}(h:(cV l p).2.2=0):p+20<=(cV l p).2.1/\(cV l p).2.1<=8*O l/\0<=(cV l p).1/\(cV l p).1<=15:=by
 unfold cV at h⊢;dsimp only at h⊢
 split at h
 ·cases h
 rename_i j
 split at h
 ·cases h
 rename_i h2
 split at h
 ·cases h
 rename_i B
 rw[if_neg j,if_neg h2,if_neg B];have:=cW l (p+dH l (8*O l - p) p+1) 4;exact⟨by dsimp only;omega,by dsimp only;omega,by dsimp only;omega,by dsimp only;omega⟩
theorem oN {l:List UInt8}{p:Nat}{n:Int}(h:(dM l p n).2=0):p+20<=(dM l p n).1/\(dM l p n).1<=8*(O l):=by
 unfold dM at h⊢;dsimp only at h⊢
 by_cases j:(cV l p).2.2=0
 ·rw[if_pos j] at h⊢
  split at h
  ·rename_i h2
   rw[if_pos h2];exact⟨(kO j).1,(kO j).2.1⟩
  ·cases h
 ·rw[if_neg j] at h
  unfold dQ at h
  split at h
  ·cases h
  ·exact absurd h j
theorem ry {l:List UInt8}{p:Nat}(h:(cQ l p).2.2=0):sH (cQ l p).1=true/\(cQ l p).2.1=p+(oS (cQ l p).1).length/\(cQ l p).2.1<=8*(O l):=by
 unfold cQ at h⊢;dsimp only at h⊢
 split at h
 ·cases h
 rename_i j
 rw[if_neg j]
 by_cases h2:(dj l 32 (p+11)).2.2=0
 ·rw[if_pos h2]
  obtain⟨B,C,D⟩:=nN 32 (p+11) h2;have a:=cW l p 5;have b:=cW l (p+5) 6;refine⟨?_,?_,D⟩
  ·unfold sH
   simp only[Z,decide_eq_true_eq];exact⟨⟨⟨⟨by omega,by omega⟩,by omega⟩,by omega⟩,B⟩
  ·unfold oS
   dsimp only;rw[C];simp only[U,cf];omega
 ·rw[if_neg h2] at h
  exact absurd h h2
theorem rx {l:List UInt8}{p:Nat}(h:(fa l p).2.2=0):1<=(fa l p).1.1/\(fa l p).1.1<=31/\(fa l p).1.2.length<=32/\(fa l p).2.1=p+5+(fu (fa l p).1.2).length/\(fa l p).2.1<=8*(O l):=by
 unfold fa at h⊢;dsimp only at h⊢
 split at h
 ·cases h
 rename_i B
 split at h
 ·cases h
 rename_i j
 rw[if_neg B,if_neg j]
 by_cases h2:(dj l 32 (p+5)).2.2=0
 ·rw[if_pos h2]
  obtain⟨C,D,G⟩:=nN 32 (p+5) h2;have a:=cW l p 5;exact⟨by dsimp only;omega,by dsimp only;omega,C,D,G⟩
 ·rw[if_neg h2] at h
  exact absurd h h2
theorem dO {e:Int}(h:e≠0):dQ e≠0:=by unfold dQ;split<;>omega
theorem mh {l:List UInt8}{f g:Int}:∀(k p:Nat)(x:bi),p<=8*O l->0<=x.ad->(bL l f g k p x).2.2=0->
  fC f g x.ad (bL l f g k p x).1=true/\p+(cO x (bL l f g k p x).1).length<=(bL l f g k p x).2.1/\(bL l f g k p x).2.1<=8*O l
 |0,p,x,hp,hx,_=>⟨rfl,X _,hp⟩
 |k+1,p,x,hp,hx,he=>by
  have G:= @rq l (p:Int) (by omega) (by omega);rw[bL] at he⊢;dsimp only at he⊢
  by_cases j:(dz l p).2.2=0
  ·rw[if_pos j] at he⊢
   by_cases h2:(dz l p).1=34
   ·rw[if_pos h2]
    exact⟨rfl,X _,hp⟩
   ·rw[if_neg h2] at he⊢
    obtain⟨d,T,d2,I,d4⟩:=G j h2;rw[d2,I] at he⊢;rw[I] at d4;rw[OE] at he⊢;have aB:=ph d T
    by_cases B:(d:Int)=0
    ·rw[if_pos B] at he⊢
     obtain⟨a,b,c⟩:=mh k (p+(bd.getD d []).length) x (by omega) hx he;exact⟨a,by omega,c⟩
    ·rw[if_neg B] at he⊢
     by_cases K:33<x.ad+(d:Int)
     ·rw[if_pos K] at he;cases he
     ·rw[if_neg K] at he⊢
      have M:= @rG l ((p+(bd.getD d []).length:Nat):Int) (x.ad+d) x (by omega) (by omega);generalize b9 l ((p+(bd.getD d []).length:Nat):Int) (x.ad+d) x=r at he M⊢
      by_cases C:r.2.2=0
      ·rw[if_pos C] at he⊢
       obtain⟨N,m2,m3,m4,m5,m6⟩:=M C
       by_cases D:iM f g r.1=true
       ·rw[if_pos D] at he⊢
        obtain⟨a,b,c⟩:=mh k (p+(bd.getD d []).length+r.2.1.toNat) (ed r.1) (by omega) (by rw[kC];have:=N.a1;omega) he;rw[kC] at a;refine⟨?_,?_,c⟩
        ·rw[fC]
         simp only[Z,decide_eq_true_eq];exact⟨⟨⟨(jY _).2 N,by omega⟩,D⟩,a⟩
        ·rw[cO,m2,show (x.ad+(d:Int) - x.ad).toNat=d by omega,U,U]
         dsimp only;omega
       ·rw[if_neg D] at he;cases he
      ·rw[if_neg C] at he
       exact absurd he (dO C)
  ·rw[if_neg j] at he⊢
   split at he
   ·rename_i h2
    rw[if_pos h2]
    split at he
    ·rename_i B
     rw[if_pos B];exact⟨rfl,X _,hp⟩
    ·cases he
   ·exact absurd he j
theorem Ii {l:List UInt8}{f n:Int}{p:Nat}(he:(eK l f n p).2.2=0):kU f n (eK l f n p).1=true/\p+(nd (eK l f n p).1).length<=(eK l f n p).2.1/\(eK l f n p).2.1<=8*(O l):=by
 unfold eK at he⊢;dsimp only at he⊢
 by_cases j:(dM l p n).2=0
 ·rw[if_pos j] at he⊢
  obtain⟨M,N⟩:=oN j
  by_cases h2:(fa l (dM l p n).1).2.2=0
  ·rw[if_pos h2] at he⊢
   obtain⟨C,D,G,K,I⟩:=rx h2
   by_cases B:(bL l f n (8*O l+1) (fa l (dM l p n).1).2.1 co).2.2=0
   ·rw[if_pos B] at he⊢
    obtain⟨a,b,c⟩:=mh _ _ co I (OX 0) B;refine⟨?_,?_,c⟩
    ·unfold kU
     simp only[Z,decide_eq_true_eq,beq_self_eq_true];exact⟨⟨⟨⟨trivial,C⟩,D⟩,G⟩,a⟩
    ·unfold nd
     simp only[U,jd,cf];omega
   ·rw[if_neg B] at he;exact absurd he B
  ·rw[if_neg h2] at he;exact absurd he (dO h2)
 ·rw[if_neg j] at he;exact absurd he j
theorem xD {l:List UInt8}{f:Int}:∀(ns:List Int)(p:Nat),p<=8*O l->(dJ l f ns p).2.2=0->
  fA f ns (dJ l f ns p).1=true/\p+(dd (dJ l f ns p).1).length<=(dJ l f ns p).2.1/\(dJ l f ns p).2.1<=8*O l
 |[],p,hp,_=>⟨rfl,X _,hp⟩
 |n::ns,p,hp,he=>by
  rw[dJ] at he⊢;dsimp only at he⊢
  by_cases j:(eK l f n p).2.2=0
  ·rw[if_pos j] at he⊢
   obtain⟨a,b,c⟩:=Ii j;obtain⟨a2,B,c2⟩:=xD ns _ c he;refine⟨by rw[fA,a,a2];rfl,?_,c2⟩;rw[dd,U];dsimp only;omega
  ·rw[if_neg j] at he;exact absurd he j
theorem yz {l:List UInt8}{p:Nat}(he:(fD l p).2.2=0):ef (fD l p).1=true/\p+(gv (fD l p).1).length<=(fD l p).2.1/\(fD l p).2.1<=8*(O l):=by
 unfold fD at he⊢;dsimp only at he⊢
 by_cases j:(dM l p 0).2=0
 ·rw[if_pos j] at he⊢
  obtain⟨I,K⟩:=oN j
  by_cases h2:(cQ l (dM l p 0).1).2.2=0
  ·rw[if_pos h2] at he⊢
   obtain⟨C,G,D⟩:=ry h2;generalize cQ l (dM l p 0).1=r at he C G D h2⊢
   by_cases B:(dJ l (dv r.1.ty) (aJ (dv r.1.ty)) r.2.1).2.2=0
   ·rw[if_pos B] at he⊢
    obtain⟨a,b,c⟩:=xD _ _ D B;refine⟨by unfold ef;rw[C,a];rfl,?_,c⟩;unfold gv;simp only[U,jd];omega
   ·rw[if_neg B] at he;exact absurd he B
  ·rw[if_neg h2] at he;exact absurd he (dO h2)
 ·rw[if_neg j] at he;exact absurd he j
theorem vI {l:List UInt8}:∀(k p:Nat),p<=8*O l->(∀s∈(gH l k p).1,ef s=true)/\p+(cU (gH l k p).1).length<=8*O l
 |0,p,hp=>⟨λs h=>(by cases h),hp⟩
 |k+1,p,hp=>by
  rw[gH];dsimp only
  by_cases C:dB l p=true
  ·rw[if_pos C];exact⟨λs h=>(by cases h),hp⟩
  ·rw[if_neg C]
   by_cases j:(fD l p).2.2=0
   ·rw[if_pos j]
    obtain⟨a,b,c⟩:=yz j;obtain⟨a2,D⟩:=vI k _ c;refine⟨λs B=>?_,?_⟩
    ·rcases List.mem_cons.1 B with rfl|B
     ·exact a
     ·exact a2 s B
    ·rw[cU,U]
     omega
   ·rw[if_neg j];exact⟨λs h=>(by cases h),hp⟩
theorem xv {l:List UInt8}:∀(k q p:Nat),eX l k q=some p->p+20<=8*O l
 |0,_,_,h=>by cases h
 |k+1,q,p,h=>by
  rw[eX] at h
  split at h
  ·rename_i j
   injection h with h;subst h;unfold iN at j;rw[Z,decide_eq_true_eq] at j;exact j.1
  ·exact xv k _ _ h
theorem jF (l:List UInt8):(∀s∈(eN l).1,ef s=true)/\(cU (eN l).1).length<=8*(O l):=by
 unfold eN
 cases h:eX l (8*O l) 0 with
 |none=>exact⟨λs h=>(by cases h),OH _⟩
 |some p=>
  obtain⟨a,b⟩:=vI (l:=l) (8*O l+1) p (by have:=xv _ _ _ h;omega);exact⟨a,by dsimp only;omega⟩
theorem Cz {t:List UInt8}{p:Nat}(h:dB t p=true):cV t p=(0,0,5):=by
 unfold dB at h;rw[beq_iff_eq] at h;unfold cV;rw[h];dsimp only;rw[if_pos (by omega)]
theorem jX (l:List UInt8)(p:Nat):∀n,au l p n=0↔∀j,j<n->aS l (p+j)=0
 |0=>by simp[au]
 |n+1=>by
  rw[au];constructor
  ·intro h j C
   rcases Y j n with B|B
   ·exact(jX l p n).1 (by omega) j B
   ·obtain rfl:j=n:=by omega
    omega
  ·intro h
   have B:=(jX l p n).2 (λj C=>h j (by omega));have h2:=h n (by omega);omega
theorem Bp (l:List UInt8)(p a:Nat):∀b,au l p (a+b)=au l p a*2 ^ b+au l (p+a) b
 |0=>by simp[au]
 |b+1=>by
  rw[<-OQ,au,Bp l p a b,au,OT,OQ p a b];have:au l p a*(2 ^ b*2)=2*(au l p a*2 ^ b):=(by rw[<-OW,OS]);omega
theorem wh (l:List UInt8):∀k p,dH l k p=k->∀j,p<=j->j<p+k->aS l j=0
 |0,p,_,j,h1,h2=>by omega
 |k+1,p,h,j,h1,h2=>by
  rw[dH] at h
  split at h
  ·rcases OR h1 with e|e
   ·subst e;assumption
   ·exact wh l k (p+1) (by omega) j (by omega) (by omega)
  ·omega
theorem mj {l:List UInt8}{p:Nat}:dB l p=true↔∀j,p<=j->j<8*O l->aS l j=0:=by
 unfold dB;rw[beq_iff_eq];exact⟨λh j B h2=>wh l _ _ h j B (by omega),λh=>zc _ _ (λj B h2=>h j B (by omega))⟩
theorem ED {l:List UInt8}{p n:Nat}(h:au l p n=0):dB l (p+n)=dB l p:=by
 rw[OP,mj,mj];constructor
 ·intro B j h2 C
  rcases Y j (p+n) with D|D
  ·have:=(jX l p n).1 h (j - p) (by omega)
   rwa [show p+(j - p)=j by omega] at this
  ·exact B j D C
 ·exact λB j h2 C=>B j (by omega) C
theorem Gq {l:List UInt8}{p n:Nat}(D:p+n<=8*O l)(h:au l p n≠0):dB l p=false:=by
 rw[OU];intro B;apply h;rw[jX];exact λj C=>mj.1 B _ (by omega) (by omega)
theorem Gp {l:List UInt8}{p:Nat}(h:8*O l<=p):dB l p=true:=mj.2 (λj B h2=>by omega)
def gp (l:List UInt8) (p:Nat):Prop:=p+16<=8*O l/\(∀j,p<=j->j<p+15->aS l j=0)/\aS l (p+15)=1
def gX (l:List UInt8) (a:Nat):Nat->Nat
 |0=>0
 |k+1=>if aS l (a+k)=0 then gX l a k+1 else 0
theorem qC (l:List UInt8)(a:Nat):∀k,gX l a k<=k
 |0=>X _
 |k+1=>by
  have:=qC l a k;rw[gX]
  split<;>omega
theorem vE (l:List UInt8)(a:Nat):∀k j,a+k<=j+gX l a k->j<a+k->aS l j=0
 |0,j,h1,h2=>by rw[gX] at h1;omega
 |k+1,j,h1,h2=>by
  rw[gX] at h1
  split at h1
  ·rcases Y j (a+k) with B|B
   ·exact vE l a k j (by omega) B
   ·obtain rfl:j=a+k:=by omega
    assumption
  ·omega
theorem yw (l:List UInt8)(a:Nat):∀k t,t<=k->(∀j,a+k<=j+t->j<a+k->aS l j=0)->t<=gX l a k
 |0,t,h,_=>by omega
 |k+1,0,_,_=>OH _
 |k+1,t+1,h,hz=>by
  rw[gX,if_pos (hz (a+k) (by omega) (by omega))];have:=yw l a k t (by omega) (λj B h2=>hz j (by omega) (by omega));omega
def ky (l:List UInt8) (a k:Nat):Prop:=∀j,a<=j->j+16<=a+k->¬gp l j
theorem qU (l:List UInt8)(a:Nat):ky l a 0:= λj B h2=>by omega
theorem oU {l:List UInt8}{a k:Nat}(h:ky l a k)(G:aS l (a+k)=0):ky l a (k+1):= λj D h2 C=>by
 rcases Y (a+k) (j+16) with B|B
 ·have:=C.2.2
  rw[show j+15=a+k by omega] at this;omega
 ·exact h j D B C
theorem sR {l:List UInt8}{a k:Nat}(h:ky l a k)(K:gX l a k<15):ky l a (k+1):= λj D h2 C=>by
 rcases Y (a+k) (j+16) with B|B
 ·have:=yw l a k 15 (by omega) (λi G I=>C.2.1 i (by omega) (by omega))
  omega
 ·exact h j D B C
theorem sn {l:List UInt8}{a k:Nat}(h:ky l a k)(G:a+k<8*O l)(I:15<=gX l a k)(C:aS l (a+k)=1):a+15<=a+k/\gp l (a+k - 15)/\∀j,a<=j->j<a+k - 15->¬gp l j:=by
 have D:=qC l a k;refine⟨by omega,⟨by omega,λj B h2=>vE l a k j (by omega) (by omega),by rw[show a+k - 15+15=a+k by omega];exact C⟩,λj B h2=>h j B (by omega)⟩
theorem kD (l:List UInt8)(k:Nat)(h:aS l k≠0):aS l k=1:=by have:=eQ l k;omega
theorem lR {l:List UInt8}{p:Nat}:iN l p=true↔gp l p/\p+20<=8*O l/\au l (p+16) 4=0:=by
 rw[IM,Z,decide_eq_true_eq,beq_iff_eq,show 20=16+4 from rfl,Bp l p 16 4,show 16=15+1 from rfl,au,show 15+1=16 from rfl];have G:=cW l (p+16) 4;have K:=eQ l (p+15);constructor
 ·rintro⟨C,h2⟩
  have B:au l p 15=0:=(by omega);refine⟨⟨by omega,λj a b=>?_,by omega⟩,by omega,by omega⟩;have:=(jX l p 15).1 B (j - p) (by omega)
  rwa [show p+(j - p)=j by omega] at this
 ·rintro⟨⟨C,h2,B⟩,D,I⟩
  have:au l p 15=0:=(jX l p 15).2 (λj M=>h2 _ (by omega) (by omega));exact⟨D,by omega⟩
theorem sE {l:List UInt8}:∀(k q:Nat),(∀j,q<=j->j<q+k->iN l j=false)->eX l k q=none
 |0,q,_=>rfl
 |k+1,q,h=>by
  rw[eX,h q (X _) (by omega)];exact sE k (q+1) (λj B h2=>h j (by omega) (by omega))
def ls (l:List UInt8) (p:Nat):Prop:=∀j,j<p->iN l j=false
theorem ov {l:List UInt8}{p q:Nat}(h:ls l p)(D:∀j,p<=j->j<q->¬gp l j):ls l q:= λj C=>by
 rcases Y j p with B|B
 ·exact h j B
 ·rw[OU];intro h2
  exact D j B C (lR.1 h2).1
theorem lC {l:List UInt8}{p:Nat}(h:ls l p)(C:iN l p=false):ls l (p+1):= λj D=>by
 rcases Y j p with B|B
 ·exact h j B
 ·obtain rfl:j=p:=by omega
  exact C
theorem qb {l:List UInt8}{p:Nat}(h:ls l p)(C:∀j,p<=j->¬gp l j):eX l (8*O l) 0=none:=
 sE _ _ (λj _ _=>ov (q:=j+1) h (λi B _=>C i B) j (by omega))
theorem vF {l:List UInt8}{p:Nat}(h:ls l p)(B:iN l p=true):eX l (8*O l) 0=some p:=
 xu B _ _ (OH _) (by have:=(lR.1 B).2.1;omega) (λj _ C=>h j C)
theorem Fc {l:List UInt8}{p:Nat}(h:∀j,p<=j->j<8*O l->aS l j=0):cV l p=(0,0,5):=Cz (mj.2 h)
theorem Fd {l:List UInt8}{p z:Nat}(C:p+z<8*O l)(h:∀j,p<=j->j<p+z->aS l j=0) (B:aS l (p+z)≠0):
  cV l p=if z<15 then((0:Int),(0:Nat),(7:Int)) else if 8*O l<p+z+5 then((0:Int),(0:Nat),(5:Int)) else(((au l (p+z+1) 4:Nat):Int),p+z+5,(0:Int)):=by
 unfold cV;rw[zd z (8*O l - p) p (by omega) h B];dsimp only;rw[if_neg (by omega)]
theorem um {l:List UInt8}{k p:Nat}(h:8*O l<p+1):dj l k p=([],0,5):=by
 cases k<;>rw[dj,if_pos h]
theorem oJ {l:List UInt8}{k p:Nat}(h:p+1<=8*O l)(j:aS l p=0):dj l k p=([],p+1,0):=by
 cases k<;>rw[dj,if_neg (by omega),if_pos j]
theorem rP {l:List UInt8}{p:Nat}(h:p+1<=8*O l)(j:aS l p≠0):dj l 0 p=([],0,4):=by
 rw[dj,if_neg (by omega),if_neg j]
theorem rQ {l:List UInt8}{k p:Nat}(h:p+1<=8*O l)(j:aS l p≠0)(h2:8*O l<p+9):dj l (k+1) p=([],0,5):=by
 rw[dj,if_neg (by omega),if_neg j];dsimp only;rw[if_pos h2]
theorem IL {l:List UInt8}{k p:Nat}(j:aS l p≠0)(h2:p+9<=8*O l):dj l (k+1) p=(UInt8.ofNat (au l (p+1) 8)::(dj l k (p+9)).1,(dj l k (p+9)).2.1,(dj l k (p+9)).2.2):=by
 rw[dj,if_neg (by omega),if_neg j];dsimp only;rw[if_neg (by omega)]
theorem sw:∀(L:List (Int×Int))(first:Bool),(eA L first).length<=20*O L
 |[],_=>by simp[eA]
 |p::L,first=>by
  have j:=AZ p first;have h2:=sw L false;rw[eA,U,V];omega
theorem D5 {x:bH}{intra:Bool}(h:dl x intra=0):(cP x intra).length<=1300:=by
 have D:O x.l<=64:=by
  unfold dl at h
  split at h
  ·cases h
  ·split at h
   ·cases h
   ·have h2:(0:Int)<=eB intra/\eB intra<=64:=by cases intra<;>decide
    have:=tg x.l h2.1 h2.2 h;omega
 have j:=sw x.l (!intra);unfold cP;rw[U,U];have B:(if intra=true then aD x.dc.toNat 8 else[]).length<=8:=by split<;>simp[cf]
 have C:O bD=2:=rfl;omega
theorem AY (intra:Bool):∀(bl:List bH),(∀b∈bl,dl b intra=0)->(bl.flatMap λb=>cP b intra).length<=1300*O bl
 |[],_=>by simp
 |b::bl,h=>by
  have B:=D5 (h b (by simp));have h2:=AY intra bl (λc j=>h c (OJ _ j));rw[List.flatMap_cons,U,V];omega
theorem kp {cs:List (List UInt8)}(j:cs.all cS=true)(lo k:Int):((eI cs lo k).getD []).length<=24:=by
 unfold eI
 split
 ·simp
 ·rcases Y (k - lo).toNat (O cs) with h|h
  ·rw[OB h];exact(nz j _ h).2
  ·rw[OI h];simp
theorem Et {m:aT}(x:bi)(j:AL m):(fB m x).length<=8000:=by
 have C:(gT m.kd).length<=24:=kp mI _ _;have h2:(mQ m).length<=5:=by unfold mQ;split<;>simp[cf]
 have B:∀a b,(mV m a b).length<=48:= λa b=>by
  unfold mV
  split
  ·have N:(gV a m.x).length<=24:=kp vec_code _ _
   have T:(gV b m.y).length<=24:=kp vec_code _ _;rw[U];omega
  ·simp
 have D:(mC m).length<=24:=by
  unfold mC
  split
  ·exact kp rK _ _
  ·simp
 have G:(mB m).length<=1300*(O m.bl):=AY _ _ j.bl;have I:bO m.pa<=6:=by unfold bO;split<;>omega
 have K:=j.len;have M:=B (cH m.ad (m.ad - x.ad) x.had x.x x.y).1 (cH m.ad (m.ad - x.ad) x.had x.x x.y).2;rw[nh];simp only[U];omega
theorem Cc (d:Nat):(bd.getD d []).length<=11:=by
 rcases Y d 34 with h|h
 ·have:∀k:Fin 34,(bd.getD k.1 []).length<=11:=by decide
  exact this ⟨d,h⟩
 ·rw[OY,OI (by rw[eW];exact h)]
  exact OH _
theorem mR {f g last:Int}{m:aT}{ms:List aT}(h:fC f g last (m::ms)=true):lk m=true/\last<m.ad/\iM f g m=true/\fC f g m.ad ms=true:=by
 rw[fC,Z,Z,Z,decide_eq_true_eq] at h;exact⟨h.1.1.1,h.1.1.2,h.1.2,h.2⟩
theorem vd {f g:Int}:∀(ms:List aT)(x:bi),fC f g x.ad ms=true->(cO x ms).length<=8011*O ms
 |[],_,_=>X _
 |m::ms,x,h=>by
  obtain⟨j,_,_,B⟩:=mR h;have C:=vd ms (ed m) (by rw[kC];exact B);have D:=Et x ((jY m).1 j);have G:=Cc (m.ad - x.ad).toNat;rw[cO,U,U,V];omega
theorem od {f n:Int}{g:ig}(h:kU f n g=true):g.num=n/\1<=g.qu/\g.qu<=31/\O g.sp<=32/\fC f n 0 g.ms=true:=by
 simp only[kU,Z,decide_eq_true_eq,beq_iff_eq] at h;exact⟨h.1.1.1.1,h.1.1.1.2,h.1.1.2,h.1.2,h.2⟩
theorem F9 {f n:Int}{g:ig}(h:kU f n g=true):(nd g).length<=264700:=by
 obtain⟨_,_,_,B,j⟩:=od h;have C:=vd g.ms co (f:=f) (g:=n) j;have D:=rN g.ms 0 j (by decide);rw[nd,U,U,U,jd,cf,jc];omega
theorem mH {f:Int}:∀(ns:List Int)(gs:List ig),fA f ns gs=true->(dd gs).length<=264700*O ns/\O gs=O ns
 |[],[],_=>⟨X _,rfl⟩
 |[],_::_,h=>by cases h
 |_::_,[],h=>by cases h
 |n::ns,g::gs,h=>by
  rw[fA,Z] at h;have j:=F9 h.1;have h2:=mH ns gs h.2;rw[dd,U,V,V];omega
theorem iw (f:Int):(aJ f).length<=12:=by unfold aJ;split<;>decide
theorem nY {s:dI}(h:ef s=true):sH s.hd=true/\fA (dv s.hd.ty) (aJ (dv s.hd.ty)) s.gs=true:=by
 rw[ef,Z] at h;exact h
theorem uV {h:nQ}(j:sH h=true):0<=h.tm/\h.tm<=31/\0<=h.ty/\h.ty<=63/\O h.sp<=32:=by
 simp only[sH,Z,decide_eq_true_eq] at j;exact⟨j.1.1.1.1,j.1.1.1.2,j.1.1.2,j.1.2,j.2⟩
theorem E9 {s:dI}(h:ef s=true):(gv s).length<=3200000:=by
 obtain⟨j,h2⟩:=nY h;have C:=(uV j).2.2.2.2;have D:=(mH _ _ h2).1;have B:=iw (dv s.hd.ty);rw[gv,U,U,jd,oS,U,U,cf,cf,jc];have G:264700*(aJ (dv s.hd.ty)).length<=264700*12:=Nat.mul_le_mul_left _ B;omega
theorem tf:∀ss:List dI,(∀s∈ss,ef s=true)->(cU ss).length<=3200000*O ss
 |[],_=>X _
 |s::ss,h=>by
  have j:=E9 (h s (by simp));have h2:=tf ss (λt ht=>h t (OJ _ ht));rw[cU,U,V];omega
def bS (first:Bool):List (List UInt8):=(aQ first).map (·.2)++(if first then[] else[bD])++[eh]
def fQ (first:Bool):List Int:=(List.range 63).map (λj:Nat=>(j:Int))++(if first then[] else[1001])++[1000]
theorem xh (first:Bool):it (bS first)=true:=by cases first<;>kernel_rfl
theorem xg (first:Bool):(bS first).all cS=true:=by cases first<;>kernel_rfl
theorem tR (first:Bool):(bS first).length=(fQ first).length:=by cases first<;>kernel_rfl
theorem Cg:(bS false).length=65:=by kernel_rfl
theorem JY:(bS true).length=64:=by kernel_rfl
theorem eS (first:Bool):(aQ first).length=63:=by cases first<;>kernel_rfl
def kT (l:List UInt8) (i:Int) (first:Bool):(Int×Int)×Bool×Int×Int:=
 let r:=ac (bS first) (fQ first) l i
 if r.2.2 !=0 then((0,0),false,0,r.2.2) else
 if r.1==1001 then((0,0),true,r.2.1,0) else
 if r.1==1000 then
  if 8*(O l:Int)<i+r.2.1+14 then((0,0),false,0,5) else
  let x:=au l (i+r.2.1).toNat 14
  if x % 256==0||x % 256==128 then((0,0),false,0,10) else(((x / 256:Nat),i8 (x % 256)),false,r.2.1+14,0)
 else if 8*(O l:Int)<i+r.2.1+1 then((0,0),false,0,5) else
  let p:=((aQ false).getD r.1.toNat ((0,0),[])).1
  ((p.1,if au l (i+r.2.1).toNat 1==1 then -p.2 else p.2),false,r.2.1+1,0)
theorem wU {l:List UInt8}{k m:Nat}{c:List UInt8}(h:c<+:aI l k m)(j:k+m<=8*O l):At l k c:=by
 have hl:=h.length_le;rw[bm] at hl;obtain⟨t,ht⟩:=h;refine⟨by omega,?_⟩;have e:aI l k m=aI l k (O c)++aI l (k+O c) (m - O c):=by rw[<-dU];congr 1;omega
 rw[e] at ht;exact(List.append_inj_left ht (by rw[bm])).symm
theorem wm {l:List UInt8}{k m:Nat}{c:List UInt8}(h:aI l k m<+:c)(j:k<=8*O l)(B:m=8*O l - k)(C:m<O c):o0 l k c:=by
 refine⟨j,by omega,?_⟩;rw[<-B];have:=List.prefix_iff_eq_take.1 h
 rwa [bm] at this
theorem sL {s:List UInt8}:∀(T:List ro)(more:Bool),(∀e∈T,bJ s e.2=false)->bZ s T more=((0,0),false,0,if more then 5 else 7)
 |[],more,_=>rfl
 |(p,c)::T,more,ha=>by
  rw[mK (ha (p,c) (by simp))];exact sL T more λe he=>ha e (OJ _ he)
theorem pH (l:List UInt8)(i:Nat):∀n,cB (aI l i n)=au l i n
 |0=>rfl
 |n+1=>by
  rw[gP,sS,pH l i n];have j:=eQ l (i+n)
  have:(du l (i+n)).toNat - 48=aS l (i+n):=by
   unfold du
   split
   ·rename_i h;rw[h];rfl
   ·have e:aS l (i+n)=1:=by omega
    rw[e];rfl
  rw[this];rfl
theorem rH (l:List UInt8)(i a:Nat):∀b,au l i (a+b)=au l i a*2 ^ b+au l (i+a) b
 |0=>by simp[au]
 |b+1=>by
  have h:=rH l i a b;show 2*au l i (a+b)+aS l (i+(a+b))=_*2 ^ (b+1)+(2*au l (i+a) b+aS l (i+a+b));rw[h,OT,<-OQ i a b];have:au l i a*(2 ^ b*2)=2*(au l i a*2 ^ b):=(by rw[<-OW,OS]);omega
theorem sb (l:List UInt8)(i a b:Nat):(aI l i (a+b)).drop a=aI l (i+a) b:=by
 rw[dU,List.drop_left' (bm l i a)]
theorem qo (first:Bool)(k:Nat)(B:k<(bS first).length):(∃h:k<63,(bS first)[k]=((aQ first)[k]'(by rw[eS];exact h)).2/\(fQ first)[k]? =some (k:Int))\/(first=false/\k=63/\(bS first)[k]=bD/\(fQ first)[k]? =some 1001)\/((bS first)[k]=eh/\(fQ first)[k]? =some 1000):=by
 have ht:=eS first;unfold bS at B
 by_cases j:k<63
 ·left
  refine⟨j,?_,?_⟩
  ·unfold bS
   rw[ON (by simp;omega),ON (by simp;omega),List.getElem_map]
  ·unfold fQ
   rw[OM (by simp;omega),OM (by simp;omega),OV,List.getElem?_range j];rfl
 ·right
  cases first with
  |false=>
   have:k=63\/k=64:=(by simp[ht] at B;omega);rcases this with rfl|rfl
   ·left;exact⟨rfl,rfl,by kernel_rfl,by kernel_rfl⟩
   ·right;exact⟨by kernel_rfl,by kernel_rfl⟩
  |true=>
   have:k=63:=(by simp[ht] at B;omega);subst this
   right;exact⟨by kernel_rfl,by kernel_rfl⟩
theorem GZ (k:Nat)(h:k<63)(first:Bool):((aQ false).getD k ((0,0),[])).1=((aQ first)[k]'(by rw[eS];exact h)).1:=by
 cases first with
 |false=>rw[OL,OB (by rw[eS];exact h),OF]
 |true=>
  have j:((aQ false).map (·.1))=((aQ true).map (·.1)):=(by kernel_rfl);rw[OL,OB (by rw[eS];exact h),OF];have:=congrArg (λL=>L[k]?) j;simp only[OV] at this;rw[OB (by rw[eS];exact h),OB (by rw[eS];exact h)] at this
  simpa using this
theorem tW (l:List UInt8)(i:Int)(first:Bool):kT l i first=aR l i first:=by
 by_cases h0:i<0
 ·have e:ac (bS first) (fQ first) l i=(0,0,3):=by unfold ac;rw[if_pos h0]
  unfold kT aR;rw[e,if_pos h0];rfl
 obtain⟨k,rfl⟩:=Int.eq_ofNat_of_zero_le (by omega:0<=i);have N:=xh first;have bE:=xg first
 by_cases h1:8*(O l:Int)<(k:Int)
 ·have e:ac (bS first) (fQ first) l (k:Int)=(0,0,5):=by
   unfold ac;rw[if_neg h0,OE,show min 24 (8*O l - k)=0 by omega]
   cases first<;>kernel_rfl
  unfold kT aR
  rw[e,if_neg h0,if_pos h1]
  rfl
 obtain⟨r,hr⟩:∃r,8*O l - k=r:=⟨_,rfl⟩;have K9:k+r=8*(O l):=by omega
 obtain⟨s,hs⟩:∃s,aI l k (min 20 r)=s:=⟨_,rfl⟩;have K5:O s=min 20 r:=by rw[<-hs,bm]
 have gJ:s<+:aI l k (min 24 r):=by
  refine⟨aI l (k+min 20 r) (min 24 r - min 20 r),?_⟩;rw[<-hs,<-dU];congr 1;omega
 have ec:aR l (k:Int) first=((if bJ s eh then
   if (O s)<20 then((0,0),false,0,5) else
   if i8 (cB (s.drop 12))==0||i8 (cB (s.drop 12))== -128 then((0,0),false,0,10) else((((cB ((s.take 12).drop 6):Nat):Int),i8 (cB (s.drop 12))),false,20,0)
  else if !first&&bD.isPrefixOf s then((0,0),true,2,0)
  else bZ s (aQ first) (!first&&bJ s bD)):(Int×Int)×Bool×Int×Int):=by
  unfold aR
  rw[if_neg h0,if_neg h1,OE,hr,hs]
 rw[ec]
 have I:∀(a b:Nat)(K:a<(bS first).length)(hb:b<(bS first).length),(bS first)[a]<+:(bS first)[b]->a=b:= λa b K hb h=>by
  have:=jS N hb K h;omega
 have eE:∀(a:Nat)(K:a<(bS first).length),(bS first)[a].length<=13:=by
  have:(bS first).all (λc=>decide (O c<=13))=true:=(by cases first<;>kernel_rfl);intro a K
  simpa using List.all_eq_true.1 this _ (OO K)
 have Io:∃e,∃he:e<(bS first).length,(bS first)[e]=eh/\63<=e:=by
  cases first
  ·exact⟨64,by rw[Cg];decide,by kernel_rfl,by decide⟩
  ·exact⟨63,by rw[JY];decide,by kernel_rfl,by decide⟩
 obtain⟨e,he,fW,K8⟩:=Io
 have aB:first=false->∃h:63<(bS first).length,(bS first)[63]=bD/\e=64:= λM=>by
  subst M;refine⟨by rw[Cg];decide,by kernel_rfl,?_⟩;exact I e 64 he (by rw[Cg];decide) (by rw[fW];exact OK)
 have kz:∀(q:Nat)(h:q<63),∃G:q<(bS first).length,(bS first)[q]=((aQ first)[q]'(by rw[eS];exact h)).2:= λq h=>by
  have G:q<(bS first).length:=(by omega);rcases qo first q G with⟨_,h2,_⟩|⟨_,h2,_⟩|⟨h2,_⟩
  ·exact⟨G,h2⟩
  ·omega
  ·have:=I q e G he (by rw[h2,fW];exact OK);omega
 by_cases hA:∃q,∃G:q<(bS first).length,(bS first)[q]<+:aI l k (min 24 r)
 ·obtain⟨q,G,hp⟩:=hA
  have dY:=wU hp (by omega);have hT:=I4 N bE (tR first) q G dY;have jT:(bS first)[q].length<=r:=by have:=dY.1;omega
  have D:(bS first)[q]<+:s:=by
   have hl:=eE q G;rcases OA hp gJ with h|h
   ·exact h
   ·have:=h.eq_of_length (by have:=h.length_le;omega)
    rw[this];exact OK
  have K0:∀(a:Nat)(K:a<(bS first).length),bJ s (bS first)[a]=true->O s<(bS first)[a].length\/a=q:= λa K C=>by
   rcases dC.1 C with h|h
   ·right;exact(I q a G K (D.trans h)).symm
   ·right
    rcases OA h D with h|h
    ·exact I a q K G h
    ·exact(I q a G K h).symm
  have Iq:q≠e->bJ s eh=false:= λT=>by
   rw[<-OD];intro C;rw[<-fW] at C;rcases dC.1 C with h|h
   ·exact T (I q e G he (D.trans h))
   ·rcases OA h D with h|h
    ·exact T (I e q he G h).symm
    ·exact T (I q e G he h)
  have J2:∀(B:first=false),q≠63->bJ s bD=false:= λM T=>by
   obtain⟨B,cz,_⟩:=aB M;rw[<-OD];intro C;rw[<-cz] at C;rcases dC.1 C with h|h
   ·exact T (I q 63 G B (D.trans h))
   ·rcases OA h D with h|h
    ·exact T (I 63 q B G h).symm
    ·exact T (I q 63 G B h)
  unfold kT;rw[hT];dsimp only;rw[if_neg (by decide)];rcases qo first q G with⟨B,h2,h3⟩|⟨M,B,h2,h3⟩|⟨h2,h3⟩
  ·rw[h3,OF,if_neg (by simp;omega),if_neg (by simp;omega),Iq (by omega),if_neg J]
   have dD:(!first&&bD.isPrefixOf s)=false:=by
    cases M:first with
    |true=>rfl
    |false=>
     have:=J2 M (by omega);rw[<-OD] at this⊢;intro h;exact this (dC.2 (.inr (OC.1 (by simpa using h))))
   rw[dD,if_neg J];have gy:q<(aQ first).length:=(by rw[eS];exact B);rw[h2] at D jT⊢;obtain⟨c,hc⟩:∃c,((aQ first)[q]'gy).2=c:=⟨_,rfl⟩;have K6:O c<=13:=(by rw[<-hc,<-h2];exact eE q G);rw[hc] at D jT⊢
   by_cases hm:O c+1<=r
   ·rw[if_neg (by omega)]
    have hb:c++[du l (k+O c)]<+:s:=by
     have e1:aI l k (O c+1)=c++[du l (k+O c)]:=by
      rw[gP];congr 1;rw[h2,hc] at dY;exact dY.2
     refine⟨aI l (k+(O c+1)) (min 20 r - (O c+1)),?_⟩;rw[<-e1,<-dU,<-hs];congr 1;omega
    have K2:=xR (aQ first) (!first&&bJ s bD) q gy (GX first gy).1 (by rw[hc];exact hb);rw[K2,hc,show (((k:Int)+(O c:Int)).toNat)=k+(O c) by omega,gW,OE,GZ q B first]
    have K3:(aS l (k+O c)==1)=(du l (k+O c)==49):=by
     have:=eQ l (k+O c);unfold du
     by_cases hz:aS l (k+O c)=0
     ·rw[hz];rfl
     ·rw[if_neg hz,show aS l (k+O c)=1 by omega];rfl
    rw[K3]
   ·rw[if_pos (by omega)]
    have dE:O s=(O c):=(by rw[K5];omega);refine(mJ (aQ first) _ (λt ht C=>?_) (.inr ⟨(aQ first)[q],OO gy,by rw[hc];exact dC.2 (.inr D)⟩)).symm;obtain⟨j,hj,rfl⟩:=OG ht;obtain⟨dt,aC⟩:=kz j (by rw[eS] at hj;exact hj);rcases K0 j dt (by rw[aC];exact C) with h|h
    ·rw[aC] at h;omega
    ·subst h;rw[hc];omega
  ·subst M
   rw[h3,OF,if_pos (by decide),h2,Iq (by have:=aB rfl;obtain⟨_,_,h⟩:=this;omega),if_neg J];rw[h2] at D;rw[if_pos (by simp;exact D)];rfl
  ·rw[h3,OF,if_neg (by decide),if_pos (by decide),h2]
   rw[h2] at D jT;rw[if_pos (dC.2 (.inr D))];have h6:O eh=6:=rfl;rw[h6]
   by_cases hm:r<20
   ·rw[if_pos (show 8*(O l:Int)<(k:Int)+((6:Nat):Int)+14 by omega),if_pos (show (O s)<20 by omega)]
   ·have rX:min 20 r=6+(6+8):=by omega
    rw[if_neg (show ¬8*(O l:Int)<(k:Int)+((6:Nat):Int)+14 by omega),if_neg (show ¬(O s)<20 by omega)]
    have d1:cB (s.drop 12)=au l (k+12) 8:=by
     rw[<-hs,rX,show 6+(6+8)=12+8 by omega,sb,pH]
    have d2:cB ((s.take 12).drop 6)=au l (k+6) 6:=by
     rw[<-hs,rX,show 6+(6+8)=12+8 by omega,show (aI l k (12+8)).take 12=aI l k 12 by rw[dU,List.take_left' (bm l k 12)],show 12=6+6 by omega,sb,pH]
    have d3:au l ((k:Int)+((6:Nat):Int)).toNat 14=au l (k+6) 6*256+au l (k+12) 8:=by
     rw[show ((k:Int)+((6:Nat):Int)).toNat=k+6 by omega,show 14=6+8 by omega,rH]
    have l8:=cW l (k+12) 8;rw[d1,d2,d3];have m1:(au l (k+6) 6*256+au l (k+12) 8) % 256=au l (k+12) 8:=(by omega);have m2:(au l (k+6) 6*256+au l (k+12) 8) / 256=au l (k+6) 6:=(by omega);rw[m1,m2]
    have hz:(au l (k+12) 8==0||au l (k+12) 8==128)=(i8 (au l (k+12) 8)==0||i8 (au l (k+12) 8)== -128):=by
     unfold i8;generalize au l (k+12) 8=x at*;rw[OP];simp only[Bool.or_eq_true,beq_iff_eq]
     split<;>omega
    rw[hz];rfl
 ·have hU:∀(a:Nat)(K:a<(bS first).length),¬(bS first)[a]<+:s:= λa K h=>hA ⟨a,K,h.trans gJ⟩
  by_cases hB:∃q,∃G:q<(bS first).length,aI l k (min 24 r)<+:(bS first)[q]
  ·obtain⟨q,G,hp⟩:=hB
   have K4:(aI l k (min 24 r)).length<(bS first)[q].length:=by
    have h1:=hp.length_le;rcases Y (aI l k (min 24 r)).length (bS first)[q].length with h|h
    ·exact h
    ·exact absurd ⟨q,G,by rw[hp.eq_of_length (by omega)];exact OK⟩ hA
   rw[bm] at K4;have K1:=eE q G;have er:min 24 r=r:=(by omega);have C:aI l k (min 24 r)=s:=(by rw[<-hs,er,show min 20 r=r by omega]);rw[C] at hp;have hcut:o0 l k (bS first)[q]:=wm (m:=r) (by rw[<-er,C];exact hp) (by omega) (by omega) (by omega);have hT:=G2 (ns:=fQ first) N bE q G hcut;unfold kT;rw[hT];dsimp only;rw[if_pos (by decide)]
   cases dE:bJ s eh with
   |true=>rw[if_pos rfl,if_pos (by omega)]
   |false=>
    rw[if_neg J]
    have dD:(!first&&bD.isPrefixOf s)=false:=by
     cases M:first with
     |true=>rfl
     |false=>
      obtain⟨B,cz,_⟩:=aB M;rw[<-OD];intro h;exact hU 63 B (by rw[cz];exact OC.1 (by simpa using h))
    rw[dD,if_neg J];refine(mJ (aQ first) _ (λt ht C=>?_) ?_).symm
    ·obtain⟨j,hj,rfl⟩:=OG ht
     obtain⟨dt,aC⟩:=kz j (by rw[eS] at hj;exact hj);rcases dC.1 C with h|h
     ·exact h.length_le
     ·exact absurd (by rw[aC];exact h) (hU j dt)
    ·rcases qo first q G with⟨B,h2,h3⟩|⟨M,B,h2,h3⟩|⟨h2,h3⟩
     ·right
      exact⟨(aQ first)[q]'(by rw[eS];exact B),OO _,dC.2 (.inl (by rw[<-h2];exact hp))⟩
     ·left
      subst M;rw[h2] at hp;rw[dC.2 (.inl hp)];rfl
     ·rw[h2] at hp
      rw[dC.2 (.inl hp)] at dE
      cases dE
  ·have ja:∀(a:Nat)(K:a<(bS first).length),bJ s (bS first)[a]=false:= λa K=>by
    rw[<-OD];intro h;rcases dC.1 h with h|h
    ·have h1:=h.length_le
     have K1:=eE a K;have er:min 24 r=min 20 r:=(by omega);exact hB ⟨a,K,by rw[er,hs];exact h⟩
    ·exact hU a K h
   have hT:ac (bS first) (fQ first) l (k:Int)=(0,0,7):=by
    unfold ac;rw[if_neg h0,OE,hr];unfold gQ;rw[sD _ (λa K h=>hA ⟨a,K,h⟩)];dsimp only;rw[if_neg];intro h;obtain⟨c,hc,h2⟩:=List.any_eq_true.1 h;obtain⟨a,K,rfl⟩:=OG hc;exact hB ⟨a,K,OC.1 h2⟩
   unfold kT
   rw[hT]
   dsimp only
   rw[if_pos (by decide)]
   have dE:bJ s eh=false:=by rw[<-fW];exact ja e he
   rw[dE,if_neg J]
   have wj:first=false->bJ s bD=false:= λM=>by
    obtain⟨B,cz,_⟩:=aB M;rw[<-cz];exact ja 63 B
   have dD:(!first&&bD.isPrefixOf s)=false:=by
    cases M:first with
    |true=>rfl
    |false=>
     have:=wj M;rw[<-OD] at this⊢;intro h;exact this (dC.2 (.inr (OC.1 (by simpa using h))))
   have Ip:(!first&&bJ s bD)=false:=by
    cases M:first with
    |true=>rfl
    |false=>rw[wj M];rfl
   rw[dD,if_neg J,Ip,sL _ _ (λt ht=>?_)]
   ·rfl
   ·obtain⟨j,hj,rfl⟩:=OG ht
    obtain⟨dt,aC⟩:=kz j (by rw[eS] at hj;exact hj);rw[<-aC];exact ja j dt
end Go.Proofs.YthhijgcfbjcgiaaGreatDoor
