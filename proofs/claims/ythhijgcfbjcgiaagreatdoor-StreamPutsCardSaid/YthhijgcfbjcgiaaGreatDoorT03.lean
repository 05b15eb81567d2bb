/- StrP, StrB, StrA, StrG, StrM, StrC, StrV, StrL, R8P -/
import Derived.Test.YthhijgcfbjcgiaaGreatDoorT02
namespace Go.Proofs.YthhijgcfbjcgiaaGreatDoor
open Go Go.RowKit
open List renaming length→O,length_append→U,length_cons→V,prefix_or_prefix_of_prefix→J,isPrefixOf_iff_prefix→OB,getElem?_eq_getElem→OD,getElem_of_mem→OG,mem_cons_of_mem→OI,prefix_rfl→OJ,getD_eq_getElem?_getD→OK,getElem?_append_left→OL,getElem_append_left→OM,getElem_mem→ON,getElem?_eq_none→OP,getElem?_map→OV,all_eq_true→OW,getD→OZ
open Bool renaming and_eq_true→Z,false_ne_true→X,not_eq_true→OC,eq_iff_iff→OO,eq_false_iff→OU
open Nat renaming lt_or_ge→Y,le_refl→OA,zero_le→OH,add_assoc→OQ,eq_or_lt_of_le→OR,mul_comm→OS,pow_succ→OT,mul_assoc→OX
open Int renaming toNat_natCast→OE,le_refl→OY
open Option renaming getD_some→OF
structure qc where
 tm:Int
 ty:Int
 sp:List UInt8
structure hZ where
 num:Int
 qu:Int
 sp:List UInt8
 ms:List aX
structure ez where
 hd:qc
 gs:List hZ
def qG (h:qc):Bool:=decide (0<=h.tm)&&decide (h.tm<=31)&&decide (0<=h.ty)&&decide (h.ty<=63)&&decide (O h.sp<=32)
def dJ (ty:Int):Int:=ty / 4 % 2
def aK (f:Int):List Int:=if f=1 then[1,2,3,4,5,6,7,8,9,10,11,12] else[1,3,5]
def gp (f g a:Int):Int:=(a - 1) % 11*16+(if f=1 then(g - 1) % 2*176 else 0)
def gq (g a:Int):Int:=(a - 1) / 11*16+(g - 1) / 2*48
def jO (f:Int):Int:=if f=1 then 352 else 176
def jC (f:Int):Int:=if f=1 then 288 else 144
def ph (f g a x y:Int):Bool:=decide (0<=gp f g a+x)&&decide (gp f g a+x+16<=jO f)&&decide (0<=gq g a+y)&&decide (gq g a+y+16<=jC f)
def iL (f g:Int) (m:aX):Bool:= !pV m.kd||ph f g m.ad m.x m.y
def eC (f g:Int):Int->List aX->Bool
 |_,[]=>true
 |last,m::ms=>iU m&&decide (last<m.ad)&&iL f g m&&eC f g m.ad ms
def j7 (f n:Int) (g:hZ):Bool:=g.num==n&&decide (1<=g.qu)&&decide (g.qu<=31)&&decide (O g.sp<=32)&&eC f n 0 g.ms
def dX (f:Int):List Int->List hZ->Bool
 |[],[]=>true
 |n::ns,g::gs=>j7 f n g&&dX f ns gs
 |_,_=>false
def cN (s:ez):Bool:=qG s.hd&&dX (dJ s.hd.ty) (aK (dJ s.hd.ty)) s.gs
def dL (sp:List UInt8):List UInt8:=(sp.flatMap λb=>49::ak b.toNat 8)++[48]
def dV (n:Int):List UInt8:=ak 1 16++ak n.toNat 4
def kJ (h:qc):List UInt8:=ak h.tm.toNat 5++(ak h.ty.toNat 6++dL h.sp)
def bS:bA->List aX->List UInt8
 |_,[]=>[]
 |x,m::ms=>aU.getD (m.ad - x.ad).toNat []++(dD m x++bS (dT m) ms)
def j8 (g:hZ):List UInt8:=dV g.num++(ak g.qu.toNat 5++(dL g.sp++bS bE g.ms))
def bU:List hZ->List UInt8
 |[]=>[]
 |g::gs=>j8 g++bU gs
def eN (s:ez):List UInt8:=dV 0++(kJ s.hd++bU s.gs)
def ca:List ez->List UInt8
 |[]=>[]
 |s::ss=>eN s++ca ss
def mH (l:List UInt8):Nat->Nat->Nat
 |0,_=>0
 |k+1,p=>if aZ l p=0 then mH l k (p+1)+1 else 0
def eY (l:List UInt8) (p:Nat):Bool:=mH l (8*O l - p) p==8*O l - p
def jw (e:Int):Int:=if e=5 then 6 else e
def dF (l:List UInt8):Nat->Nat->List UInt8×Nat×Int
 |k,p=>if 8*O l<p+1 then([],0,5) else if aZ l p=0 then([],p+1,0) else match k with
  |0=>([],0,4)
  |k+1=>if 8*O l<p+9 then([],0,5) else
   let q:=dF l k (p+9)
   (UInt8.ofNat (aB l (p+1) 8)::q.1,q.2.1,q.2.2)
def iM (l:List UInt8) (p:Nat):qc×Nat×Int:=
 if 8*O l<p+11 then(⟨0,0,[]⟩,0,5) else
 let q:=dF l 32 (p+11)
 if q.2.2=0 then(⟨aB l p 5,aB l (p+5) 6,q.1⟩,q.2.1,0) else(⟨0,0,[]⟩,0,q.2.2)
def gM (l:List UInt8) (p:Nat):(Int×List UInt8)×Nat×Int:=
 if 8*O l<p+5 then((0,[]),0,5) else if aB l p 5=0 then((0,[]),0,9) else
 let q:=dF l 32 (p+5)
 if q.2.2=0 then((aB l p 5,q.1),q.2.1,0) else((0,[]),0,q.2.2)
def dq (l:List UInt8) (p:Nat):Int×Nat×Int:=
 let z:=mH l (8*O l - p) p
 if 8*O l<=p+z then(0,0,5) else if z<15 then(0,0,7) else if 8*O l<p+z+5 then(0,0,5) else(aB l (p+z+1) 4,p+z+5,0)
def fP (l:List UInt8) (p:Nat) (n:Int):Nat×Int:=
 let s:=dq l p
 if s.2.2=0 then(if s.1=n then(s.2.1,0) else(0,8)) else(0,jw s.2.2)
def ce (l:List UInt8) (f g:Int):Nat->Nat->bA->List aX×Nat×Int
 |0,p,_=>([],p,0)
 |k+1,p,x=>
  let d:=eA l p
  if d.2.2=0 then
   if d.1=34 then([],p,0) else
   if d.1=0 then ce l f g k (p+d.2.1.toNat) x else
   if 33<x.ad+d.1 then([],0,13) else
   let m:=cH l ((p+d.2.1.toNat:Nat):Int) (x.ad+d.1) x
   if m.2.2=0 then
    if iL f g m.1 then
     let q:=ce l f g k (p+d.2.1.toNat+m.2.1.toNat) (dT m.1)
     (m.1::q.1,q.2.1,q.2.2)
    else([],0,12)
   else([],0,jw m.2.2)
  else if d.2.2=5 then(if eY l p then([],p,0) else([],0,6))
  else([],0,d.2.2)
def iV (l:List UInt8) (f n:Int) (p:Nat):hZ×Nat×Int:=
 let s:=fP l p n
 if s.2=0 then
  let h:=gM l s.1
  if h.2.2=0 then
   let m:=ce l f n (8*O l+1) h.2.1 bE
   if m.2.2=0 then(⟨n,h.1.1,h.1.2,m.1⟩,m.2.1,0) else(⟨0,0,[],[]⟩,0,m.2.2)
  else(⟨0,0,[],[]⟩,0,jw h.2.2)
 else(⟨0,0,[],[]⟩,0,s.2)
def gN (l:List UInt8) (f:Int):List Int->Nat->List hZ×Nat×Int
 |[],p=>([],p,0)
 |n::ns,p=>
  let g:=iV l f n p
  if g.2.2=0 then
   let q:=gN l f ns g.2.1
   (g.1::q.1,q.2.1,q.2.2)
  else([],0,g.2.2)
def fM (l:List UInt8) (p:Nat):ez×Nat×Int:=
 let s:=fP l p 0
 if s.2=0 then
  let h:=iM l s.1
  if h.2.2=0 then
   let q:=gN l (dJ h.1.ty) (aK (dJ h.1.ty)) h.2.1
   if q.2.2=0 then(⟨h.1,q.1⟩,q.2.1,0) else(⟨⟨0,0,[]⟩,[]⟩,0,q.2.2)
  else(⟨⟨0,0,[]⟩,[]⟩,0,jw h.2.2)
 else(⟨⟨0,0,[]⟩,[]⟩,0,s.2)
def jK (l:List UInt8):Nat->Nat->List ez×Int
 |0,_=>([],0)
 |k+1,p=>if eY l p then([],0) else
  let s:=fM l p
  if s.2.2=0 then
   let q:=jK l k s.2.1
   (s.1::q.1,q.2)
  else([],s.2.2)
def jd (l:List UInt8) (p:Nat):Bool:=decide (p+20<=8*O l)&&aI l p 20==dV 0
def gy (l:List UInt8):Nat->Nat->Option Nat
 |0,_=>none
 |k+1,p=>if jd l p then some p else gy l k (p+1)
def gZ (l:List UInt8):List ez×Int:=
 match gy l (8*O l) 0 with
 |none=>([],0)
 |some p=>jK l (8*O l+1) p
theorem u7 (b:UInt8)(sp:List UInt8):dL (b::sp)=49::(ak b.toNat 8++dL sp):=by simp[dL]
theorem yU {l:List UInt8}:∀(k p:Nat),(∀j,p<=j->j<p+k->aZ l j=0)->mH l k p=k
 |0,_,_=>rfl
 |k+1,p,h=>by
  rw[mH,if_pos (h p (by omega) (by omega)),yU k (p+1) (λj B h2=>h j (by omega) (by omega))]
theorem yV {l:List UInt8}:∀(z k p:Nat),z<k->(∀j,p<=j->j<p+z->aZ l j=0)->aZ l (p+z)≠0->mH l k p=z
 |0,k+1,p,_,_,h=>by rw[mH,if_neg (by simpa using h)]
 |z+1,k+1,p,hk,h0,h=>by
  rw[mH,if_pos (h0 p (by omega) (by omega)),yV z k (p+1) (by omega) (λj B h2=>h0 j (by omega) (by omega)) (by rw[show p+1+z=p+(z+1) by omega];exact h)]
theorem jh (n:Int):(dV n).length=20:=by simp[dV,bf]
def Kn (l:List UInt8) (p:Nat):Prop:=p<=8*O l/\∀j,p<=j->j<8*O l->aZ l j=0
def Stop (l:List UInt8) (p:Nat):Prop:=At l p bW\/Kn l p
theorem DD {m:aX}(j:wh m){ad:Int}(h:m.ad<ad):da (dT m) ad=true:=by
 unfold da dT;have B:=j.a1
 cases C:pV m.kd with
 |true=>
  simp only[if_true,Z,decide_eq_true_eq,Bool.true_or,and_true];exact⟨⟨⟨by omega,h⟩,j.px⟩,j.py⟩
 |false=>
  simp only[Bool.false_eq_true,if_false,Z,decide_eq_true_eq];exact⟨⟨⟨⟨by omega,h⟩,rfl⟩,rfl⟩,rfl⟩
theorem lZ (m:aX):(dT m).ad=m.ad:=by unfold dT;split<;>rfl
theorem qy {ad:Int}(h:0<ad):da bE ad=true:=by
 unfold da bE;simp only[Z,decide_eq_true_eq];exact⟨⟨⟨⟨OY _,h⟩,rfl⟩,rfl⟩,rfl⟩
theorem ui (d:Nat)(hd:d<34):1<=(aU.getD d []).length:=by
 have h:=nB wG d (by show d<35;omega);rw[ti d hd] at h;exact h.1
def Ks (T:List UInt8):Prop:=T=[]\/∃n j,T=dV n++j
theorem ry {f g:Int}:∀(ms:List aX)(last:Int),eC f g last ms=true->last<=33->(O ms:Int)<=33 - last
 |[],last,_,h=>by simp;omega
 |m::ms,last,hr,h=>by
  rw[eC] at hr;simp only[Z,decide_eq_true_eq] at hr;have j:=((iO m).1 hr.1.1.1).a2;have:=ry ms m.ad hr.2 j;have:=hr.1.1.2;simp only[V];omega
theorem ER (s:ez):1<=(eN s).length:=by unfold eN;rw[U,jh];omega
theorem sG:∀j:List ez,O j<=(ca j).length
 |[]=>OH _
 |s::j=>by rw[ca,U,V];have:=sG j;have:=ER s;omega
theorem wU {l:List UInt8}{p:Nat}(h:jd l p=true):∀(k q:Nat),q<=p->p<q+k->(∀j,q<=j->j<p->jd l j=false)->gy l k q=some p
 |0,q,a,b,_=>by omega
 |k+1,q,a,b,hj=>by
  rw[gy];rcases OR a with e|e
  ·rw[e,h,if_pos rfl]
  ·rw[hj q (OA _) e,if_neg (by simp)]
   exact wU h k (q+1) (by omega) (by omega) (λj c d=>hj j (by omega) d)
theorem wE (l:List UInt8):∀(m i:Nat),aI l i m=ak (aB l i m) m
 |0,_=>rfl
 |m+1,i=>by
  have C:ak (aB l i (m+1)) (m+1)=ak (aB l i (m+1) / 2) m++[if aB l i (m+1) % 2=0 then 48 else 49]:=by
   unfold ak;rw[List.range_succ,List.map_append];congr 1
   ·apply List.map_congr_left
    intro j B;have B:=List.mem_range.1 B;have e:m+1 - 1 - j=(m - 1 - j)+1:=(by omega);rw[e,OT,OS,<-Nat.div_div_eq_div_mul]
   ·simp
  have K:=fC l (i+m);have D:aB l i (m+1)=2*aB l i m+aZ l (i+m):=rfl;rw[iH,C,wE l m i,D];have G:(2*aB l i m+aZ l (i+m)) / 2=aB l i m:=(by omega);rw[G];congr 2;unfold dH;have I:(2*aB l i m+aZ l (i+m)) % 2=aZ l (i+m):=(by omega);rw[I]
theorem Iu (l:List UInt8)(p:Nat):jd l p=(decide (p+20<=8*O l)&&aB l p 20==16):=by
 unfold jd;congr 1;rw[OO,beq_iff_eq,beq_iff_eq];have j:dV 0=ak 16 20:=by decide
 constructor
 ·intro h
  exact uG l 20 p 16 (h.trans j) (by decide)
 ·intro h
  rw[wE,h,j]
theorem wD (d:Nat):cU (aU.getD d []):=by
 rcases Y d 34 with h|h
 ·rw[<-ti d h];exact tX wG _ _
 ·rw[OZ,OP (by rw[dP];exact h)];exact eR
theorem l9:∀sp:List UInt8,cU (dL sp)
 |[]=>jW (by decide)
 |b::sp=>by
  have h:=(jW (s:=[49]) (by decide)).app ((ej b.toNat 8).app (l9 sp));rw[u7];exact h
theorem ua:∀(ms:List aX)(x:bA),cU (bS x ms)
 |[],_=>eR
 |m::ms,x=>by rw[bS];exact(wD _).app ((uc m x).app (ua ms _))
theorem nQ (n:Int):cU (dV n):=(ej _ _).app (ej _ _)
theorem Fr (g:hZ):cU (j8 g):=(nQ _).app ((ej _ _).app ((l9 _).app (ua _ _)))
theorem tZ:∀gs:List hZ,cU (bU gs)
 |[]=>eR
 |g::gs=>(Fr g).app (tZ gs)
theorem ud (s:ez):cU (eN s):=(nQ _).app (((ej _ _).app ((ej _ _).app (l9 _))).app (tZ _))
theorem nP:∀j:List ez,cU (ca j)
 |[]=>eR
 |s::j=>(ud s).app (nP j)
def mw (j:List ez):List UInt8:=bw (ca j)
theorem wu {l:List UInt8}{i:Int}(M:0<=i)(N:i<=8*(O l:Int))(he:(eA l i).2.2=0)(D:(eA l i).1≠34):
  ∃d:Nat,d<34/\(eA l i).1=d/\(eA l i).2.1=((aU.getD d []).length:Int)/\i+(eA l i).2.1<=8*(O l:Int):=by
 unfold eA qh at he D⊢
 split at he
 ·rename_i h;rw[if_pos h] at D;exact absurd rfl D
 ·rename_i h
  rw[if_neg h];obtain⟨j,hj,h2,T⟩:=oH he;have h4:=oG M N he;have C:j<35:=hj;have G:=F4 j C;rw[h2] at G;have I:(ac fD tD l i).1=(j:Int):=G
  have B:j<34:=by
   rcases Y j 34 with K|K
   ·exact K
   ·exact absurd (by rw[I];omega) h
  exact⟨j,B,I,by rw[T,ti j B],h4⟩
theorem gS:∀sp:List UInt8,(dL sp).length=9*O sp+1
 |[]=>rfl
 |b::sp=>by rw[u7,V,U,bf,gS sp,V];omega
theorem tN {l:List UInt8}:∀(k p:Nat),(dF l k p).2.2=0->(dF l k p).1.length<=k/\(dF l k p).2.1=p+(dL (dF l k p).1).length/\(dF l k p).2.1<=8*O l
 |0,p=>by
  rw[dF.eq_def];dsimp only
  split
  ·intro h;cases h
  ·split
   ·intro _;exact⟨OA _,rfl,by dsimp only;omega⟩
   ·intro h;cases h
 |k+1,p=>by
  rw[dF.eq_def];dsimp only
  split
  ·intro h;cases h
  ·split
   ·intro _;exact⟨OH _,rfl,by dsimp only;omega⟩
   ·split
    ·intro h;cases h
    ·intro h
     obtain⟨j,h2,B⟩:=tN k (p+9) h;refine⟨by simpa using j,?_,B⟩;dsimp only;rw[h2,gS,gS,V];omega
theorem pR {l:List UInt8}{p:Nat}(h:(dq l p).2.2=0):p+20<=(dq l p).2.1/\(dq l p).2.1<=8*O l/\0<=(dq l p).1/\(dq l p).1<=15:=by
 unfold dq at h⊢;dsimp only at h⊢
 split at h
 ·cases h
 rename_i j
 split at h
 ·cases h
 rename_i h2
 split at h
 ·cases h
 rename_i B
 rw[if_neg j,if_neg h2,if_neg B];have:=fF l (p+mH l (8*O l - p) p+1) 4;exact⟨by dsimp only;omega,by dsimp only;omega,by dsimp only;omega,by dsimp only;omega⟩
theorem oK {l:List UInt8}{p:Nat}{n:Int}(h:(fP l p n).2=0):p+20<=(fP l p n).1/\(fP l p n).1<=8*(O l):=by
 unfold fP at h⊢;dsimp only at h⊢
 by_cases j:(dq l p).2.2=0
 ·rw[if_pos j] at h⊢
  split at h
  ·rename_i h2
   rw[if_pos h2];exact⟨(pR j).1,(pR j).2.1⟩
  ·cases h
 ·rw[if_neg j] at h
  unfold jw at h
  split at h
  ·cases h
  ·exact absurd h j
theorem xh {l:List UInt8}{p:Nat}(h:(iM l p).2.2=0):qG (iM l p).1=true/\(iM l p).2.1=p+(kJ (iM l p).1).length/\(iM l p).2.1<=8*(O l):=by
 unfold iM at h⊢;dsimp only at h⊢
 split at h
 ·cases h
 rename_i j
 rw[if_neg j]
 by_cases h2:(dF l 32 (p+11)).2.2=0
 ·rw[if_pos h2]
  obtain⟨B,C,D⟩:=tN 32 (p+11) h2;have a:=fF l p 5;have b:=fF l (p+5) 6;refine⟨?_,?_,D⟩
  ·unfold qG
   simp only[Z,decide_eq_true_eq];exact⟨⟨⟨⟨by omega,by omega⟩,by omega⟩,by omega⟩,B⟩
  ·unfold kJ
   dsimp only;rw[C];simp only[U,bf];omega
 ·rw[if_neg h2] at h
  exact absurd h h2
theorem xb {l:List UInt8}{p:Nat}(h:(gM l p).2.2=0):1<=(gM l p).1.1/\(gM l p).1.1<=31/\(gM l p).1.2.length<=32/\(gM l p).2.1=p+5+(dL (gM l p).1.2).length/\(gM l p).2.1<=8*(O l):=by
 unfold gM at h⊢;dsimp only at h⊢
 split at h
 ·cases h
 rename_i B
 split at h
 ·cases h
 rename_i j
 rw[if_neg B,if_neg j]
 by_cases h2:(dF l 32 (p+5)).2.2=0
 ·rw[if_pos h2]
  obtain⟨C,D,G⟩:=tN 32 (p+5) h2;have a:=fF l p 5;exact⟨by dsimp only;omega,by dsimp only;omega,C,D,G⟩
 ·rw[if_neg h2] at h
  exact absurd h h2
theorem jk {e:Int}(h:e≠0):jw e≠0:=by unfold jw;split<;>omega
theorem ol {l:List UInt8}{f g:Int}:∀(k p:Nat)(x:bA),p<=8*O l->0<=x.ad->(ce l f g k p x).2.2=0->
  eC f g x.ad (ce l f g k p x).1=true/\p+(bS x (ce l f g k p x).1).length<=(ce l f g k p x).2.1/\(ce l f g k p x).2.1<=8*O l
 |0,p,x,hp,hx,_=>⟨rfl,OA _,hp⟩
 |k+1,p,x,hp,hx,he=>by
  have G:= @wu l (p:Int) (by omega) (by omega);rw[ce] at he⊢;dsimp only at he⊢
  by_cases j:(eA l p).2.2=0
  ·rw[if_pos j] at he⊢
   by_cases h2:(eA l p).1=34
   ·rw[if_pos h2]
    exact⟨rfl,OA _,hp⟩
   ·rw[if_neg h2] at he⊢
    obtain⟨d,T,d2,I,d4⟩:=G j h2;rw[d2,I] at he⊢;rw[I] at d4;rw[OE] at he⊢;have av:=ui d T
    by_cases B:(d:Int)=0
    ·rw[if_pos B] at he⊢
     obtain⟨a,b,c⟩:=ol k (p+(aU.getD d []).length) x (by omega) hx he;exact⟨a,by omega,c⟩
    ·rw[if_neg B] at he⊢
     by_cases K:33<x.ad+(d:Int)
     ·rw[if_pos K] at he;cases he
     ·rw[if_neg K] at he⊢
      have M:= @xB l ((p+(aU.getD d []).length:Nat):Int) (x.ad+d) x (by omega) (by omega);generalize cH l ((p+(aU.getD d []).length:Nat):Int) (x.ad+d) x=r at he M⊢
      by_cases C:r.2.2=0
      ·rw[if_pos C] at he⊢
       obtain⟨N,m2,m3,m4,m5,m6⟩:=M C
       by_cases D:iL f g r.1=true
       ·rw[if_pos D] at he⊢
        obtain⟨a,b,c⟩:=ol k (p+(aU.getD d []).length+r.2.1.toNat) (dT r.1) (by omega) (by rw[lZ];have:=N.a1;omega) he;rw[lZ] at a;refine⟨?_,?_,c⟩
        ·rw[eC]
         simp only[Z,decide_eq_true_eq];exact⟨⟨⟨(iO _).2 N,by omega⟩,D⟩,a⟩
        ·rw[bS,m2,show (x.ad+(d:Int) - x.ad).toNat=d by omega,U,U]
         dsimp only;omega
       ·rw[if_neg D] at he;cases he
      ·rw[if_neg C] at he
       exact absurd he (jk C)
  ·rw[if_neg j] at he⊢
   split at he
   ·rename_i h2
    rw[if_pos h2]
    split at he
    ·rename_i B
     rw[if_pos B];exact⟨rfl,OA _,hp⟩
    ·cases he
   ·exact absurd he j
theorem Hd {l:List UInt8}{f n:Int}{p:Nat}(he:(iV l f n p).2.2=0):j7 f n (iV l f n p).1=true/\p+(j8 (iV l f n p).1).length<=(iV l f n p).2.1/\(iV l f n p).2.1<=8*(O l):=by
 unfold iV at he⊢;dsimp only at he⊢
 by_cases j:(fP l p n).2=0
 ·rw[if_pos j] at he⊢
  obtain⟨M,N⟩:=oK j
  by_cases h2:(gM l (fP l p n).1).2.2=0
  ·rw[if_pos h2] at he⊢
   obtain⟨C,D,G,K,I⟩:=xb h2
   by_cases B:(ce l f n (8*O l+1) (gM l (fP l p n).1).2.1 bE).2.2=0
   ·rw[if_pos B] at he⊢
    obtain⟨a,b,c⟩:=ol _ _ bE I (OY 0) B;refine⟨?_,?_,c⟩
    ·unfold j7
     simp only[Z,decide_eq_true_eq,beq_self_eq_true];exact⟨⟨⟨⟨trivial,C⟩,D⟩,G⟩,a⟩
    ·unfold j8
     simp only[U,jh,bf];omega
   ·rw[if_neg B] at he;exact absurd he B
  ·rw[if_neg h2] at he;exact absurd he (jk h2)
 ·rw[if_neg j] at he;exact absurd he j
theorem xf {l:List UInt8}{f:Int}:∀(ns:List Int)(p:Nat),p<=8*O l->(gN l f ns p).2.2=0->
  dX f ns (gN l f ns p).1=true/\p+(bU (gN l f ns p).1).length<=(gN l f ns p).2.1/\(gN l f ns p).2.1<=8*O l
 |[],p,hp,_=>⟨rfl,OA _,hp⟩
 |n::ns,p,hp,he=>by
  rw[gN] at he⊢;dsimp only at he⊢
  by_cases j:(iV l f n p).2.2=0
  ·rw[if_pos j] at he⊢
   obtain⟨a,b,c⟩:=Hd j;obtain⟨a2,B,c2⟩:=xf ns _ c he;refine⟨by rw[dX,a,a2];rfl,?_,c2⟩;rw[bU,U];dsimp only;omega
  ·rw[if_neg j] at he;exact absurd he j
theorem yk {l:List UInt8}{p:Nat}(he:(fM l p).2.2=0):cN (fM l p).1=true/\p+(eN (fM l p).1).length<=(fM l p).2.1/\(fM l p).2.1<=8*(O l):=by
 unfold fM at he⊢;dsimp only at he⊢
 by_cases j:(fP l p 0).2=0
 ·rw[if_pos j] at he⊢
  obtain⟨I,K⟩:=oK j
  by_cases h2:(iM l (fP l p 0).1).2.2=0
  ·rw[if_pos h2] at he⊢
   obtain⟨C,G,D⟩:=xh h2;generalize iM l (fP l p 0).1=r at he C G D h2⊢
   by_cases B:(gN l (dJ r.1.ty) (aK (dJ r.1.ty)) r.2.1).2.2=0
   ·rw[if_pos B] at he⊢
    obtain⟨a,b,c⟩:=xf _ _ D B;refine⟨by unfold cN;rw[C,a];rfl,?_,c⟩;unfold eN;simp only[U,jh];omega
   ·rw[if_neg B] at he;exact absurd he B
  ·rw[if_neg h2] at he;exact absurd he (jk h2)
 ·rw[if_neg j] at he;exact absurd he j
theorem uZ {l:List UInt8}:∀(k p:Nat),p<=8*O l->(∀s∈(jK l k p).1,cN s=true)/\p+(ca (jK l k p).1).length<=8*O l
 |0,p,hp=>⟨λs h=>(by cases h),hp⟩
 |k+1,p,hp=>by
  rw[jK];dsimp only
  by_cases C:eY l p=true
  ·rw[if_pos C];exact⟨λs h=>(by cases h),hp⟩
  ·rw[if_neg C]
   by_cases j:(fM l p).2.2=0
   ·rw[if_pos j]
    obtain⟨a,b,c⟩:=yk j;obtain⟨a2,D⟩:=uZ k _ c;refine⟨λs B=>?_,?_⟩
    ·rcases List.mem_cons.1 B with rfl|B
     ·exact a
     ·exact a2 s B
    ·rw[ca,U]
     omega
   ·rw[if_neg j];exact⟨λs h=>(by cases h),hp⟩
theorem wV {l:List UInt8}:∀(k q p:Nat),gy l k q=some p->p+20<=8*O l
 |0,_,_,h=>by cases h
 |k+1,q,p,h=>by
  rw[gy] at h
  split at h
  ·rename_i j
   injection h with h;subst h;unfold jd at j;rw[Z,decide_eq_true_eq] at j;exact j.1
  ·exact wV k _ _ h
theorem pU (l:List UInt8):(∀s∈(gZ l).1,cN s=true)/\(ca (gZ l).1).length<=8*(O l):=by
 unfold gZ
 cases h:gy l (8*O l) 0 with
 |none=>exact⟨λs h=>(by cases h),OH _⟩
 |some p=>
  obtain⟨a,b⟩:=uZ (l:=l) (8*O l+1) p (by have:=wV _ _ _ h;omega);exact⟨a,by dsimp only;omega⟩
theorem Cl {t:List UInt8}{p:Nat}(h:eY t p=true):dq t p=(0,0,5):=by
 unfold eY at h;rw[beq_iff_eq] at h;unfold dq;rw[h];dsimp only;rw[if_pos (by omega)]
theorem ke (l:List UInt8)(p:Nat):∀n,aB l p n=0↔∀j,j<n->aZ l (p+j)=0
 |0=>by simp[aB]
 |n+1=>by
  rw[aB];constructor
  ·intro h j C
   rcases Y j n with B|B
   ·exact(ke l p n).1 (by omega) j B
   ·obtain rfl:j=n:=by omega
    omega
  ·intro h
   have B:=(ke l p n).2 (λj C=>h j (by omega));have h2:=h n (by omega);omega
theorem Be (l:List UInt8)(p a:Nat):∀b,aB l p (a+b)=aB l p a*2 ^ b+aB l (p+a) b
 |0=>by simp[aB]
 |b+1=>by
  rw[<-OQ,aB,Be l p a b,aB,OT,OQ p a b];have:aB l p a*(2 ^ b*2)=2*(aB l p a*2 ^ b):=(by rw[<-OX,OS]);omega
theorem vt (l:List UInt8):∀k p,mH l k p=k->∀j,p<=j->j<p+k->aZ l j=0
 |0,p,_,j,h1,h2=>by omega
 |k+1,p,h,j,h1,h2=>by
  rw[mH] at h
  split at h
  ·rcases OR h1 with e|e
   ·subst e;assumption
   ·exact vt l k (p+1) (by omega) j (by omega) (by omega)
  ·omega
theorem mr {l:List UInt8}{p:Nat}:eY l p=true↔∀j,p<=j->j<8*O l->aZ l j=0:=by
 unfold eY;rw[beq_iff_eq];exact⟨λh j B h2=>vt l _ _ h j B (by omega),λh=>yU _ _ (λj B h2=>h j B (by omega))⟩
theorem Ek {l:List UInt8}{p n:Nat}(h:aB l p n=0):eY l (p+n)=eY l p:=by
 rw[OO,mr,mr];constructor
 ·intro B j h2 C
  rcases Y j (p+n) with D|D
  ·have:=(ke l p n).1 h (j - p) (by omega)
   rwa [show p+(j - p)=j by omega] at this
  ·exact B j D C
 ·exact λB j h2 C=>B j (by omega) C
theorem F7 {l:List UInt8}{p n:Nat}(D:p+n<=8*O l)(h:aB l p n≠0):eY l p=false:=by
 rw[OU];intro B;apply h;rw[ke];exact λj C=>mr.1 B _ (by omega) (by omega)
theorem F6 {l:List UInt8}{p:Nat}(h:8*O l<=p):eY l p=true:=mr.2 (λj B h2=>by omega)
def jv (l:List UInt8) (p:Nat):Prop:=p+16<=8*O l/\(∀j,p<=j->j<p+15->aZ l j=0)/\aZ l (p+15)=1
def iY (l:List UInt8) (a:Nat):Nat->Nat
 |0=>0
 |k+1=>if aZ l (a+k)=0 then iY l a k+1 else 0
theorem tL (l:List UInt8)(a:Nat):∀k,iY l a k<=k
 |0=>OA _
 |k+1=>by
  have:=tL l a k;rw[iY]
  split<;>omega
theorem uW (l:List UInt8)(a:Nat):∀k j,a+k<=j+iY l a k->j<a+k->aZ l j=0
 |0,j,h1,h2=>by rw[iY] at h1;omega
 |k+1,j,h1,h2=>by
  rw[iY] at h1
  split at h1
  ·rcases Y j (a+k) with B|B
   ·exact uW l a k j (by omega) B
   ·obtain rfl:j=a+k:=by omega
    assumption
  ·omega
theorem yg (l:List UInt8)(a:Nat):∀k t,t<=k->(∀j,a+k<=j+t->j<a+k->aZ l j=0)->t<=iY l a k
 |0,t,h,_=>by omega
 |k+1,0,_,_=>OH _
 |k+1,t+1,h,hz=>by
  rw[iY,if_pos (hz (a+k) (by omega) (by omega))];have:=yg l a k t (by omega) (λj B h2=>hz j (by omega) (by omega));omega
def lX (l:List UInt8) (a k:Nat):Prop:=∀j,a<=j->j+16<=a+k->¬jv l j
theorem zu (l:List UInt8)(a:Nat):lX l a 0:= λj B h2=>by omega
theorem vM {l:List UInt8}{a k:Nat}(h:lX l a k)(G:aZ l (a+k)=0):lX l a (k+1):= λj D h2 C=>by
 rcases Y (a+k) (j+16) with B|B
 ·have:=C.2.2
  rw[show j+15=a+k by omega] at this;omega
 ·exact h j D B C
theorem Ch {l:List UInt8}{a k:Nat}(h:lX l a k)(K:iY l a k<15):lX l a (k+1):= λj D h2 C=>by
 rcases Y (a+k) (j+16) with B|B
 ·have:=yg l a k 15 (by omega) (λi G I=>C.2.1 i (by omega) (by omega))
  omega
 ·exact h j D B C
theorem BG {l:List UInt8}{a k:Nat}(h:lX l a k)(G:a+k<8*O l)(I:15<=iY l a k)(C:aZ l (a+k)=1):a+15<=a+k/\jv l (a+k - 15)/\∀j,a<=j->j<a+k - 15->¬jv l j:=by
 have D:=tL l a k;refine⟨by omega,⟨by omega,λj B h2=>uW l a k j (by omega) (by omega),by rw[show a+k - 15+15=a+k by omega];exact C⟩,λj B h2=>h j B (by omega)⟩
theorem rH (l:List UInt8)(k:Nat)(h:aZ l k≠0):aZ l k=1:=by have:=fC l k;omega
theorem qv {l:List UInt8}{p:Nat}:jd l p=true↔jv l p/\p+20<=8*O l/\aB l (p+16) 4=0:=by
 rw[Iu,Z,decide_eq_true_eq,beq_iff_eq,show 20=16+4 from rfl,Be l p 16 4,show 16=15+1 from rfl,aB,show 15+1=16 from rfl];have G:=fF l (p+16) 4;have K:=fC l (p+15);constructor
 ·rintro⟨C,h2⟩
  have B:aB l p 15=0:=(by omega);refine⟨⟨by omega,λj a b=>?_,by omega⟩,by omega,by omega⟩;have:=(ke l p 15).1 B (j - p) (by omega)
  rwa [show p+(j - p)=j by omega] at this
 ·rintro⟨⟨C,h2,B⟩,D,I⟩
  have:aB l p 15=0:=(ke l p 15).2 (λj M=>h2 _ (by omega) (by omega));exact⟨D,by omega⟩
theorem rS {l:List UInt8}:∀(k q:Nat),(∀j,q<=j->j<q+k->jd l j=false)->gy l k q=none
 |0,q,_=>rfl
 |k+1,q,h=>by
  rw[gy,h q (OA _) (by omega)];exact rS k (q+1) (λj B h2=>h j (by omega) (by omega))
def nM (l:List UInt8) (p:Nat):Prop:=∀j,j<p->jd l j=false
theorem xD {l:List UInt8}{p q:Nat}(h:nM l p)(D:∀j,p<=j->j<q->¬jv l j):nM l q:= λj C=>by
 rcases Y j p with B|B
 ·exact h j B
 ·rw[OU];intro h2
  exact D j B C (qv.1 h2).1
theorem sf {l:List UInt8}{p:Nat}(h:nM l p)(C:jd l p=false):nM l (p+1):= λj D=>by
 rcases Y j p with B|B
 ·exact h j B
 ·obtain rfl:j=p:=by omega
  exact C
theorem EM {l:List UInt8}{p:Nat}(h:nM l p)(C:∀j,p<=j->¬jv l j):gy l (8*O l) 0=none:=
 rS _ _ (λj _ _=>xD (q:=j+1) h (λi B _=>C i B) j (by omega))
theorem EN {l:List UInt8}{p:Nat}(h:nM l p)(B:jd l p=true):gy l (8*O l) 0=some p:=
 wU B _ _ (OH _) (by have:=(qv.1 B).2.1;omega) (λj _ C=>h j C)
theorem EU {l:List UInt8}{p:Nat}(h:∀j,p<=j->j<8*O l->aZ l j=0):dq l p=(0,0,5):=Cl (mr.2 h)
theorem EV {l:List UInt8}{p z:Nat}(C:p+z<8*O l)(h:∀j,p<=j->j<p+z->aZ l j=0) (B:aZ l (p+z)≠0):
  dq l p=if z<15 then((0:Int),(0:Nat),(7:Int)) else if 8*O l<p+z+5 then((0:Int),(0:Nat),(5:Int)) else(((aB l (p+z+1) 4:Nat):Int),p+z+5,(0:Int)):=by
 unfold dq;rw[yV z (8*O l - p) p (by omega) h B];dsimp only;rw[if_neg (by omega)]
theorem Bt {l:List UInt8}{k p:Nat}(h:8*O l<p+1):dF l k p=([],0,5):=by
 cases k<;>rw[dF,if_pos h]
theorem sH {l:List UInt8}{k p:Nat}(h:p+1<=8*O l)(j:aZ l p=0):dF l k p=([],p+1,0):=by
 cases k<;>rw[dF,if_neg (by omega),if_pos j]
theorem yq {l:List UInt8}{p:Nat}(h:p+1<=8*O l)(j:aZ l p≠0):dF l 0 p=([],0,4):=by
 rw[dF,if_neg (by omega),if_neg j]
theorem yr {l:List UInt8}{k p:Nat}(h:p+1<=8*O l)(j:aZ l p≠0)(h2:8*O l<p+9):dF l (k+1) p=([],0,5):=by
 rw[dF,if_neg (by omega),if_neg j];dsimp only;rw[if_pos h2]
theorem It {l:List UInt8}{k p:Nat}(j:aZ l p≠0)(h2:p+9<=8*O l):dF l (k+1) p=(UInt8.ofNat (aB l (p+1) 8)::(dF l k (p+9)).1,(dF l k (p+9)).2.1,(dF l k (p+9)).2.2):=by
 rw[dF,if_neg (by omega),if_neg j];dsimp only;rw[if_neg (by omega)]
theorem BI (d:Nat):(aU.getD d []).length<=11:=by
 rcases Y d 34 with h|h
 ·have:∀k:Fin 34,(aU.getD k.1 []).length<=11:=by decide
  exact this ⟨d,h⟩
 ·rw[OZ,OP (by rw[dP];exact h)]
  exact OH _
theorem mW {f g last:Int}{m:aX}{ms:List aX}(h:eC f g last (m::ms)=true):iU m=true/\last<m.ad/\iL f g m=true/\eC f g m.ad ms=true:=by
 rw[eC,Z,Z,Z,decide_eq_true_eq] at h;exact⟨h.1.1.1,h.1.1.2,h.1.2,h.2⟩
theorem uE {f g:Int}:∀(ms:List aX)(x:bA),eC f g x.ad ms=true->(bS x ms).length<=8011*O ms
 |[],_,_=>OA _
 |m::ms,x,h=>by
  obtain⟨j,_,_,B⟩:=mW h;have C:=uE ms (dT m) (by rw[lZ];exact B);have D:=Eg x ((iO m).1 j);have G:=BI (m.ad - x.ad).toNat;rw[bS,U,U,V];omega
theorem lA {f n:Int}{g:hZ}(h:j7 f n g=true):g.num=n/\1<=g.qu/\g.qu<=31/\O g.sp<=32/\eC f n 0 g.ms=true:=by
 simp only[j7,Z,decide_eq_true_eq,beq_iff_eq] at h;exact⟨h.1.1.1.1,h.1.1.1.2,h.1.1.2,h.1.2,h.2⟩
theorem FP {f n:Int}{g:hZ}(h:j7 f n g=true):(j8 g).length<=264700:=by
 obtain⟨_,_,_,B,j⟩:=lA h;have C:=uE g.ms bE (f:=f) (g:=n) j;have D:=ry g.ms 0 j (by decide);rw[j8,U,U,U,jh,bf,gS];omega
theorem kI {f:Int}:∀(ns:List Int)(gs:List hZ),dX f ns gs=true->(bU gs).length<=264700*O ns/\O gs=O ns
 |[],[],_=>⟨OA _,rfl⟩
 |[],_::_,h=>by cases h
 |_::_,[],h=>by cases h
 |n::ns,g::gs,h=>by
  rw[dX,Z] at h;have j:=FP h.1;have h2:=kI ns gs h.2;rw[bU,U,V,V];omega
theorem ip (f:Int):(aK f).length<=12:=by unfold aK;split<;>decide
theorem ls {s:ez}(h:cN s=true):qG s.hd=true/\dX (dJ s.hd.ty) (aK (dJ s.hd.ty)) s.gs=true:=by
 rw[cN,Z] at h;exact h
theorem uz {h:qc}(j:qG h=true):0<=h.tm/\h.tm<=31/\0<=h.ty/\h.ty<=63/\O h.sp<=32:=by
 simp only[qG,Z,decide_eq_true_eq] at j;exact⟨j.1.1.1.1,j.1.1.1.2,j.1.1.2,j.1.2,j.2⟩
theorem uY {s:ez}(h:cN s=true):(eN s).length<=3200000:=by
 obtain⟨j,h2⟩:=ls h;have C:=(uz j).2.2.2.2;have D:=(kI _ _ h2).1;have B:=ip (dJ s.hd.ty);rw[eN,U,U,jh,kJ,U,U,bf,bf,gS];have G:264700*(aK (dJ s.hd.ty)).length<=264700*12:=Nat.mul_le_mul_left _ B;omega
theorem oE:∀j:List ez,(∀s∈j,cN s=true)->(ca j).length<=3200000*O j
 |[],_=>OA _
 |s::j,h=>by
  have B:=uY (h s (by simp));have h2:=oE j (λt ht=>h t (OI _ ht));rw[ca,U,V];omega
def dm (first:Bool):List (List UInt8):=(aL first).map (·.2)++(if first then[] else[bz])++[fi]
def qM (first:Bool):List Int:=(List.range 63).map (λj:Nat=>(j:Int))++(if first then[] else[1001])++[1000]
theorem FA (first:Bool):il (dm first)=true:=by cases first<;>kernel_rfl
theorem Fz (first:Bool):(dm first).all cM=true:=by cases first<;>kernel_rfl
theorem G3 (first:Bool):(dm first).length=(qM first).length:=by cases first<;>kernel_rfl
theorem BM:(dm false).length=65:=by kernel_rfl
theorem JL:(dm true).length=64:=by kernel_rfl
theorem eO (first:Bool):(aL first).length=63:=by cases first<;>kernel_rfl
def nZ (l:List UInt8) (i:Int) (first:Bool):(Int×Int)×Bool×Int×Int:=
 let r:=ac (dm first) (qM first) l i
 if r.2.2 !=0 then((0,0),false,0,r.2.2) else
 if r.1==1001 then((0,0),true,r.2.1,0) else
 if r.1==1000 then
  if 8*(O l:Int)<i+r.2.1+14 then((0,0),false,0,5) else
  let x:=aB l (i+r.2.1).toNat 14
  if x % 256==0||x % 256==128 then((0,0),false,0,10) else(((x / 256:Nat),i8 (x % 256)),false,r.2.1+14,0)
 else if 8*(O l:Int)<i+r.2.1+1 then((0,0),false,0,5) else
  let p:=((aL false).getD r.1.toNat ((0,0),[])).1
  ((p.1,if aB l (i+r.2.1).toNat 1==1 then -p.2 else p.2),false,r.2.1+1,0)
theorem ww {l:List UInt8}{k m:Nat}{c:List UInt8}(h:c<+:aI l k m)(j:k+m<=8*O l):At l k c:=by
 have hl:=h.length_le;rw[bo] at hl;obtain⟨t,ht⟩:=h;refine⟨by omega,?_⟩;have e:aI l k m=aI l k (O c)++aI l (k+O c) (m - O c):=by rw[<-dI];congr 1;omega
 rw[e] at ht;exact(List.append_inj_left ht (by rw[bo])).symm
theorem vC {l:List UInt8}{k m:Nat}{c:List UInt8}(h:aI l k m<+:c)(j:k<=8*O l)(B:m=8*O l - k)(C:m<O c):oV l k c:=by
 refine⟨j,by omega,?_⟩;rw[<-B];have:=List.prefix_iff_eq_take.1 h
 rwa [bo] at this
theorem rZ {s:List UInt8}:∀(T:List oY)(more:Bool),(∀e∈T,bJ s e.2=false)->bZ s T more=((0,0),false,0,if more then 5 else 7)
 |[],more,_=>rfl
 |(p,c)::T,more,ha=>by
  rw[mN (ha (p,c) (by simp))];exact rZ T more λe he=>ha e (OI _ he)
theorem pw (l:List UInt8)(i:Nat):∀n,cz (aI l i n)=aB l i n
 |0=>rfl
 |n+1=>by
  rw[iH,sg,pw l i n];have j:=fC l (i+n)
  have:(dH l (i+n)).toNat - 48=aZ l (i+n):=by
   unfold dH
   split
   ·rename_i h;rw[h];rfl
   ·have e:aZ l (i+n)=1:=by omega
    rw[e];rfl
  rw[this];rfl
theorem xE (l:List UInt8)(i a:Nat):∀b,aB l i (a+b)=aB l i a*2 ^ b+aB l (i+a) b
 |0=>by simp[aB]
 |b+1=>by
  have h:=xE l i a b;show 2*aB l i (a+b)+aZ l (i+(a+b))=_*2 ^ (b+1)+(2*aB l (i+a) b+aZ l (i+a+b));rw[h,OT,<-OQ i a b];have:aB l i a*(2 ^ b*2)=2*(aB l i a*2 ^ b):=(by rw[<-OX,OS]);omega
theorem rI (l:List UInt8)(i a b:Nat):(aI l i (a+b)).drop a=aI l (i+a) b:=by
 rw[dI,List.drop_left' (bo l i a)]
theorem tl (first:Bool)(k:Nat)(B:k<(dm first).length):(∃h:k<63,(dm first)[k]=((aL first)[k]'(by rw[eO];exact h)).2/\(qM first)[k]? =some (k:Int))\/(first=false/\k=63/\(dm first)[k]=bz/\(qM first)[k]? =some 1001)\/((dm first)[k]=fi/\(qM first)[k]? =some 1000):=by
 have ht:=eO first;unfold dm at B
 by_cases j:k<63
 ·left
  refine⟨j,?_,?_⟩
  ·unfold dm
   rw[OM (by simp;omega),OM (by simp;omega),List.getElem_map]
  ·unfold qM
   rw[OL (by simp;omega),OL (by simp;omega),OV,List.getElem?_range j];rfl
 ·right
  cases first with
  |false=>
   have:k=63\/k=64:=(by simp[ht] at B;omega);rcases this with rfl|rfl
   ·left;exact⟨rfl,rfl,by kernel_rfl,by kernel_rfl⟩
   ·right;exact⟨by kernel_rfl,by kernel_rfl⟩
  |true=>
   have:k=63:=(by simp[ht] at B;omega);subst this
   right;exact⟨by kernel_rfl,by kernel_rfl⟩
theorem GF (k:Nat)(h:k<63)(first:Bool):((aL false).getD k ((0,0),[])).1=((aL first)[k]'(by rw[eO];exact h)).1:=by
 cases first with
 |false=>rw[OK,OD (by rw[eO];exact h),OF]
 |true=>
  have j:((aL false).map (·.1))=((aL true).map (·.1)):=(by kernel_rfl);rw[OK,OD (by rw[eO];exact h),OF];have:=congrArg (λL=>L[k]?) j;simp only[OV] at this;rw[OD (by rw[eO];exact h),OD (by rw[eO];exact h)] at this
  simpa using this
theorem G8 (l:List UInt8)(i:Int)(first:Bool):nZ l i first=aS l i first:=by
 by_cases h0:i<0
 ·have e:ac (dm first) (qM first) l i=(0,0,3):=by unfold ac;rw[if_pos h0]
  unfold nZ aS;rw[e,if_pos h0];rfl
 obtain⟨k,rfl⟩:=Int.eq_ofNat_of_zero_le (by omega:0<=i);have N:=FA first;have bM:=Fz first
 by_cases h1:8*(O l:Int)<(k:Int)
 ·have e:ac (dm first) (qM first) l (k:Int)=(0,0,5):=by
   unfold ac;rw[if_neg h0,OE,show min 24 (8*O l - k)=0 by omega]
   cases first<;>kernel_rfl
  unfold nZ aS
  rw[e,if_neg h0,if_pos h1]
  rfl
 obtain⟨r,hr⟩:∃r,8*O l - k=r:=⟨_,rfl⟩;have Kv:k+r=8*(O l):=by omega
 obtain⟨s,hs⟩:∃s,aI l k (min 20 r)=s:=⟨_,rfl⟩;have K9:O s=min 20 r:=by rw[<-hs,bo]
 have iP:s<+:aI l k (min 24 r):=by
  refine⟨aI l (k+min 20 r) (min 24 r - min 20 r),?_⟩;rw[<-hs,<-dI];congr 1;omega
 have ec:aS l (k:Int) first=((if bJ s fi then
   if (O s)<20 then((0,0),false,0,5) else
   if i8 (cz (s.drop 12))==0||i8 (cz (s.drop 12))== -128 then((0,0),false,0,10) else((((cz ((s.take 12).drop 6):Nat):Int),i8 (cz (s.drop 12))),false,20,0)
  else if !first&&bz.isPrefixOf s then((0,0),true,2,0)
  else bZ s (aL first) (!first&&bJ s bz)):(Int×Int)×Bool×Int×Int):=by
  unfold aS
  rw[if_neg h0,if_neg h1,OE,hr,hs]
 rw[ec]
 have I:∀(a b:Nat)(K:a<(dm first).length)(hb:b<(dm first).length),(dm first)[a]<+:(dm first)[b]->a=b:= λa b K hb h=>by
  have:=jX N hb K h;omega
 have eE:∀(a:Nat)(K:a<(dm first).length),(dm first)[a].length<=13:=by
  have:(dm first).all (λc=>decide (O c<=13))=true:=(by cases first<;>kernel_rfl);intro a K
  simpa using OW.1 this _ (ON K)
 have Ht:∃e,∃he:e<(dm first).length,(dm first)[e]=fi/\63<=e:=by
  cases first
  ·exact⟨64,by rw[BM];decide,by kernel_rfl,by decide⟩
  ·exact⟨63,by rw[JL];decide,by kernel_rfl,by decide⟩
 obtain⟨e,he,fJ,Ku⟩:=Ht
 have av:first=false->∃h:63<(dm first).length,(dm first)[63]=bz/\e=64:= λM=>by
  subst M;refine⟨by rw[BM];decide,by kernel_rfl,?_⟩;exact I e 64 he (by rw[BM];decide) (by rw[fJ];exact OJ)
 have kU:∀(q:Nat)(h:q<63),∃G:q<(dm first).length,(dm first)[q]=((aL first)[q]'(by rw[eO];exact h)).2:= λq h=>by
  have G:q<(dm first).length:=(by omega);rcases tl first q G with⟨_,h2,_⟩|⟨_,h2,_⟩|⟨h2,_⟩
  ·exact⟨G,h2⟩
  ·omega
  ·have:=I q e G he (by rw[h2,fJ];exact OJ);omega
 by_cases hA:∃q,∃G:q<(dm first).length,(dm first)[q]<+:aI l k (min 24 r)
 ·obtain⟨q,G,hp⟩:=hA
  have dO:=ww hp (by omega);have hT:=IM N bM (G3 first) q G dO;have kA:(dm first)[q].length<=r:=by have:=dO.1;omega
  have D:(dm first)[q]<+:s:=by
   have hl:=eE q G;rcases J hp iP with h|h
   ·exact h
   ·have:=h.eq_of_length (by have:=h.length_le;omega)
    rw[this];exact OJ
  have K3:∀(a:Nat)(K:a<(dm first).length),bJ s (dm first)[a]=true->O s<(dm first)[a].length\/a=q:= λa K C=>by
   rcases du.1 C with h|h
   ·right;exact(I q a G K (D.trans h)).symm
   ·right
    rcases J h D with h|h
    ·exact I a q K G h
    ·exact(I q a G K h).symm
  have JT:q≠e->bJ s fi=false:= λT=>by
   rw[<-OC];intro C;rw[<-fJ] at C;rcases du.1 C with h|h
   ·exact T (I q e G he (D.trans h))
   ·rcases J h D with h|h
    ·exact T (I e q he G h).symm
    ·exact T (I q e G he h)
  have K0:∀(B:first=false),q≠63->bJ s bz=false:= λM T=>by
   obtain⟨B,cE,_⟩:=av M;rw[<-OC];intro C;rw[<-cE] at C;rcases du.1 C with h|h
   ·exact T (I q 63 G B (D.trans h))
   ·rcases J h D with h|h
    ·exact T (I 63 q B G h).symm
    ·exact T (I q 63 G B h)
  unfold nZ;rw[hT];dsimp only;rw[if_neg (by decide)];rcases tl first q G with⟨B,h2,h3⟩|⟨M,B,h2,h3⟩|⟨h2,h3⟩
  ·rw[h3,OF,if_neg (by simp;omega),if_neg (by simp;omega),JT (by omega),if_neg X]
   have dv:(!first&&bz.isPrefixOf s)=false:=by
    cases M:first with
    |true=>rfl
    |false=>
     have:=K0 M (by omega);rw[<-OC] at this⊢;intro h;exact this (du.2 (.inr (OB.1 (by simpa using h))))
   rw[dv,if_neg X];have gj:q<(aL first).length:=(by rw[eO];exact B);rw[h2] at D kA⊢;obtain⟨c,hc⟩:∃c,((aL first)[q]'gj).2=c:=⟨_,rfl⟩;have Kt:O c<=13:=(by rw[<-hc,<-h2];exact eE q G);rw[hc] at D kA⊢
   by_cases hm:O c+1<=r
   ·rw[if_neg (by omega)]
    have hb:c++[dH l (k+O c)]<+:s:=by
     have e1:aI l k (O c+1)=c++[dH l (k+O c)]:=by
      rw[iH];congr 1;rw[h2,hc] at dO;exact dO.2
     refine⟨aI l (k+(O c+1)) (min 20 r - (O c+1)),?_⟩;rw[<-e1,<-dI,<-hs];congr 1;omega
    have K5:=xw (aL first) (!first&&bJ s bz) q gj (GD first gj).1 (by rw[hc];exact hb);rw[K5,hc,show (((k:Int)+(O c:Int)).toNat)=k+(O c) by omega,kc,OE,GF q B first]
    have K6:(aZ l (k+O c)==1)=(dH l (k+O c)==49):=by
     have:=fC l (k+O c);unfold dH
     by_cases hz:aZ l (k+O c)=0
     ·rw[hz];rfl
     ·rw[if_neg hz,show aZ l (k+O c)=1 by omega];rfl
    rw[K6]
   ·rw[if_pos (by omega)]
    have dy:O s=(O c):=(by rw[K9];omega);refine(mM (aL first) _ (λt ht C=>?_) (.inr ⟨(aL first)[q],ON gj,by rw[hc];exact du.2 (.inr D)⟩)).symm;obtain⟨j,hj,rfl⟩:=OG ht;obtain⟨cI,aJ⟩:=kU j (by rw[eO] at hj;exact hj);rcases K3 j cI (by rw[aJ];exact C) with h|h
    ·rw[aJ] at h;omega
    ·subst h;rw[hc];omega
  ·subst M
   rw[h3,OF,if_pos (by decide),h2,JT (by have:=av rfl;obtain⟨_,_,h⟩:=this;omega),if_neg X];rw[h2] at D;rw[if_pos (by simp;exact D)];rfl
  ·rw[h3,OF,if_neg (by decide),if_pos (by decide),h2]
   rw[h2] at D kA;rw[if_pos (du.2 (.inr D))];have h6:O fi=6:=rfl;rw[h6]
   by_cases hm:r<20
   ·rw[if_pos (show 8*(O l:Int)<(k:Int)+((6:Nat):Int)+14 by omega),if_pos (show (O s)<20 by omega)]
   ·have rG:min 20 r=6+(6+8):=by omega
    rw[if_neg (show ¬8*(O l:Int)<(k:Int)+((6:Nat):Int)+14 by omega),if_neg (show ¬(O s)<20 by omega)]
    have d1:cz (s.drop 12)=aB l (k+12) 8:=by
     rw[<-hs,rG,show 6+(6+8)=12+8 by omega,rI,pw]
    have d2:cz ((s.take 12).drop 6)=aB l (k+6) 6:=by
     rw[<-hs,rG,show 6+(6+8)=12+8 by omega,show (aI l k (12+8)).take 12=aI l k 12 by rw[dI,List.take_left' (bo l k 12)],show 12=6+6 by omega,rI,pw]
    have d3:aB l ((k:Int)+((6:Nat):Int)).toNat 14=aB l (k+6) 6*256+aB l (k+12) 8:=by
     rw[show ((k:Int)+((6:Nat):Int)).toNat=k+6 by omega,show 14=6+8 by omega,xE]
    have l8:=fF l (k+12) 8;rw[d1,d2,d3];have m1:(aB l (k+6) 6*256+aB l (k+12) 8) % 256=aB l (k+12) 8:=(by omega);have m2:(aB l (k+6) 6*256+aB l (k+12) 8) / 256=aB l (k+6) 6:=(by omega);rw[m1,m2]
    have hz:(aB l (k+12) 8==0||aB l (k+12) 8==128)=(i8 (aB l (k+12) 8)==0||i8 (aB l (k+12) 8)== -128):=by
     unfold i8;generalize aB l (k+12) 8=x at*;rw[OO];simp only[Bool.or_eq_true,beq_iff_eq]
     split<;>omega
    rw[hz];rfl
 ·have jg:∀(a:Nat)(K:a<(dm first).length),¬(dm first)[a]<+:s:= λa K h=>hA ⟨a,K,h.trans iP⟩
  by_cases hB:∃q,∃G:q<(dm first).length,aI l k (min 24 r)<+:(dm first)[q]
  ·obtain⟨q,G,hp⟩:=hB
   have K8:(aI l k (min 24 r)).length<(dm first)[q].length:=by
    have h1:=hp.length_le;rcases Y (aI l k (min 24 r)).length (dm first)[q].length with h|h
    ·exact h
    ·exact absurd ⟨q,G,by rw[hp.eq_of_length (by omega)];exact OJ⟩ hA
   rw[bo] at K8;have K4:=eE q G;have er:min 24 r=r:=(by omega);have C:aI l k (min 24 r)=s:=(by rw[<-hs,er,show min 20 r=r by omega]);rw[C] at hp;have hcut:oV l k (dm first)[q]:=vC (m:=r) (by rw[<-er,C];exact hp) (by omega) (by omega) (by omega);have hT:=GI (ns:=qM first) N bM q G hcut;unfold nZ;rw[hT];dsimp only;rw[if_pos (by decide)]
   cases dy:bJ s fi with
   |true=>rw[if_pos rfl,if_pos (by omega)]
   |false=>
    rw[if_neg X]
    have dv:(!first&&bz.isPrefixOf s)=false:=by
     cases M:first with
     |true=>rfl
     |false=>
      obtain⟨B,cE,_⟩:=av M;rw[<-OC];intro h;exact jg 63 B (by rw[cE];exact OB.1 (by simpa using h))
    rw[dv,if_neg X];refine(mM (aL first) _ (λt ht C=>?_) ?_).symm
    ·obtain⟨j,hj,rfl⟩:=OG ht
     obtain⟨cI,aJ⟩:=kU j (by rw[eO] at hj;exact hj);rcases du.1 C with h|h
     ·exact h.length_le
     ·exact absurd (by rw[aJ];exact h) (jg j cI)
    ·rcases tl first q G with⟨B,h2,h3⟩|⟨M,B,h2,h3⟩|⟨h2,h3⟩
     ·right
      exact⟨(aL first)[q]'(by rw[eO];exact B),ON _,du.2 (.inl (by rw[<-h2];exact hp))⟩
     ·left
      subst M;rw[h2] at hp;rw[du.2 (.inl hp)];rfl
     ·rw[h2] at hp
      rw[du.2 (.inl hp)] at dy
      cases dy
  ·have jY:∀(a:Nat)(K:a<(dm first).length),bJ s (dm first)[a]=false:= λa K=>by
    rw[<-OC];intro h;rcases du.1 h with h|h
    ·have h1:=h.length_le
     have K4:=eE a K;have er:min 24 r=min 20 r:=(by omega);exact hB ⟨a,K,by rw[er,hs];exact h⟩
    ·exact jg a K h
   have hT:ac (dm first) (qM first) l (k:Int)=(0,0,7):=by
    unfold ac;rw[if_neg h0,OE,hr];unfold jZ;rw[rR _ (λa K h=>hA ⟨a,K,h⟩)];dsimp only;rw[if_neg];intro h;obtain⟨c,hc,h2⟩:=List.any_eq_true.1 h;obtain⟨a,K,rfl⟩:=OG hc;exact hB ⟨a,K,OB.1 h2⟩
   unfold nZ
   rw[hT]
   dsimp only
   rw[if_pos (by decide)]
   have dy:bJ s fi=false:=by rw[<-fJ];exact jY e he
   rw[dy,if_neg X]
   have Hl:first=false->bJ s bz=false:= λM=>by
    obtain⟨B,cE,_⟩:=av M;rw[<-cE];exact jY 63 B
   have dv:(!first&&bz.isPrefixOf s)=false:=by
    cases M:first with
    |true=>rfl
    |false=>
     have:=Hl M;rw[<-OC] at this⊢;intro h;exact this (du.2 (.inr (OB.1 (by simpa using h))))
   have Hu:(!first&&bJ s bz)=false:=by
    cases M:first with
    |true=>rfl
    |false=>rw[Hl M];rfl
   rw[dv,if_neg X,Hu,rZ _ _ (λt ht=>?_)]
   ·rfl
   ·obtain⟨j,hj,rfl⟩:=OG ht
    obtain⟨cI,aJ⟩:=kU j (by rw[eO] at hj;exact hj);rw[<-aJ];exact jY j cI
def Cy (p:Int×Int) (first:Bool):List UInt8:=if cA p (aL false)==[] then kT p else(if first&&cA p (aL false)==[49,49] then[49] else cA p (aL false))++(if p.2<0 then[49] else[48])
theorem uX {p:Int×Int}:∀(T:List oY),cA p T=[]\/∃e∈T,cA p T=e.2
 |[]=> .inl rfl
 |(q,c)::T=>by
  unfold cA
  split
  ·exact .inr ⟨(q,c),by simp,rfl⟩
  ·rcases uX (p:=p) T with h|⟨e,he,h⟩
   ·exact .inl h
   ·exact .inr ⟨e,OI _ he,h⟩
theorem Bj (p:Int×Int)(first:Bool):Cy p first=cw p first:=by
 unfold Cy cw
 cases first with
 |false=>rfl
 |true=>
  have j:aL false=((0,1),[49,49])::(aL false).tail:=(by kernel_rfl);have B:aL true=((0,1),[49])::(aL false).tail:=(by kernel_rfl);have D:(aL false).tail.all (λe=>e.2 !=[49,49])=true:=(by kernel_rfl);rw[B];generalize (aL false).tail=T at*;rw[j];unfold cA
  split
  ·rfl
  ·rcases uX (p:=p) T with h|⟨e,he,h⟩
   ·rw[h];rfl
   ·have:=OW.1 D e he
    have C:(e.2==[49,49])=false:=(by simpa using this);rw[h,C];rfl
end Go.Proofs.YthhijgcfbjcgiaaGreatDoor
