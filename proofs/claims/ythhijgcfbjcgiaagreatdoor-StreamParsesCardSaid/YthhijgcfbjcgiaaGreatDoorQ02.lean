/- MacP, PredP, AtP, BackP, BackQ, AgainP, AgainQ, PackP, AdrP, StrP -/
import Derived.Test.YthhijgcfbjcgiaaGreatDoorQ01
import Derived.Lib.Fields
namespace Go.Proofs.YthhijgcfbjcgiaaGreatDoor
open Go Go.RowKit
open List renaming length→O,all_eq_true→V,length_append→Y,isPrefixOf_iff_prefix→J,getElem_mem→OA,prefix_iff_eq_take→OB,getElem?_eq_getElem→OD,mem_range→OE,take_length→OG,prefix_or_prefix_of_prefix→OH,mem_cons_of_mem→OI,getD→OJ,append_assoc→OL,range→OM,append_inj→ON,getElem?_eq_none→OO,mem_of_mem_drop→OP,getElem?_range→OR,map_congr_left→OS,prefix_append→OT,flatMap_cons→OW,getElem?_map→OX,length_cons→OY,map_append→OZ,mem_cons→Od
open Bool renaming and_eq_true→U,false_eq_true→Z,or_eq_true→X,not_eq_true'→OC,not_eq_true→OF,not_true→OQ,not_eq_false→OV,false_and→Oa,not_false→Ob,true_and→Oc
open Int renaming toNat_natCast→OK
open Nat renaming pow_succ→OU
def f9 (k:Int):Bool:=decide (1<=k)&&decide (k<=10)
def pI (k:Int):Bool:=decide (1<=k)&&decide (k<=2)
def pQ (k:Int):Bool:=k==2||k==4||k==7||k==10
def pV (k:Int):Bool:=decide (5<=k)&&decide (k<=10)
def pF (k:Int):Bool:=decide (8<=k)&&decide (k<=10)
def pC (k:Int):Bool:=k==3||k==4||k==6||k==7||k==9||k==10
def eI (cs:List (List UInt8)) (lo k:Int):Option (List UInt8):=if k<lo then none else cs[(k - lo).toNat]?
def gT (k:Int):List UInt8:=(eI ay 1 k).getD []
def cK (d:Int):List UInt8:=(eI ak (-16) d).getD []
def jZ (p:Int):List UInt8:=(eI bo 1 p).getD []
def aK (n:Int):Bool:=decide (-15<=n)&&decide (n<=15)
def jv (j to:Int):Int:=(to - j+80) % 32 - 16
def aY (pr d:Int):Int×Int:=
 if !aK pr||decide (d< -16)||decide (15<d) then(0,3) else
 if aK (pr+d) then(pr+d,0) else if aK (pr+d+32) then(pr+d+32,0) else if aK (pr+d - 32) then(pr+d - 32,0) else(0,12)
def Cw (ad d:Int) (had:Bool):Bool:= !had||d !=1||ad==1||ad==12||ad==23
def cH (ad d:Int) (had:Bool) (x y:Int):Int×Int:=if Cw ad d had then(0,0) else(x,y)
def bO (p:Int):Nat:=if 1<=p/\p<=63 then p.toNat / 32 % 2+p.toNat / 16 % 2+p.toNat / 8 % 2+p.toNat / 4 % 2+p.toNat / 2 % 2+p.toNat % 2 else 0
def aD (n:Nat) (m:Nat):List UInt8:=(OM m).map λj=>if n / 2 ^ (m - 1 - j) % 2=0 then 48 else 49
structure bH where
 dc:Int
 l:List (Int×Int)
structure aT where
 ad:Int
 kd:Int
 qu:Int
 x:Int
 y:Int
 pa:Int
 bl:List bH
structure bi where
 ad:Int
 had:Bool
 x:Int
 y:Int
def da:List (List UInt8):=[[49,49,32,48,49,48,48,32,48,48,49,48,49,32,48,48,48,48,49,49,48,32,48,48,49,48,48,49,49,48,32,48,48,49,48,48,48,48,49,32,48,48,48,48,48,48,49,48,49,48,32,48,48,48,48,48,48,48,49,49,49,48,49,32,48,48,48,48,48,48,48,49,49,48,48,48,32,48,48,48,48,48,48,48,49,48,48,49,49,32,48,48,48,48,48,48,48,49,48,48,48,48,32,48,48,48,48,48,48,48,48,49,49,48,49,48,32,48,48,48,48,48,48,48,48,49,49,48,48,49,32,48,48,48,48,48,48,48,48,49,49,48,48,48,32,48,48,48,48,48,48,48,48,49,48,49,49,49],[48,49,49,32,48,48,48,49,49,48,32,48,48,49,48,48,49,48,49,32,48,48,48,48,48,48,49,49,48,48,32,48,48,48,48,48,48,48,49,49,48,49,49,32,48,48,48,48,48,48,48,48,49,48,49,49,48,32,48,48,48,48,48,48,48,48,49,48,49,48,49],[48,49,48,49,32,48,48,48,48,49,48,48,32,48,48,48,48,48,48,49,48,49,49,32,48,48,48,48,48,48,48,49,48,49,48,48,32,48,48,48,48,48,48,48,48,49,48,49,48,48],[48,48,49,49,49,32,48,48,49,48,48,49,48,48,32,48,48,48,48,48,48,48,49,49,49,48,48,32,48,48,48,48,48,48,48,48,49,48,48,49,49],[48,48,49,49,48,32,48,48,48,48,48,48,49,49,49,49,32,48,48,48,48,48,48,48,49,48,48,49,48],[48,48,48,49,49,49,32,48,48,48,48,48,48,49,48,48,49,32,48,48,48,48,48,48,48,48,49,48,48,49,48],[48,48,48,49,48,49,32,48,48,48,48,48,48,48,49,49,49,49,48],[48,48,48,49,48,48,32,48,48,48,48,48,48,48,49,48,49,48,49],[48,48,48,48,49,49,49,32,48,48,48,48,48,48,48,49,48,48,48,49],[48,48,48,48,49,48,49,32,48,48,48,48,48,48,48,48,49,48,48,48,49],[48,48,49,48,48,49,49,49,32,48,48,48,48,48,48,48,48,49,48,48,48,48],[48,48,49,48,48,48,49,49],[48,48,49,48,48,48,49,48],[48,48,49,48,48,48,48,48],[48,48,48,48,48,48,49,49,49,48],[48,48,48,48,48,48,49,49,48,49],[48,48,48,48,48,48,49,48,48,48],[48,48,48,48,48,48,48,49,49,49,49,49],[48,48,48,48,48,48,48,49,49,48,49,48],[48,48,48,48,48,48,48,49,49,48,48,49],[48,48,48,48,48,48,48,49,48,49,49,49],[48,48,48,48,48,48,48,49,48,49,49,48],[48,48,48,48,48,48,48,48,49,49,49,49,49],[48,48,48,48,48,48,48,48,49,49,49,49,48],[48,48,48,48,48,48,48,48,49,49,49,48,49],[48,48,48,48,48,48,48,48,49,49,49,48,48],[48,48,48,48,48,48,48,48,49,49,48,49,49]]
def fw (first:Bool) (run:Nat):Nat->List (List UInt8)->List ((Int×Int)×List UInt8)
 |_,[]=>[]
 |i,c::cs=>(((run:Int),(i:Int)+1),if first&&run==0&&i==0 then[49] else c)::fw first run (i+1) cs
def dX (first:Bool):Nat->List (List UInt8)->List ((Int×Int)×List UInt8)
 |_,[]=>[]
 |r,x::xs=>fw first r 0 (Lib.fields x)++dX first (r+1) xs
def aQ (first:Bool):List ((Int×Int)×List UInt8):=dX first 0 da
def eh:List UInt8:=[48,48,48,48,48,49]
def bD:List UInt8:=[49,48]
def bJ (a b:List UInt8):Bool:=a.take (min (O a) (O b))==b.take (min (O a) (O b))
def bZ (s:List UInt8):List ((Int×Int)×List UInt8)->Bool->(Int×Int)×Bool×Int×Int
 |[],more=>((0,0),false,0,if more then 5 else 7)
 |(p,c)::T,more=>if !bJ s c then bZ s T more else if (O s)<=(O c) then bZ s T true else((p.1,if s.getD (O c) 0==49 then -p.2 else p.2),false,(O c:Int)+1,0)
def cB (s:List UInt8):Nat:=s.foldl (λa c=>2*a+(c.toNat - 48)) 0
def i8 (n:Nat):Int:=if n<128 then n else(n:Int) - 256
def aR (l:List UInt8) (i:Int) (first:Bool):(Int×Int)×Bool×Int×Int:=
 if i<0 then((0,0),false,0,3) else if 8*(O l:Int)<i then((0,0),false,0,5) else
 let s:=aI l i.toNat (min 20 (8*O l - i.toNat))
 if bJ s eh then
  if (O s)<20 then((0,0),false,0,5) else
  if i8 (cB (s.drop 12))==0||i8 (cB (s.drop 12))== -128 then((0,0),false,0,10) else(((cB ((s.take 12).drop 6):Nat),i8 (cB (s.drop 12))),false,20,0)
 else if !first&&bD.isPrefixOf s then((0,0),true,2,0)
 else bZ s (aQ first) (!first&&bJ s bD)
def gu (p:Int×Int):Bool:=decide (0<=p.1)&&decide (p.1<=63)&&decide (-127<=p.2)&&decide (p.2<=127)&&p.2 !=0
def eO (p:Int×Int):List ((Int×Int)×List UInt8)->List UInt8
 |[]=>[]
 |(q,c)::T=>if q.1==p.1&&(q.2==p.2||q.2== -p.2) then c else eO p T
def pl (p:Int×Int):List UInt8:=eh++aD p.1.toNat 6++aD (p.2 % 256).toNat 8
def dA (p:Int×Int) (first:Bool):List UInt8:=
 if eO p (aQ first)==[] then pl p else eO p (aQ first)++(if p.2<0 then[49] else[48])
def cI:List (Int×Int)->Int->Int
 |[],_=>0
 |p::l,at_=>if p.2==0|| !(decide (-127<=p.2)&&decide (p.2<=127)) then 10 else if decide (p.1<0)||decide (63 - at_<p.1) then 11 else cI l (at_+p.1+1)
def eB (intra:Bool):Int:=if intra then 1 else 0
def dl (x:bH) (intra:Bool):Int:=
 if intra&&(decide (x.dc<1)||decide (255<x.dc)||x.dc==128) then 10 else if !intra&&(x.dc !=0||x.l==[]) then 2 else cI x.l (eB intra)
def eA:List (Int×Int)->Bool->List UInt8
 |[],_=>[]
 |p::l,first=>dA p first++eA l false
def cP (x:bH) (intra:Bool):List UInt8:=(if intra then aD x.dc.toNat 8 else[])++eA x.l (!intra)++bD
def a8 (l:List UInt8):Nat->Int->Bool->Int->List (Int×Int)×Int×Int
 |0,_,_,_=>([],0,5)
 |f+1,i,first,left=>
  let r:=aR l i first
  if r.2.1 then([],i+r.2.2.1,0) else if r.2.2.2 !=0 then([],0,r.2.2.2) else
  if left - (r.1.1+1)<0 then([],0,11) else
  let q:=a8 l f (i+r.2.2.1) false (left - (r.1.1+1))
  (r.1::q.1,q.2.1,q.2.2)
def a9 (l:List UInt8) (i:Int) (intra:Bool):bH×Int×Int:=
 if i<0 then(⟨0,[]⟩,0,3) else if 8*(O l:Int)<i then(⟨0,[]⟩,0,5) else
 if intra then
  if 8*(O l:Int)<i+8 then(⟨0,[]⟩,0,5) else
  let n:=au l i.toNat 8
  if n==0||n==128 then(⟨0,[]⟩,0,10) else
  let q:=a8 l 66 (i+8) false 63
  if q.2.2 !=0 then(⟨0,[]⟩,0,q.2.2) else(⟨n,q.1⟩,q.2.1 - i,0)
 else
  let q:=a8 l 66 i true 64
  if q.2.2 !=0 then(⟨0,[]⟩,0,q.2.2) else(⟨0,q.1⟩,q.2.1 - i,0)
def lk (m:aT):Bool:=
 f9 m.kd&&decide (1<=m.ad)&&decide (m.ad<=33)&&aK m.x&&aK m.y&&(pV m.kd||(m.x==0&&m.y==0))&&
 (if pQ m.kd then decide (1<=m.qu)&&decide (m.qu<=31) else m.qu==0)&&
 (if pI m.kd then m.pa==63 else if pC m.kd then decide (1<=m.pa)&&decide (m.pa<=63) else m.pa==0)&&(O m.bl)==bO m.pa&&m.bl.all λx=>dl x (pI m.kd)==0
def cu (x:bi) (ad:Int):Bool:=decide (0<=x.ad)&&decide (x.ad<ad)&&aK x.x&&aK x.y&&(x.had||(x.x==0&&x.y==0))
def ed (m:aT):bi:=if pV m.kd then⟨m.ad,true,m.x,m.y⟩ else⟨m.ad,false,0,0⟩
def gV (j to:Int):List UInt8:=cK (jv j to)
def fB (m:aT) (x:bi):List UInt8:=
 let pr:=cH m.ad (m.ad - x.ad) x.had x.x x.y
 gT m.kd++(if pQ m.kd then aD m.qu.toNat 5 else[])++(if pV m.kd then gV pr.1 m.x++gV pr.2 m.y else[])++(if pC m.kd then jZ m.pa else[])++m.bl.flatMap λb=>cP b (pI m.kd)
def sQ (m:aT) (x:bi):List UInt8×Int:=if lk m&&cu x m.ad then(fB m x,0) else([],2)
def m0:aT:=⟨0,0,0,0,0,0,[]⟩
def bg (l:List UInt8) (intra:Bool):Nat->Int->List bH×Int×Int
 |0,i=>([],i,0)
 |n+1,i=>
  let r:=a9 l i intra
  if r.2.2 !=0 then([],0,r.2.2) else
  let q:=bg l intra n (i+r.2.1)
  (r.1::q.1,q.2.1,q.2.2)
def fT (l:List UInt8) (i pr:Int):Int×Int×Int:=
 let r:=ac ak ap l i
 if r.2.2 !=0 then(0,0,r.2.2) else((aY pr r.1).1,i+r.2.1,(aY pr r.1).2)
def mq (l:List UInt8) (k i:Int):Int×Int×Int:=
 if pQ k then(if 8*(O l:Int)<i+5 then(0,0,5) else if au l i.toNat 5==0 then(0,0,9) else((au l i.toNat 5:Nat),i+5,0)) else(0,i,0)
def mv (l:List UInt8) (k i x y:Int):(Int×Int)×Int×Int:=
 if pV k then
  let r:=fT l i x
  if r.2.2 !=0 then((0,0),0,r.2.2) else
  let q:=fT l r.2.1 y
  if q.2.2 !=0 then((0,0),0,q.2.2) else((r.1,q.1),q.2.1,0)
 else((0,0),i,0)
def mc (l:List UInt8) (k i:Int):Int×Int×Int:=
 if pC k then(let r:=ac bo bN l i;if r.2.2 !=0 then(0,0,r.2.2) else(r.1,i+r.2.1,0)) else(if pI k then 63 else 0,i,0)
def b9 (l:List UInt8) (i ad:Int) (x:bi):aT×Int×Int:=
 if i<0\/ad<1\/33<ad then(m0,0,3) else if !cu x ad then(m0,0,2) else
 let pr:=cH ad (ad - x.ad) x.had x.x x.y
 let k:=ac ay aG l i
 if k.2.2 !=0 then(m0,0,k.2.2) else
 let q:=mq l k.1 (i+k.2.1)
 if q.2.2 !=0 then(m0,0,q.2.2) else
 let v:=mv l k.1 q.2.1 pr.1 pr.2
 if v.2.2 !=0 then(m0,0,v.2.2) else
 let c:=mc l k.1 v.2.1
 if c.2.2 !=0 then(m0,0,c.2.2) else
 let b:=bg l (pI k.1) (bO c.1) c.2.1
 if b.2.2 !=0 then(m0,0,b.2.2) else(⟨ad,k.1,q.1,v.1.1,v.1.2,c.1,b.1⟩,b.2.1 - i,0)
def co:bi:=⟨0,false,0,0⟩
theorem jS {cs:List (List UInt8)}(h:it cs=true){i k:Nat}(j:i<O cs)(B:k<O cs)(I:cs[k]<+:cs[i]):i=k:=by
 have G:=V.1 h i (OE.2 j);have h2:=V.1 G k (OE.2 B);have C:cs.getD k []=cs[k]:=by simp[OJ,B]
 have D:cs.getD i []=cs[i]:=by simp[OJ,j]
 rw[C,D,X] at h2;rcases h2 with h2|h2
 ·exact beq_iff_eq.1 h2
 ·rw[OC,<-OF,J] at h2
  exact absurd I h2
theorem oM:O ak=32:=by kernel_rfl
theorem pw:O ay=10:=by kernel_rfl
theorem zx (j to:Int): -16<=jv j to/\jv j to<=15:=by unfold jv;omega
def At (l:List UInt8) (i:Nat) (s:List UInt8):Prop:=i+O s<=8*O l/\aI l i (O s)=s
def o0 (l:List UInt8) (i:Nat) (s:List UInt8):Prop:=i<=8*O l/\8*O l<i+O s/\aI l i (8*O l - i)=s.take (8*O l - i)
theorem dU (l:List UInt8)(i n m:Nat):aI l i (n+m)=aI l i n++aI l (i+n) m:=by
 unfold aI;rw[List.range_add,OZ,List.map_map];congr 1;apply OS;intro j _;show du l (i+(n+j))=du l (i+n+j);congr 1;omega
theorem At.app {l:List UInt8}{i:Nat}{s t:List UInt8}(h:At l i (s++t)):At l i s/\At l (i+O s) t:=by
 obtain⟨B,h2⟩:=h;rw[Y,dU] at h2;rw[Y] at B;have j:=ON h2 (by simp[bm]);exact⟨⟨by omega,j.1⟩,⟨by omega,j.2⟩⟩
theorem At.join {l:List UInt8}{i:Nat}{s t:List UInt8}(h:At l i s)(k:At l (i+O s) t):At l i (s++t):=by
 refine⟨by have:=k.1;rw[Y];omega,?_⟩;rw[Y,dU,h.2,k.2]
theorem o0.app {l:List UInt8}{i:Nat}{s t:List UInt8}(h:o0 l i (s++t)):o0 l i s\/(At l i s/\o0 l (i+O s) t):=by
 obtain⟨C,h2,j⟩:=h;rw[Y] at h2
 by_cases D:8*O l<i+O s
 ·refine .inl ⟨C,D,?_⟩
  rw[j,List.take_append_of_le_length (by omega)]
 ·obtain⟨m,G⟩:∃m,8*O l - i=O s+m:=⟨8*O l - i - O s,by omega⟩
  rw[G,dU,List.take_append,List.take_of_length_le (by omega)] at j;have B:=ON j (by simp[bm]);refine .inr ⟨⟨by omega,B.1⟩,by omega,by omega,?_⟩;have e:8*O l - (i+O s)=m:=(by omega);rw[e,B.2];congr 1;omega
theorem o0.ne {l:List UInt8}{i:Nat}(h:o0 l i []):False:=by have:=h.2.1;have:=h.1;simp at*;omega
theorem At.window {l:List UInt8}{i:Nat}{s:List UInt8}(h:At l i s)(n:Nat)(B:O s<=n):s<+:aI l i (min n (8*O l - i)):=by
 obtain⟨m,j⟩:∃m,min n (8*O l - i)=O s+m:=⟨min n (8*O l - i) - O s,by have:=h.1;omega⟩;rw[j,dU,h.2];exact⟨_,rfl⟩
theorem o0.window {l:List UInt8}{i:Nat}{s:List UInt8}(h:o0 l i s)(n:Nat)(B:O s<=n):aI l i (min n (8*O l - i))=s.take (8*O l - i)/\8*O l - i<(O s):=by
 have j:=h.1;have h2:=h.2.1;have e:min n (8*O l - i)=8*O l - i:=by omega
 rw[e];exact⟨h.2.2,by omega⟩
theorem FY {cs:List (List UInt8)}:∀{ns:List Int}(s:List UInt8)(k:Nat)(j:k<O cs),O cs=O ns->cs[k]<+:s->(∀i (C:i<O cs),cs[i]<+:s->i=k)->bK s cs ns=some ((ns[k]?).getD 0,(cs[k].length:Int)):=by
 induction cs with
 |nil=>intro ns s k j;simp at j
 |cons c cs ih=>
  intro ns s k j hl D G
  cases ns with
  |nil=>simp at hl
  |cons n ns=>
   rw[bK]
   cases k with
   |zero=>
    have B:c.isPrefixOf s=true:=J.2 D;simp[B]
   |succ k=>
    have B:c.isPrefixOf s=false:=by
     rw[<-OF,J];intro h2;have:=G 0 (by simp) h2;omega
    rw[B]
    have I:=ih (ns:=ns) s k (by simpa using j) (by simpa using hl) (by simpa using D) (λi C h2=>by
     have:=G (i+1) (by simpa using C) (by simpa using h2);omega)
    simpa using I
theorem sD {cs:List (List UInt8)}:∀{ns:List Int}(s:List UInt8),(∀i (B:i<O cs),¬cs[i]<+:s)->bK s cs ns=none:=by
 induction cs with
 |nil=>intro ns s _;rw[bK.eq_def]
 |cons c cs ih=>
  intro ns s C
  cases ns with
  |nil=>rw[bK.eq_def]
  |cons n ns=>
   rw[bK]
   have D:c.isPrefixOf s=false:=by
    rw[<-OF,J];exact C 0 (by simp)
   rw[D]
   have G:=ih (ns:=ns) s (λi B=>by
    have j:=C (i+1) (by simpa using B);rw[List.getElem_cons_succ] at j;exact j)
   simpa using G
theorem nz {cs:List (List UInt8)}(j:cs.all cS=true)(k:Nat)(B:k<O cs):1<=cs[k].length/\cs[k].length<=24:=by
 have:=V.1 j _ (OA B);simp only[cS,U,decide_eq_true_eq] at this;exact⟨this.1.2,this.2⟩
theorem I4 {cs:List (List UInt8)}{ns:List Int}(D:it cs=true)(K:cs.all cS=true)(hl:O cs=O ns)(k:Nat)(B:k<O cs){l:List UInt8}{i:Nat}(h:At l i cs[k]):ac cs ns l i=((ns[k]?).getD 0,(cs[k].length:Int),0):=by
 have I:=h.window 24 (nz K k B).2;unfold ac;rw[if_neg (by omega),OK];unfold gQ
 rw[FY _ k B hl I (λj G M=>by
  rcases OH M I with C|C
  ·exact(jS D B G C).symm
  ·exact jS D G B C)]
theorem G2 {cs:List (List UInt8)}{ns:List Int}(N:it cs=true)(M:cs.all cS=true)(k:Nat)(C:k<O cs){l:List UInt8}{i:Nat}(h:o0 l i cs[k]):ac cs ns l i=(0,0,5):=by
 have D:=h.window 24 (nz M k C).2;unfold ac;rw[if_neg (by omega),OK];unfold gQ;have G:aI l i (min 24 (8*O l - i))<+:cs[k]:=by rw[D.1];exact List.take_prefix _ _
 have aB:(aI l i (min 24 (8*O l - i))).length<cs[k].length:=by rw[D.1,List.length_take];have:=D.2;omega
 rw[sD _ (λj T B=>by
  have I:=jS N C T (B.trans G);subst I;have:=B.length_le;omega)]
 have K:cs.any (λc=>(aI l i (min 24 (8*O l - i))).isPrefixOf c)=true:=List.any_eq_true.2 ⟨cs[k],OA C,J.2 G⟩;simp only[K,if_true]
theorem cf (n m:Nat):(aD n m).length=m:=by simp[aD]
theorem vg (l:List UInt8):∀(m i n:Nat),aI l i m=aD n m->n<2 ^ m->au l i m=n
 |0,i,n,_,h=>by simp[au];simp at h;omega
 |m+1,i,n,he,h=>by
  have I:aD n (m+1)=aD (n / 2) m++[if n % 2=0 then 48 else 49]:=by
   unfold aD;rw[List.range_succ,OZ];congr 1
   ·apply OS
    intro j G;have G:=OE.1 G;have e:m+1 - 1 - j=(m - 1 - j)+1:=(by omega);rw[e,OU,Nat.mul_comm,<-Nat.div_div_eq_div_mul]
   ·simp
  rw[gP,I] at he;have h2:=ON he (by rw[bm,cf]);have K:=vg l m i (n / 2) h2.1 (by rw[OU] at h;omega);rw[au,K];have B:du l (i+m)=if n % 2=0 then 48 else 49:=by simpa using h2.2
  have M:=eQ l (i+m);unfold du at B
  have N:(aS l (i+m)=0)↔(n % 2=0):=by
   constructor
   ·intro C;by_cases D:n % 2=0
    ·exact D
    ·rw[if_pos C,if_neg D] at B;cases B
   ·intro D;by_cases C:aS l (i+m)=0
    ·exact C
    ·rw[if_neg C,if_pos D] at B;cases B
  omega
theorem mK {s c:List UInt8}{p:Int×Int}{T:List ((Int×Int)×List UInt8)}{more:Bool}(h:bJ s c=false):bZ s ((p,c)::T) more=bZ s T more:=by
 show (if !bJ s c then _ else _)=_;rw[h];rfl
theorem pB {s c:List UInt8}{p:Int×Int}{T:List ((Int×Int)×List UInt8)}{more:Bool}(h:bJ s c=true)(hl:O s<=O c):bZ s ((p,c)::T) more=bZ s T true:=by
 show (if !bJ s c then _ else if (O s)<=(O c) then _ else _)=_;rw[h,if_neg (by decide),if_pos hl]
theorem sK {s c:List UInt8}{p:Int×Int}{T:List ((Int×Int)×List UInt8)}{more:Bool}(h:bJ s c=true)(hl:¬(O s)<=O c):bZ s ((p,c)::T) more=((p.1,if s.getD (O c) 0==49 then -p.2 else p.2),false,(O c:Int)+1,0):=by
 show (if !bJ s c then _ else if (O s)<=(O c) then _ else _)=_;rw[h,if_neg (by decide),if_neg hl]
theorem sS (s:List UInt8)(c:UInt8):cB (s++[c])=2*cB s+(c.toNat - 48):=by unfold cB;rw[List.foldl_append];rfl
theorem dC {a b:List UInt8}:bJ a b=true↔(a<+:b\/b<+:a):=by
 unfold bJ;rw[beq_iff_eq];rcases Nat.le_total (O a) (O b) with h|h
 ·rw[Nat.min_eq_left h,OG]
  constructor
  ·exact λe=> .inl (OB.2 e)
  ·rintro(h2|h2)
   ·exact OB.1 h2
   ·have e:=h2.eq_of_length (by have:=h2.length_le;omega)
    rw[e,OG]
 ·rw[Nat.min_eq_right h,OG]
  constructor
  ·exact λe=> .inr (OB.2 e.symm)
  ·rintro(h2|h2)
   ·have e:=h2.eq_of_length (by have:=h2.length_le;omega)
    rw[e,OG]
   ·exact(OB.1 h2).symm
abbrev ro:Type:=(Int×Int)×List UInt8
theorem xR {s:List UInt8}{b:UInt8}:∀(T:List ro)(more:Bool)(k:Nat)(C:k<O T),(∀j (I:j<O T),(T[j].2<+:T[k].2\/T[k].2<+:T[j].2)->j=k)->T[k].2++[b]<+:s->
  bZ s T more=((T[k].1.1,if b==49 then -T[k].1.2 else T[k].1.2),false,(T[k].2.length:Int)+1,0)
 |[],_,k,C,_,_=>by simp at C
 |(p,c)::T,more,0,C,hf,B=>by
  have B:c++[b]<+:s:=B;have D:c<+:s:=(OT c [b]).trans B;have h2:O c+1<=(O s):=(by have:=B.length_le;simpa using this);rw[sK (dC.2 (.inr D)) (by omega)];obtain⟨t,rfl⟩:=B;have e:((c++[b])++t).getD (O c) 0=b:=(by simp[OJ]);rw[e];rfl
 |(p,c)::T,more,k+1,C,hf,B=>by
  have G:k<(O T):=(by simpa using C);have B:T[k].2++[b]<+:s:=B;have D:T[k].2<+:s:=(OT _ [b]).trans B
  have M:bJ s c=false:=by
   rw[<-OF,dC];intro h
   have K:c<+:T[k].2\/T[k].2<+:c:=by
    rcases h with h|h
    ·exact .inr (D.trans h)
    ·exact OH h D
   have:=hf 0 (by simp) K;omega
  rw[mK M];exact xR T more k G (λj I h=>by have:=hf (j+1) (by simpa using I) h;omega) B
theorem mJ {s:List UInt8}:∀(T:List ro)(more:Bool),(∀e∈T,bJ s e.2=true->O s<=e.2.length)->(more=true\/∃e∈T,bJ s e.2=true)->bZ s T more=((0,0),false,0,5)
 |[],more,_,h=>by
  rcases h with rfl|⟨e,he,_⟩
  ·rfl
  ·simp at he
 |(p,c)::T,more,ha,h=>by
  cases j:bJ s c with
  |true=>
   rw[pB j (ha (p,c) (by simp) j)];exact mJ T true (λe he=>ha e (OI _ he)) (.inl rfl)
  |false=>
   rw[mK j];refine mJ T more (λe he=>ha e (OI _ he)) ?_;rcases h with h|⟨e,he,h2⟩
   ·exact .inl h
   ·rcases Od.1 he with rfl|he
    ·rw[j] at h2;cases h2
    ·exact .inr ⟨e,he,h2⟩
theorem zq:it (eh::bD::(aQ false).map (·.2))=true:=by kernel_rfl
theorem zp:it (eh::(aQ true).map (·.2))=true:=by kernel_rfl
theorem BI (first:Bool):(aQ first).all (λe=>decide (0<e.1.2)&&decide (1<=e.2.length)&&decide (e.2.length<=19))=true:=by cases first<;>kernel_rfl
theorem GX (first:Bool){k:Nat}(M:k<(aQ first).length):(∀j (D:j<(aQ first).length),((aQ first)[j].2<+:(aQ first)[k].2\/(aQ first)[k].2<+:(aQ first)[j].2)->j=k)/\
  ¬(eh<+:(aQ first)[k].2)/\¬((aQ first)[k].2<+:eh)/\(first=false->¬(bD<+:(aQ first)[k].2)/\¬((aQ first)[k].2<+:bD)):=by
 cases first with
 |true=>
  have h:= @jS _ zp;have e:∀j (D:j<(aQ true).length),∃K:j+1<(eh::(aQ true).map (·.2)).length,(eh::(aQ true).map (·.2))[j+1]=(aQ true)[j].2:= λj D=>⟨by simp[D],by simp⟩;obtain⟨B,C⟩:=e k M;refine⟨λj D h2=>?_,λh2=>?_,λh2=>?_,λh=>by cases h⟩
  ·obtain⟨G,I⟩:=e j D
   rcases h2 with h2|h2
   ·have:=h B G (by rw[I,C];exact h2);omega
   ·have:=h G B (by rw[I,C];exact h2);omega
  ·have:=h (i:=k+1) (k:=0) B (by simp) (by rw[C];exact h2);omega
  ·have:=h (i:=0) (k:=k+1) (by simp) B (by rw[C];exact h2);omega
 |false=>
  have h:= @jS _ zq;have e:∀j (D:j<(aQ false).length),∃K:j+2<(eh::bD::(aQ false).map (·.2)).length,(eh::bD::(aQ false).map (·.2))[j+2]=(aQ false)[j].2:= λj D=>⟨by simp[D],by simp⟩;obtain⟨B,C⟩:=e k M;refine⟨λj D h2=>?_,λh2=>?_,λh2=>?_,λ_=>⟨λh2=>?_,λh2=>?_⟩⟩
  ·obtain⟨G,I⟩:=e j D
   rcases h2 with h2|h2
   ·have:=h B G (by rw[I,C];exact h2);omega
   ·have:=h G B (by rw[I,C];exact h2);omega
  ·have:=h (i:=k+2) (k:=0) B (by simp) (by rw[C];exact h2);omega
  ·have:=h (i:=0) (k:=k+2) (by simp) B (by rw[C];exact h2);omega
  ·have:=h (i:=k+2) (k:=1) B (by simp) (by rw[C];exact h2);omega
  ·have:=h (i:=1) (k:=k+2) (by simp) B (by rw[C];exact h2);omega
theorem mS {p:Int×Int}:∀(T:List ro),eO p T≠[]->∃k,∃B:k<O T,eO p T=T[k].2/\T[k].1.1=p.1/\(T[k].1.2=p.2\/T[k].1.2= -p.2)
 |[],h=>absurd rfl h
 |(q,c)::T,h=>by
  unfold eO at h⊢
  split
  ·rename_i j
   simp only[U,X,beq_iff_eq] at j;exact⟨0,by simp,rfl,j.1,j.2⟩
  ·rename_i j
   rw[if_neg j] at h;obtain⟨k,B,C,h2⟩:=mS T h;exact⟨k+1,by simpa using B,C,h2⟩
theorem rJ {p:Int×Int}(h:gu p=true):0<=p.1/\p.1<=63/\ -127<=p.2/\p.2<=127/\p.2≠0:=by
 unfold gu at h;simp only[U,decide_eq_true_eq,bne_iff_ne] at h;exact⟨h.1.1.1.1,h.1.1.1.2,h.1.1.2,h.1.2,h.2⟩
theorem FW (p:Int×Int):(pl p).length=20:=by unfold pl;simp[cf];rfl
theorem zn (l:List UInt8)(f:Nat)(i:Int)(first:Bool)(left:Int):a8 l (f+1) i first left=(if (aR l i first).2.1 then([],i+(aR l i first).2.2.1,0) else if (aR l i first).2.2.2 !=0 then([],0,(aR l i first).2.2.2) else
   if left - ((aR l i first).1.1+1)<0 then([],0,11) else
   ((aR l i first).1::(a8 l f (i+(aR l i first).2.2.1) false (left - ((aR l i first).1.1+1))).1,(a8 l f (i+(aR l i first).2.2.1) false (left - ((aR l i first).1.1+1))).2.1,(a8 l f (i+(aR l i first).2.2.1) false (left - ((aR l i first).1.1+1))).2.2)):=rfl
theorem yE {p:Int×Int}{L:List (Int×Int)}{a:Int}(B:0<=a)(h:cI (p::L) a=0):gu p=true/\p.1<=63 - a/\cI L (a+p.1+1)=0:=by
 unfold cI at h
 split at h
 ·cases h
 ·rename_i j
  split at h
  ·cases h
  ·rename_i h2
   simp only[X,beq_iff_eq,OC,not_or,OV,U,decide_eq_true_eq,Int.not_lt] at j h2;refine⟨?_,by omega,h⟩;unfold gu;simp only[U,decide_eq_true_eq,bne_iff_ne];exact⟨⟨⟨⟨h2.1,by omega⟩,j.2.1⟩,j.2.2⟩,j.1⟩
theorem tg:∀(L:List (Int×Int)){a:Int},0<=a->a<=64->cI L a=0->(O L:Int)<=64 - a
 |[],a,h0,h1,_=>by simp;omega
 |p::L,a,h0,h1,h=>by
  obtain⟨h2,B,j⟩:=yE h0 h;have C:=(rJ h2).1;have D:=tg L (by omega) (by omega) j;rw[OY];omega
def mQ (m:aT):List UInt8:=if pQ m.kd then aD m.qu.toNat 5 else[]
def mV (m:aT) (a b:Int):List UInt8:=if pV m.kd then gV a m.x++gV b m.y else[]
def mC (m:aT):List UInt8:=if pC m.kd then jZ m.pa else[]
def mB (m:aT):List UInt8:=m.bl.flatMap λb=>cP b (pI m.kd)
theorem nh (m:aT)(x:bi):fB m x=gT m.kd++(mQ m++(mV m (cH m.ad (m.ad - x.ad) x.had x.x x.y).1 (cH m.ad (m.ad - x.ad) x.had x.x x.y).2++(mC m++mB m))):=by
 unfold fB mQ mV mC mB;simp only[OL]
structure AL (m:aT):Prop where
 kd:f9 m.kd=true
 a1:1<=m.ad
 a2:m.ad<=33
 px:aK m.x=true
 py:aK m.y=true
 pv:pV m.kd=false->m.x=0/\m.y=0
 q1:pQ m.kd=true->1<=m.qu/\m.qu<=31
 q0:pQ m.kd=false->m.qu=0
 i1:pI m.kd=true->m.pa=63
 c1:pI m.kd=false->pC m.kd=true->1<=m.pa/\m.pa<=63
 c0:pI m.kd=false->pC m.kd=false->m.pa=0
 len:O m.bl=bO m.pa
 bl:∀b∈m.bl,dl b (pI m.kd)=0
theorem jY (m:aT):lk m=true↔AL m:=by
 unfold lk;simp only[U,X,decide_eq_true_eq,beq_iff_eq,V];constructor
 ·rintro⟨⟨⟨⟨⟨⟨⟨⟨⟨a,b⟩,c⟩,d⟩,e⟩,f⟩,g⟩,h⟩,i⟩,j⟩
  refine⟨a,b,c,d,e,λB=>?_,λB=>?_,λB=>?_,λB=>?_,λB C=>?_,λB C=>?_,i,j⟩
  ·rcases f with f|f
   ·rw[B] at f;cases f
   ·exact f
  ·rw[B] at g;simpa using g
  ·rw[B] at g;simpa using g
  ·rw[B] at h;simpa using h
  ·rw[B,C] at h;simpa using h
  ·rw[B,C] at h;simpa using h
 ·rintro⟨a,b,c,d,e,f,g,g',h,C,h2,i,j⟩
  refine⟨⟨⟨⟨⟨⟨⟨⟨⟨a,b⟩,c⟩,d⟩,e⟩,?_⟩,?_⟩,?_⟩,i⟩,j⟩
  ·cases K:pV m.kd with
   |true=>exact .inl rfl
   |false=>exact .inr (f K)
  ·cases I:pQ m.kd with
   |true=>simpa using g I
   |false=>simpa using g' I
  ·cases D:pI m.kd with
   |true=>simpa using h D
   |false=>
    cases G:pC m.kd with
    |true=>simpa using C D G
    |false=>simpa using h2 D G
theorem Kq {k:Int}(h:pC k=true):pI k=false:=by
 unfold pC at h;unfold pI;simp only[X,beq_iff_eq] at h;rcases h with((((h|h)|h)|h)|h)|h<;>subst h<;>rfl
theorem vq {x:bi}{ad:Int}(h:cu x ad=true):aK (cH ad (ad - x.ad) x.had x.x x.y).1=true/\aK (cH ad (ad - x.ad) x.had x.x x.y).2=true:=by
 unfold cu at h;simp only[U] at h;unfold cH
 split
 ·exact⟨rfl,rfl⟩
 ·exact⟨h.1.1.2,h.1.2⟩
theorem rD {s:List UInt8}:∀(T:List ro)(more:Bool),(bZ s T more).2.2.2=0->∃k,∃j:k<O T,((bZ s T more).1=(T[k].1.1,T[k].1.2)\/(bZ s T more).1=(T[k].1.1, -T[k].1.2))/\(bZ s T more).2.1=false/\(bZ s T more).2.2.1=(T[k].2.length:Int)+1/\T[k].2.length+1<=O s
 |[],more,h=>by
  have e:(bZ s [] more).2.2.2=if more then 5 else 7:=rfl
  rw[e] at h
  cases more<;>cases h
 |(p,c)::T,more,h=>by
  cases C:bJ s c with
  |false=>
   rw[mK C] at h⊢;obtain⟨k,j,B⟩:=rD T more h;exact⟨k+1,by simpa using j,B⟩
  |true=>
   by_cases hl:O s<=O c
   ·rw[pB C hl] at h⊢
    obtain⟨k,j,B⟩:=rD T true h;exact⟨k+1,by simpa using j,B⟩
   ·rw[sK C hl]
    refine⟨0,by simp,?_,rfl,rfl,by show (O c)+1<=_;omega⟩;dsimp only
    split
    ·exact .inr rfl
    ·exact .inl rfl
theorem GY (first:Bool):(OM (aQ first).length).all (λi=>(OM (aQ first).length).all λk=>i==k||((aQ first).getD i ((0,0),[])).1 !=((aQ first).getD k ((0,0),[])).1)=true:=by cases first<;>kernel_rfl
theorem I1 {first:Bool}{i k:Nat}(B:i<(aQ first).length)(C:k<(aQ first).length)(h:(aQ first)[i].1=(aQ first)[k].1):i=k:=by
 have j:=V.1 (V.1 (GY first) i (OE.2 B)) k (OE.2 C);have D:(aQ first).getD i ((0,0),[])=(aQ first)[i]:=by simp[OJ,B]
 have G:(aQ first).getD k ((0,0),[])=(aQ first)[k]:=by simp[OJ,C]
 rw[D,G,X] at j;rcases j with j|j
 ·exact beq_iff_eq.1 j
 ·rw[bne_iff_ne] at j;exact absurd h j
theorem mW (first:Bool):(aQ first).all (λx=>decide (0<=x.1.1)&&decide (x.1.1<=63)&&decide (1<=x.1.2)&&decide (x.1.2<=127))=true:=by cases first<;>kernel_rfl
theorem yA (v:Int):(if v<0 then[(49:UInt8)] else[48]).length=1:=by split<;>rfl
theorem AZ (p:Int×Int)(first:Bool):(dA p first).length<=20:=by
 unfold dA
 split
 ·rw[FW];exact Nat.le_refl _
 ·rename_i D
  obtain⟨k,C,B,h2,G⟩:=mS _ (by simpa using D);have j:=V.1 (BI first) _ (OA C);simp only[U,decide_eq_true_eq] at j;rw[B,Y,yA];omega
theorem ra {p:Int×Int}:∀(T:List ro),(∀e∈T,1<=e.2.length)->∀k (j:k<O T),T[k].1.1=p.1->(T[k].1.2=p.2\/T[k].1.2= -p.2)->eO p T≠[]
 |[],_,k,j,_,_=>by simp at j
 |(q,c)::T,ha,k,j,h1,h2=>by
  unfold eO
  split
  ·have:=ha (q,c) (by simp)
   intro h;rw[h] at this;simp at this
  ·rename_i B
   cases k with
   |zero=>exact absurd (by simp only[U,X,beq_iff_eq];exact⟨h1,h2⟩) B
   |succ k=>exact ra T (λe he=>ha e (OI _ he)) k (by simpa using j) h1 h2
theorem FS {first:Bool}{p:Int×Int}{k:Nat}(D:k<(aQ first).length)(K:(aQ first)[k].1.1=p.1)(h2:(aQ first)[k].1.2=p.2\/(aQ first)[k].1.2= -p.2):(dA p first).length=(aQ first)[k].2.length+1:=by
 have B:=ra (aQ first) (λe he=>by have C:=V.1 (BI first) _ he;simp only[U,decide_eq_true_eq] at C;omega) k D K h2;obtain⟨j,G,I,T,e3⟩:=mS _ B;have M:=V.1 (mW first) _ (OA G);have N:=V.1 (mW first) _ (OA D);simp only[U,decide_eq_true_eq] at M N;have:j=k:=I1 G D (Prod.ext (by omega) (by omega));subst this;unfold dA;rw[if_neg (by simpa using B),I,Y,yA]
theorem xV:∀(s:List UInt8)(n:Nat),O s=n->(∀c∈s,c=48\/c=49)->cB s<2 ^ n:=by
 intro s n
 induction n generalizing s with
 |zero=>intro B _;rw[List.length_eq_zero_iff.1 B];decide
 |succ n ih=>
  intro B h;have j:s≠[]:=(by intro e;rw[e] at B;cases B);have e:=List.dropLast_concat_getLast j;rw[<-e,sS];have D:=ih s.dropLast (by rw[List.length_dropLast,B];rfl) (λc C=>h c (List.dropLast_subset s C))
  have h2:(s.getLast j).toNat - 48<=1:=by
   rcases h _ (List.getLast_mem j) with h|h<;>rw[h]<;>decide
  rw[OU];omega
theorem FR {l:List UInt8}{i:Int}{first:Bool}(h0:0<=i)(h1:i<=8*(O l:Int))(he:(aR l i first).2.2.2=0):
  i+(aR l i first).2.2.1<=8*(O l:Int)/\((aR l i first).2.1=true/\first=false/\(aR l i first).2.2.1=2\/(aR l i first).2.1=false/\gu (aR l i first).1=true/\((dA (aR l i first).1 first).length:Int)<=(aR l i first).2.2.1):=by
 unfold aR at he⊢;rw[if_neg (by omega),if_neg (by omega)] at he⊢;dsimp only at he⊢;have B:(aI l i.toNat (min 20 (8*O l - i.toNat))).length<=8*O l - i.toNat:=by rw[bm];omega
 have I:(aI l i.toNat (min 20 (8*O l - i.toNat))).length<=20:=by rw[bm];omega
 have C:=lZ l i.toNat (min 20 (8*O l - i.toNat));generalize aI l i.toNat (min 20 (8*O l - i.toNat))=s at B C I he⊢;generalize hm:8*O l - i.toNat=mm at B
 split at he
 ·rename_i h2
  rw[if_pos h2]
  split at he
  ·cases he
  ·rename_i j
   rw[if_neg j]
   split at he
   ·cases he
   ·rename_i G
    rw[if_neg G];dsimp only;have T:=xV ((s.take 12).drop 6) 6 (by simp;omega) (λc K=>C c (List.mem_of_mem_take (OP K)));have h8:=xV (s.drop 12) 8 (by simp;omega) (λc K=>C c (OP K));simp only[X,beq_iff_eq,not_or] at G;refine⟨by omega,.inr ⟨rfl,?_,?_⟩⟩
    ·unfold gu
     simp only[U,decide_eq_true_eq,bne_iff_ne];have hb:∀n:Nat,n<256->i8 n≠0->i8 n≠ -128-> -127<=i8 n/\i8 n<=127/\i8 n≠0:= λn hn a b=>by unfold i8 at*;split at* <;>omega
     have:=hb _ (by omega) G.1 G.2;generalize cB ((s.take 12).drop 6)=a at T;refine⟨⟨⟨⟨by omega,by omega⟩,this.1⟩,this.2.1⟩,this.2.2⟩
    ·have:=AZ (((cB ((s.take 12).drop 6):Nat):Int),i8 (cB (s.drop 12))) first
     omega
 ·rename_i h2
  rw[if_neg h2]
  split at he
  ·rename_i j
   rw[if_pos j];simp only[U,OC] at j;have G:=(J.1 j.2).length_le;have e:O bD=2:=rfl;exact⟨by show i+2<=_;omega,.inl ⟨rfl,j.1,rfl⟩⟩
  ·rename_i j
   rw[if_neg j];obtain⟨k,M,D,k2,k3,k4⟩:=rD _ _ he;have r2:=V.1 (mW first) _ (OA M);simp only[U,decide_eq_true_eq] at r2
   have hp:∃p,(bZ s (aQ first) (!first&&bJ s bD)).1=p/\(aQ first)[k].1.1=p.1/\((aQ first)[k].1.2=p.2\/(aQ first)[k].1.2= -p.2):=by
    rcases D with D|D
    ·exact⟨_,rfl,by rw[D],.inl (by rw[D])⟩
    ·exact⟨_,rfl,by rw[D],.inr (by rw[D];simp)⟩
   obtain⟨p,N,p1,p2⟩:=hp;rw[k2,k3,N];refine⟨by omega,.inr ⟨rfl,?_,?_⟩⟩
   ·unfold gu
    simp only[U,decide_eq_true_eq,bne_iff_ne];refine⟨⟨⟨⟨by omega,by omega⟩,by omega⟩,by omega⟩,by omega⟩
   ·rw[FS M p1 p2]
    omega
theorem Dx {p:Int×Int}{L:List (Int×Int)}{a:Int}(h:gu p=true)(j:p.1<=63 - a)(h2:cI L (a+p.1+1)=0):cI (p::L) a=0:=by
 obtain⟨p0,p1,B,C,D⟩:=rJ h;unfold cI;rw[if_neg,if_neg,h2]
 ·simp only[X,decide_eq_true_eq];omega
 ·simp only[X,beq_iff_eq,OC,Bool.and_eq_false_iff,decide_eq_false_iff_not];omega
theorem nW {l:List UInt8}:∀(f:Nat)(i:Int)(first:Bool)(a:Int),0<=i->i<=8*(O l:Int)->0<=a->(a8 l f i first (64 - a)).2.2=0->
  cI (a8 l f i first (64 - a)).1 a=0/\(first=true->(a8 l f i first (64 - a)).1≠[])/\i+((eA (a8 l f i first (64 - a)).1 first++bD).length:Int)<=(a8 l f i first (64 - a)).2.1/\(a8 l f i first (64 - a)).2.1<=8*(O l:Int)
 |0,i,first,a,_,_,_,h=>by cases h
 |f+1,i,first,a,h0,h1,ha,h=>by
  rw[zn] at h⊢
  by_cases he:(aR l i first).2.2.2=0
  ·obtain⟨D,I⟩:=FR h0 h1 he
   rcases I with⟨B,j,C⟩|⟨B,j,C⟩
   ·rw[if_pos B] at h⊢
    subst j;dsimp only;rw[C] at D⊢;exact⟨rfl,(λh=>by cases h),(by show i+((O bD:Nat):Int)<=i+2;have e:O bD=2:=rfl;omega),D⟩
   ·rw[if_neg (by rw[B];decide),if_neg (by rw[he];decide)] at h⊢
    split at h
    ·cases h
    ·rename_i hl
     rw[if_neg hl];dsimp only at h⊢;have hp:=rJ j;have e:(64:Int) - a - ((aR l i first).1.1+1)=64 - (a+(aR l i first).1.1+1):=(by omega);rw[e] at h⊢;have G:(0:Int)<=((dA (aR l i first).1 first).length:Int):=(by omega);obtain⟨i1,i2,i3,M⟩:=nW f (i+(aR l i first).2.2.1) false (a+(aR l i first).1.1+1) (by omega) (by omega) (by omega) h;refine⟨Dx j (by omega) i1,(λ_ h=>by cases h),?_,M⟩;rw[eA,OL,Y]
     push_cast
     omega
  ·exfalso
   by_cases h2:(aR l i first).2.1=true
   ·have:(aR l i first).2.2.2=0:=by
     unfold aR at h2⊢;rw[if_neg (by omega),if_neg (by omega)] at h2⊢;dsimp only at h2⊢
     split at h2
     ·split at h2
      ·cases h2
      ·split at h2<;>cases h2
     ·rename_i q1
      split at h2
      ·rename_i N;rw[if_neg q1,if_pos N]
      ·exfalso
       have K:∀(T:List ro)(more:Bool)(s:List UInt8),(bZ s T more).2.1=false:= λT=>by
        induction T with
        |nil=>intro more s;rfl
        |cons e T ih=>
         intro more s;show (if !bJ s e.2 then bZ s T more else if (O s)<=e.2.length then bZ s T true else _).2.1=false
         split
         ·exact ih _ _
         ·split
          ·exact ih _ _
          ·rfl
       rw[K] at h2
       cases h2
    exact he this
   ·rw[if_neg h2,if_pos (by simpa using he)] at h
    exact he h
theorem FH {l:List UInt8}{i:Int}{intra:Bool}(T:0<=i)(h1:i<=8*(O l:Int))(he:(a9 l i intra).2.2=0):
  dl (a9 l i intra).1 intra=0/\((cP (a9 l i intra).1 intra).length:Int)<=(a9 l i intra).2.1/\i+(a9 l i intra).2.1<=8*(O l:Int):=by
 unfold a9 at he⊢;rw[if_neg (by omega),if_neg (by omega)] at he⊢
 cases intra with
 |true=>
  simp only[if_true] at he⊢
  split at he
  ·cases he
  ·rename_i K
   rw[if_neg K]
   split at he
   ·cases he
   ·rename_i D
    rw[if_neg D];have M:au l i.toNat 8<256:=cW l i.toNat 8;simp only[X,beq_iff_eq,not_or] at D
    by_cases j:(a8 l 66 (i+8) false 63).2.2=0
    ·rw[j,if_neg (by decide)]
     have B:(63:Int)=64 - 1:=(by decide);rw[B] at j⊢;obtain⟨i1,G,I,N⟩:=nW 66 (i+8) false 1 (by omega) (by omega) (by decide) j;dsimp only;refine⟨?_,?_,by omega⟩
     ·unfold dl
      rw[if_neg,if_neg (by rw[OQ,Oa];decide)]
      ·exact i1
      ·simp only[Oc,X,decide_eq_true_eq,beq_iff_eq];omega
     ·unfold cP
      simp only[if_true,OQ];rw[OL,Y,cf];rw[show (64:Int) - 1=63 from rfl] at I⊢
      push_cast
      omega
    ·rw[if_pos (by simpa using j)] at he
     exact absurd he j
 |false=>
  simp only[Z,if_false] at he⊢
  by_cases j:(a8 l 66 i true 64).2.2=0
  ·rw[j,if_neg (by decide)]
   have C:(64:Int)=64 - 0:=(by decide);rw[C] at j⊢;obtain⟨i1,G,I,N⟩:=nW 66 i true 0 (by omega) (by omega) (by decide) j;dsimp only;refine⟨?_,?_,by omega⟩
   ·unfold dl
    rw[if_neg (by rw[Oa];decide),if_neg]
    ·exact i1
    ·simp only[Ob,Oc,X,bne_iff_ne,beq_iff_eq]
     rintro(h|h)
     ·exact h rfl
     ·exact G rfl h
   ·unfold cP
    simp only[Z,if_false,Ob,List.nil_append];omega
  ·rw[if_pos (by simpa using j)] at he
   exact absurd he j
theorem uz {l:List UInt8}{intra:Bool}:∀(k:Nat)(i:Int),0<=i->i<=8*(O l:Int)->(bg l intra k i).2.2=0->
  (bg l intra k i).1.length=k/\(∀b∈(bg l intra k i).1,dl b intra=0)/\i+(((bg l intra k i).1.flatMap λb=>cP b intra).length:Int)<=(bg l intra k i).2.1/\(bg l intra k i).2.1<=8*(O l:Int)
 |0,i,h0,h1,_=>by simp[bg];omega
 |k+1,i,h0,h1,h=>by
  have C:bg l intra (k+1) i=(if (a9 l i intra).2.2 !=0 then([],0,(a9 l i intra).2.2) else((a9 l i intra).1::(bg l intra k (i+(a9 l i intra).2.1)).1,(bg l intra k (i+(a9 l i intra).2.1)).2.1,(bg l intra k (i+(a9 l i intra).2.1)).2.2)):=rfl;rw[C] at h⊢
  by_cases he:(a9 l i intra).2.2=0
  ·rw[if_neg (by rw[he];decide)] at h⊢
   obtain⟨B,I,K⟩:=FH h0 h1 he;obtain⟨i1,D,M,G⟩:=uz k (i+(a9 l i intra).2.1) (by omega) (by omega) h;refine⟨by rw[OY,i1],λb j=>?_,?_,G⟩
   ·rcases Od.1 j with rfl|j
    ·exact B
    ·exact D b j
   ·dsimp only
    rw[OW,Y]
    push_cast
    omega
  ·rw[if_pos (by simpa using he)] at h
   exact absurd h he
theorem uN {s:List UInt8}:∀{cs:List (List UInt8)}{ns:List Int}{n k:Int},bK s cs ns=some (n,k)->∃j,∃B:j<O cs,ns[j]? =some n/\k=cs[j].length
 |[],_,_,_,h=>by simp[bK] at h
 |_::_,[],_,_,h=>by simp[bK] at h
 |c::cs,m::ns,n,k,h=>by
  unfold bK at h
  split at h
  ·simp only[Option.some.injEq,Prod.mk.injEq] at h
   exact⟨0,by simp,by simp[h.1],h.2.symm⟩
  ·obtain⟨j,B,a,b⟩:=uN h
   exact⟨j+1,by simpa using B,by simpa using a,by simpa using b⟩
theorem mz {cs:List (List UInt8)}{ns:List Int}{l:List UInt8}{i:Int}(he:(ac cs ns l i).2.2=0):∃j,∃D:j<O cs,ns[j]? =some (ac cs ns l i).1/\(ac cs ns l i).2.1=cs[j].length:=by
 unfold ac at he⊢
 split at he
 ·cases he
 ·rename_i C
  rw[if_neg C];unfold gQ at he⊢
  cases B:bK (aI l i.toNat (min 24 (8*O l - i.toNat))) cs ns with
  |some p=>obtain⟨n,k⟩:=p;exact uN B
  |none=>
   rw[B] at he;dsimp only at he
   split at he<;>cases he
theorem uO {s:List UInt8}:∀{cs:List (List UInt8)}{ns:List Int}{n k:Int},bK s cs ns=some (n,k)->k<=O s
 |[],_,_,_,h=>by simp[bK] at h
 |_::_,[],_,_,h=>by simp[bK] at h
 |c::cs,m::ns,n,k,h=>by
  unfold bK at h
  split at h
  ·rename_i B
   have j:=(J.1 B).length_le;simp only[Option.some.injEq,Prod.mk.injEq] at h;omega
  ·exact uO h
theorem g8 {cs:List (List UInt8)}{ns:List Int}{l:List UInt8}{i:Int}(B:0<=i)(C:i<=8*(O l:Int))(he:(ac cs ns l i).2.2=0):i+(ac cs ns l i).2.1<=8*(O l:Int):=by
 unfold ac at he⊢;rw[if_neg (by omega)] at he⊢;unfold gQ at he⊢;have hl:(aI l i.toNat (min 24 (8*O l - i.toNat))).length<=8*O l - i.toNat:=by rw[bm];omega
 cases j:bK (aI l i.toNat (min 24 (8*O l - i.toNat))) cs ns with
 |some p=>
  obtain⟨n,k⟩:=p;have:=uO j;show i+k<=_;omega
 |none=>
  rw[j] at he;dsimp only at he
  split at he<;>cases he
theorem pR {n j:Nat}{f:Nat->Int}{k:Int}(h:((OM n).map f)[j]? =some k):j<n/\f j=k:=by
 rw[OX] at h
 by_cases B:j<n
 ·rw[OR B] at h
  exact⟨B,by simpa using h⟩
 ·rw[OO (by simpa using Nat.le_of_not_lt B)] at h
  cases h
theorem rs {cs:List (List UInt8)}{lo k:Int}{j:Nat}(B:j<O cs)(h:k - lo=(j:Int)):(eI cs lo k).getD []=cs[j]:=by
 unfold eI;rw[if_neg (by omega),h,OK,OD B];rfl
theorem rA {l:List UInt8}{i:Int}(he:(ac ay aG l i).2.2=0):f9 (ac ay aG l i).1=true/\(ac ay aG l i).2.1=(gT (ac ay aG l i).1).length/\1<=(ac ay aG l i).2.1:=by
 obtain⟨j,B,C,h2⟩:=mz he;obtain⟨G,I⟩:=pR C;have D:gT (ac ay aG l i).1=ay[j]:=by unfold gT;exact rs B (by omega)
 have K:=nz mI j B;rw[D,h2];refine⟨?_,rfl,by omega⟩;unfold f9;simp only[U,decide_eq_true_eq];omega
theorem un {l:List UInt8}{i:Int}(he:(ac ak ap l i).2.2=0):(ac ak ap l i).2.1=(cK (ac ak ap l i).1).length/\ -16<=(ac ak ap l i).1/\(ac ak ap l i).1<=15:=by
 obtain⟨j,D,B,h2⟩:=mz he;obtain⟨G,I⟩:=pR B;have C:cK (ac ak ap l i).1=ak[j]:=by unfold cK;exact rs D (by omega)
 rw[C,h2];exact⟨rfl,by omega,by omega⟩
theorem Br {l:List UInt8}{i:Int}(he:(ac bo bN l i).2.2=0):(ac bo bN l i).2.1=(jZ (ac bo bN l i).1).length/\1<=(ac bo bN l i).1/\(ac bo bN l i).1<=63:=by
 obtain⟨j,D,B,h2⟩:=mz he;obtain⟨G,I⟩:=pR B;have C:jZ (ac bo bN l i).1=bo[j]:=by unfold jZ;exact rs D (by omega)
 rw[C,h2];exact⟨rfl,by omega,by omega⟩
theorem G4 {j d:Int}(K: -16<=d)(h2:d<=15)(he:(aY j d).2=0):aK (aY j d).1=true/\jv j (aY j d).1=d:=by
 have pb:∀n,aK n=true↔(-15<=n/\n<=15):= λn=>by unfold aK;simp
 unfold aY at he⊢
 split at he
 ·cases he
 ·rename_i D
  rw[if_neg D]
  have G:aK j=true:=by
   simp only[X,not_or,OC,OV] at D;exact D.1.1
  rw[pb] at G
  split at he
  ·rename_i B;rw[if_pos B];refine⟨B,?_⟩;unfold jv;dsimp only;omega
  ·rename_i B;rw[if_neg B]
   split at he
   ·rename_i C;rw[if_pos C];refine⟨C,?_⟩;unfold jv;dsimp only;omega
   ·rename_i C;rw[if_neg C]
    split at he
    ·rename_i I;rw[if_pos I];refine⟨I,?_⟩;unfold jv;dsimp only;omega
    ·cases he
theorem y9 {l:List UInt8}{i pr:Int}(j:0<=i)(B:i<=8*(O l:Int))(he:(fT l i pr).2.2=0):aK (fT l i pr).1=true/\(fT l i pr).2.1=i+((gV pr (fT l i pr).1).length:Int)/\(fT l i pr).2.1<=8*(O l:Int):=by
 unfold fT at he⊢;dsimp only at he⊢
 by_cases h2:(ac ak ap l i).2.2=0
 ·rw[if_neg (by rw[h2];decide)] at he⊢
  obtain⟨a,b,c⟩:=un h2;obtain⟨d,e⟩:=G4 b c he;have f:=g8 j B h2;unfold gV;dsimp only;rw[e];exact⟨d,by rw[a],f⟩
 ·rw[if_pos (by simpa using h2)] at he
  exact absurd he h2
theorem rG {l:List UInt8}{i ad:Int}{x:bi}(h0:0<=i)(h1:i<=8*(O l:Int))(he:(b9 l i ad x).2.2=0):
  AL (b9 l i ad x).1/\(b9 l i ad x).1.ad=ad/\cu x ad=true/\((fB (b9 l i ad x).1 x).length:Int)<=(b9 l i ad x).2.1/\i+(b9 l i ad x).2.1<=8*(O l:Int)/\1<=(b9 l i ad x).2.1:=by
 unfold b9 at he⊢
 split at he
 ·cases he
 rename_i g0
 rw[if_neg g0]
 cases hx:cu x ad with
 |false=>rw[hx,if_pos (by decide)] at he;cases he
 |true=>
 rw[hx] at he;simp only[OQ,Z,if_false] at he⊢;have hp:=vq hx;generalize bE:cH ad (ad - x.ad) x.had x.x x.y=pr at he hp⊢
 by_cases D:(ac ay aG l i).2.2=0
 ·rw[D] at he⊢
  simp only[bne_self_eq_false,Z,if_false] at he⊢;obtain⟨k1,k2,k3⟩:=rA D;have k4:=g8 h0 h1 D;generalize (ac ay aG l i).1=kd at he k1 k2⊢;generalize (ac ay aG l i).2.1=B at he k2 k3 k4⊢
  have hq:(mq l kd (i+B)).2.2=0->(mq l kd (i+B)).2.1=i+B+((if pQ kd then aD (mq l kd (i+B)).1.toNat 5 else[]).length:Int)/\(mq l kd (i+B)).2.1<=8*(O l:Int)/\(pQ kd=true->1<=(mq l kd (i+B)).1/\(mq l kd (i+B)).1<=31)/\(pQ kd=false->(mq l kd (i+B)).1=0):=by
   unfold mq
   cases hq:pQ kd with
   |true=>
    simp only[if_true]
    split
    ·intro h;cases h
    ·rename_i q1
     split
     ·intro h;cases h
     ·rename_i G
      intro _;have cz:au l (i+B).toNat 5<32:=cW l (i+B).toNat 5;simp only[beq_iff_eq] at G;rw[cf];dsimp only;exact⟨rfl,by omega,(λ_=>⟨by omega,by omega⟩),(λh=>by cases h)⟩
   |false=>
    simp only[Z,if_false];intro _;exact⟨by simp,by omega,(λh=>by cases h),λ_=>trivial⟩
  by_cases q0:(mq l kd (i+B)).2.2=0
  ·rw[q0] at he⊢
   simp only[bne_self_eq_false,Z,if_false] at he⊢;obtain⟨q1,G,q3,q4⟩:=hq q0;clear hq q0;generalize (mq l kd (i+B)).1=qu at he q1 q3 q4⊢;generalize (mq l kd (i+B)).2.1=a2 at he q1 G⊢
   have hv:(mv l kd a2 pr.1 pr.2).2.2=0->(mv l kd a2 pr.1 pr.2).2.1=a2+((if pV kd then gV pr.1 (mv l kd a2 pr.1 pr.2).1.1++gV pr.2 (mv l kd a2 pr.1 pr.2).1.2 else[]).length:Int)/\(mv l kd a2 pr.1 pr.2).2.1<=8*(O l:Int)/\aK (mv l kd a2 pr.1 pr.2).1.1=true/\aK (mv l kd a2 pr.1 pr.2).1.2=true/\(pV kd=false->(mv l kd a2 pr.1 pr.2).1.1=0/\(mv l kd a2 pr.1 pr.2).1.2=0):=by
    have aB:0<=a2:=(by omega);unfold mv
    cases hv:pV kd with
    |true=>
     simp only[if_true]
     by_cases C:(fT l a2 pr.1).2.2=0
     ·rw[C]
      simp only[bne_self_eq_false,Z,if_false];obtain⟨N,T,v3⟩:=y9 aB G C
      by_cases w0:(fT l (fT l a2 pr.1).2.1 pr.2).2.2=0
      ·rw[w0]
       simp only[bne_self_eq_false,Z,if_false];obtain⟨w1,w2,w3⟩:=y9 (by omega) v3 w0;intro _;refine⟨?_,w3,N,w1,(λh=>by cases h)⟩;rw[w2,Y]
       push_cast
       omega
      ·rw[if_pos (by simpa using w0)]
       intro h;exact absurd h w0
     ·rw[if_pos (by simpa using C)]
      intro h;exact absurd h C
    |false=>
     simp only[Z,if_false];intro _;exact⟨by simp,G,by decide,by decide,by simp⟩
   by_cases C:(mv l kd a2 pr.1 pr.2).2.2=0
   ·rw[C] at he⊢
    simp only[bne_self_eq_false,Z,if_false] at he⊢;obtain⟨N,T,v3,v4,v5⟩:=hv C;clear hv C;generalize (mv l kd a2 pr.1 pr.2).1=dt at he N v3 v4 v5⊢;generalize (mv l kd a2 pr.1 pr.2).2.1=j at he N T⊢;have aC:0<=j:=by omega
    have M:(mc l kd j).2.2=0->(mc l kd j).2.1=j+((if pC kd then jZ (mc l kd j).1 else[]).length:Int)/\(mc l kd j).2.1<=8*(O l:Int)/\(pI kd=true->(mc l kd j).1=63)/\(pI kd=false->pC kd=true->1<=(mc l kd j).1/\(mc l kd j).1<=63)/\(pI kd=false->pC kd=false->(mc l kd j).1=0):=by
     unfold mc
     cases M:pC kd with
     |true=>
      simp only[if_true]
      by_cases c0:(ac bo bN l j).2.2=0
      ·rw[c0]
       simp only[bne_self_eq_false,Z,if_false];obtain⟨c1,c2,c3⟩:=Br c0;have c4:=g8 aC T c0;intro _;exact⟨by rw[c1],c4,(λh=>by rw[Kq M] at h;cases h),(λ_ _=>⟨c2,c3⟩),(λ_ h=>by cases h)⟩
      ·rw[if_pos (by simpa using c0)]
       intro h;exact absurd h c0
     |false=>
      simp only[Z,if_false];intro _;refine⟨by simp,T,(λh=>by rw[h];rfl),(λ_ h=>by cases h),(λh _=>by rw[h];rfl)⟩
    by_cases c0:(mc l kd j).2.2=0
    ·rw[c0] at he⊢
     simp only[bne_self_eq_false,Z,if_false] at he⊢;obtain⟨c1,c2,c3,c4,c5⟩:=M c0;clear M c0;generalize (mc l kd j).1=pa at he c1 c3 c4 c5⊢;generalize (mc l kd j).2.1=I at he c1 c2⊢
     by_cases K:(bg l (pI kd) (bO pa) I).2.2=0
     ·rw[K] at he⊢
      simp only[bne_self_eq_false,Z,if_false] at he⊢;obtain⟨b1,b2,b3,b4⟩:=uz (bO pa) I (by omega) c2 K;generalize (bg l (pI kd) (bO pa) I).1=bl at b1 b2 b3⊢;generalize (bg l (pI kd) (bO pa) I).2.1=a5 at b3 b4⊢;refine⟨⟨k1,by show 1<=ad;omega,by show ad<=33;omega,v3,v4,v5,q3,q4,c3,c4,c5,b1,b2⟩,by trivial,by trivial,?_,by omega,by omega⟩;rw[nh];dsimp only;rw[bE];unfold mQ mV mC mB;dsimp only;simp only[Y] at*
      push_cast
      omega
     ·rw[if_pos (by simpa using K)] at he
      exact absurd he K
    ·rw[if_pos (by simpa using c0)] at he
     exact absurd he c0
   ·rw[if_pos (by simpa using C)] at he
    exact absurd he C
  ·rw[if_pos (by simpa using q0)] at he
   exact absurd he q0
 ·rw[if_pos (by simpa using D)] at he
  exact absurd he D
def de (s:List UInt8):Prop:=∀c∈s,c=48\/c=49
theorem de.app {s t:List UInt8}(h:de s)(k:de t):de (s++t):= λc j=>by
 rcases List.mem_append.1 j with j|j
 ·exact h c j
 ·exact k c j
theorem eV:de []:= λc j=>by cases j
theorem jQ {s:List UInt8}(h:s.all (λb=>b==48||b==49)=true):de s:= λc j=>by
 have:=V.1 h c j
 simpa using this
theorem uA {cs:List (List UInt8)}(j:cs.all cS=true)(k:Nat)(B:k<O cs):de cs[k]:=by
 have:=V.1 j _ (OA B);simp only[cS,U] at this;exact jQ this.1.1
theorem ek (n m:Nat):de (aD n m):= λc B=>by
 unfold aD at B;obtain⟨j,_,rfl⟩:=List.mem_map.1 B
 split
 ·exact .inl rfl
 ·exact .inr rfl
theorem ko {cs:List (List UInt8)}(j:cs.all cS=true)(lo k:Int):de ((eI cs lo k).getD []):=by
 unfold eI
 split
 ·exact eV
 ·rcases Nat.lt_or_ge (k - lo).toNat (O cs) with h|h
  ·rw[OD h];exact uA j _ h
  ·rw[OO h];exact eV
theorem GW (first:Bool):(aQ first).all (λe=>e.2.all (λb=>b==48||b==49))=true:=by cases first<;>kernel_rfl
theorem DY (p:Int×Int)(first:Bool):de (dA p first):=by
 unfold dA
 split
 ·unfold pl
  exact((jQ (by decide)).app (ek _ _)).app (ek _ _)
 ·rename_i C
  obtain⟨k,B,j,_⟩:=mS _ (by simpa using C);rw[j];refine(jQ (V.1 (GW first) _ (OA B))).app ?_
  split<;>exact jQ (by decide)
theorem sf:∀(L:List (Int×Int))(first:Bool),de (eA L first)
 |[],_=>eV
 |p::L,first=>(DY p first).app (sf L false)
theorem DX (x:bH)(intra:Bool):de (cP x intra):=by
 unfold cP;refine(de.app ?_ (sf _ _)).app (jQ (by decide))
 split
 ·exact ek _ _
 ·exact eV
theorem AW (intra:Bool):∀bl:List bH,de (bl.flatMap λb=>cP b intra)
 |[]=>eV
 |b::bl=>by rw[OW];exact(DX b intra).app (AW intra bl)
theorem uE (m:aT)(x:bi):de (fB m x):=by
 rw[nh];refine(ko mI _ _).app (de.app ?_ (de.app ?_ (de.app ?_ (AW _ _))))
 ·unfold mQ;split
  ·exact ek _ _
  ·exact eV
 ·unfold mV;split
  ·exact(ko vec_code _ _).app (ko vec_code _ _)
  ·exact eV
 ·unfold mC;split
  ·exact ko rK _ _
  ·exact eV
def bd:List (List UInt8):=[[48,48,48,48,48,48,48,49,49,49,49],[49],[48,49,49],[48,49,48],[48,48,49,49],[48,48,49,48],[48,48,48,49,49],[48,48,48,49,48],[48,48,48,48,49,49,49],[48,48,48,48,49,49,48],
 [48,48,48,48,49,48,49,49],[48,48,48,48,49,48,49,48],[48,48,48,48,49,48,48,49],[48,48,48,48,49,48,48,48],[48,48,48,48,48,49,49,49],[48,48,48,48,48,49,49,48],
 [48,48,48,48,48,49,48,49,49,49],[48,48,48,48,48,49,48,49,49,48],[48,48,48,48,48,49,48,49,48,49],[48,48,48,48,48,49,48,49,48,48],[48,48,48,48,48,49,48,48,49,49],[48,48,48,48,48,49,48,48,49,48],
 [48,48,48,48,48,49,48,48,48,49,49],[48,48,48,48,48,49,48,48,48,49,48],[48,48,48,48,48,49,48,48,48,48,49],[48,48,48,48,48,49,48,48,48,48,48],[48,48,48,48,48,48,49,49,49,49,49],[48,48,48,48,48,48,49,49,49,49,48],
 [48,48,48,48,48,48,49,49,49,48,49],[48,48,48,48,48,48,49,49,49,48,48],[48,48,48,48,48,48,49,49,48,49,49],[48,48,48,48,48,48,49,49,48,49,48],[48,48,48,48,48,48,49,49,48,48,49],[48,48,48,48,48,48,49,49,48,48,48]]
theorem eW:O bd=34:=rfl
def pP (d:Int):List UInt8×Int:=if d<0\/34<=d then([],3) else(bd.getD d.toNat [],0)
def ks (a d:Int):Int×Int:=if a<0\/33<a\/d<1\/33<d then(0,3) else if 33<a+d then(0,13) else(a+d,0)
def bU:List UInt8:=List.replicate 15 48
def fi:List (List UInt8):=bd++[bU]
def mi:List Int:=(OM 35).map λ(k:Nat)=>(k:Int)
def kr (r:Int×Int×Int):Int×Int×Int:=if r.1=34 then(34,0,r.2.2) else r
def dz (l:List UInt8) (i:Int):Int×Int×Int:=kr (ac fi mi l i)
theorem xc:fi.all cS=true:=by kernel_rfl
theorem tN (d:Nat)(hd:d<34):fi[d]'(by show d<35;omega)=bd.getD d []:=by
 unfold fi;rw[List.getElem_append_left (by rw[eW];exact hd),OJ,OD (by rw[eW];exact hd)];rfl
theorem Gl (d:Nat)(hd:d<35):(mi[d]?).getD 0=(d:Int):=by
 unfold mi;rw[OX,OR hd];rfl
structure nQ where
 tm:Int
 ty:Int
 sp:List UInt8
structure ig where
 num:Int
 qu:Int
 sp:List UInt8
 ms:List aT
structure dI where
 hd:nQ
 gs:List ig
def sH (h:nQ):Bool:=decide (0<=h.tm)&&decide (h.tm<=31)&&decide (0<=h.ty)&&decide (h.ty<=63)&&decide (O h.sp<=32)
def dv (ty:Int):Int:=ty / 4 % 2
def aJ (f:Int):List Int:=if f=1 then[1,2,3,4,5,6,7,8,9,10,11,12] else[1,3,5]
def gq (f g a:Int):Int:=(a - 1) % 11*16+(if f=1 then(g - 1) % 2*176 else 0)
def gr (g a:Int):Int:=(a - 1) / 11*16+(g - 1) / 2*48
def jI (f:Int):Int:=if f=1 then 352 else 176
def jA (f:Int):Int:=if f=1 then 288 else 144
def pu (f g a x y:Int):Bool:=decide (0<=gq f g a+x)&&decide (gq f g a+x+16<=jI f)&&decide (0<=gr g a+y)&&decide (gr g a+y+16<=jA f)
def iM (f g:Int) (m:aT):Bool:= !pV m.kd||pu f g m.ad m.x m.y
def fC (f g:Int):Int->List aT->Bool
 |_,[]=>true
 |last,m::ms=>lk m&&decide (last<m.ad)&&iM f g m&&fC f g m.ad ms
def kU (f n:Int) (g:ig):Bool:=g.num==n&&decide (1<=g.qu)&&decide (g.qu<=31)&&decide (O g.sp<=32)&&fC f n 0 g.ms
def fA (f:Int):List Int->List ig->Bool
 |[],[]=>true
 |n::ns,g::gs=>kU f n g&&fA f ns gs
 |_,_=>false
def ef (s:dI):Bool:=sH s.hd&&fA (dv s.hd.ty) (aJ (dv s.hd.ty)) s.gs
def fu (sp:List UInt8):List UInt8:=(sp.flatMap λb=>49::aD b.toNat 8)++[48]
def fK (n:Int):List UInt8:=aD 1 16++aD n.toNat 4
def oS (h:nQ):List UInt8:=aD h.tm.toNat 5++(aD h.ty.toNat 6++fu h.sp)
def cO:bi->List aT->List UInt8
 |_,[]=>[]
 |x,m::ms=>bd.getD (m.ad - x.ad).toNat []++(fB m x++cO (ed m) ms)
def nd (g:ig):List UInt8:=fK g.num++(aD g.qu.toNat 5++(fu g.sp++cO co g.ms))
def dd:List ig->List UInt8
 |[]=>[]
 |g::gs=>nd g++dd gs
def gv (s:dI):List UInt8:=fK 0++(oS s.hd++dd s.gs)
def cU:List dI->List UInt8
 |[]=>[]
 |s::ss=>gv s++cU ss
def dH (l:List UInt8):Nat->Nat->Nat
 |0,_=>0
 |k+1,p=>if aS l p=0 then dH l k (p+1)+1 else 0
def dB (l:List UInt8) (p:Nat):Bool:=dH l (8*O l - p) p==8*O l - p
def dQ (e:Int):Int:=if e=5 then 6 else e
def dj (l:List UInt8):Nat->Nat->List UInt8×Nat×Int
 |k,p=>if 8*O l<p+1 then([],0,5) else if aS l p=0 then([],p+1,0) else match k with
  |0=>([],0,4)
  |k+1=>if 8*O l<p+9 then([],0,5) else
   let q:=dj l k (p+9)
   (UInt8.ofNat (au l (p+1) 8)::q.1,q.2.1,q.2.2)
def cQ (l:List UInt8) (p:Nat):nQ×Nat×Int:=
 if 8*O l<p+11 then(⟨0,0,[]⟩,0,5) else
 let q:=dj l 32 (p+11)
 if q.2.2=0 then(⟨au l p 5,au l (p+5) 6,q.1⟩,q.2.1,0) else(⟨0,0,[]⟩,0,q.2.2)
def fa (l:List UInt8) (p:Nat):(Int×List UInt8)×Nat×Int:=
 if 8*O l<p+5 then((0,[]),0,5) else if au l p 5=0 then((0,[]),0,9) else
 let q:=dj l 32 (p+5)
 if q.2.2=0 then((au l p 5,q.1),q.2.1,0) else((0,[]),0,q.2.2)
def cV (l:List UInt8) (p:Nat):Int×Nat×Int:=
 let z:=dH l (8*O l - p) p
 if 8*O l<=p+z then(0,0,5) else if z<15 then(0,0,7) else if 8*O l<p+z+5 then(0,0,5) else(au l (p+z+1) 4,p+z+5,0)
def dM (l:List UInt8) (p:Nat) (n:Int):Nat×Int:=
 let s:=cV l p
 if s.2.2=0 then(if s.1=n then(s.2.1,0) else(0,8)) else(0,dQ s.2.2)
def bL (l:List UInt8) (f g:Int):Nat->Nat->bi->List aT×Nat×Int
 |0,p,_=>([],p,0)
 |k+1,p,x=>
  let d:=dz l p
  if d.2.2=0 then
   if d.1=34 then([],p,0) else
   if d.1=0 then bL l f g k (p+d.2.1.toNat) x else
   if 33<x.ad+d.1 then([],0,13) else
   let m:=b9 l ((p+d.2.1.toNat:Nat):Int) (x.ad+d.1) x
   if m.2.2=0 then
    if iM f g m.1 then
     let q:=bL l f g k (p+d.2.1.toNat+m.2.1.toNat) (ed m.1)
     (m.1::q.1,q.2.1,q.2.2)
    else([],0,12)
   else([],0,dQ m.2.2)
  else if d.2.2=5 then(if dB l p then([],p,0) else([],0,6))
  else([],0,d.2.2)
def eK (l:List UInt8) (f n:Int) (p:Nat):ig×Nat×Int:=
 let s:=dM l p n
 if s.2=0 then
  let h:=fa l s.1
  if h.2.2=0 then
   let m:=bL l f n (8*O l+1) h.2.1 co
   if m.2.2=0 then(⟨n,h.1.1,h.1.2,m.1⟩,m.2.1,0) else(⟨0,0,[],[]⟩,0,m.2.2)
  else(⟨0,0,[],[]⟩,0,dQ h.2.2)
 else(⟨0,0,[],[]⟩,0,s.2)
def dJ (l:List UInt8) (f:Int):List Int->Nat->List ig×Nat×Int
 |[],p=>([],p,0)
 |n::ns,p=>
  let g:=eK l f n p
  if g.2.2=0 then
   let q:=dJ l f ns g.2.1
   (g.1::q.1,q.2.1,q.2.2)
  else([],0,g.2.2)
def fD (l:List UInt8) (p:Nat):dI×Nat×Int:=
 let s:=dM l p 0
 if s.2=0 then
  let h:=cQ l s.1
  if h.2.2=0 then
   let q:=dJ l (dv h.1.ty) (aJ (dv h.1.ty)) h.2.1
   if q.2.2=0 then(⟨h.1,q.1⟩,q.2.1,0) else(⟨⟨0,0,[]⟩,[]⟩,0,q.2.2)
  else(⟨⟨0,0,[]⟩,[]⟩,0,dQ h.2.2)
 else(⟨⟨0,0,[]⟩,[]⟩,0,s.2)
def gH (l:List UInt8):Nat->Nat->List dI×Int
 |0,_=>([],0)
 |k+1,p=>if dB l p then([],0) else
  let s:=fD l p
  if s.2.2=0 then
   let q:=gH l k s.2.1
   (s.1::q.1,q.2)
  else([],s.2.2)
def iN (l:List UInt8) (p:Nat):Bool:=decide (p+20<=8*O l)&&aI l p 20==fK 0
def eX (l:List UInt8):Nat->Nat->Option Nat
 |0,_=>none
 |k+1,p=>if iN l p then some p else eX l k (p+1)
def eN (l:List UInt8):List dI×Int:=
 match eX l (8*O l) 0 with
 |none=>([],0)
 |some p=>gH l (8*O l+1) p
end Go.Proofs.YthhijgcfbjcgiaaGreatDoor
