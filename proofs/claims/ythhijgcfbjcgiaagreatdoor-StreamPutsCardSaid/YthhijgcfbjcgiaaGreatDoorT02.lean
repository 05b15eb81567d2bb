/- MacP, PredP, AtP, BackP, BackQ, AgainP, AgainQ, PackP, AdrP, MLen -/
import Derived.Test.YthhijgcfbjcgiaaGreatDoorT01
import Derived.Lib.Fields
namespace Go.Proofs.YthhijgcfbjcgiaaGreatDoor
open Go Go.RowKit
open List renaming length→O,length_append→U,all_eq_true→Y,isPrefixOf_iff_prefix→J,getElem_mem→OA,getElem?_eq_getElem→OB,prefix_iff_eq_take→OC,mem_cons_of_mem→OE,mem_range→OF,length_cons→OH,take_length→OI,getElem?_eq_none→OJ,prefix_or_prefix_of_prefix→OK,getD→OL,append_assoc→ON,flatMap_cons→OO,range→OP,append_inj→OQ,mem_of_mem_drop→OR,getElem?_range→OT,map_congr_left→OU,prefix_append→OV,getElem?_map→OY,map_append→OZ,mem_cons→Od
open Bool renaming and_eq_true→Z,false_eq_true→V,or_eq_true→X,not_eq_true'→OD,not_eq_true→OG,not_true→OS,not_eq_false→OX,false_and→Oa,not_false→Ob,true_and→Oc
open Int renaming toNat_natCast→OM
open Nat renaming pow_succ→OW,lt_or_ge→Oe
def eT (k:Int):Bool:=decide (1<=k)&&decide (k<=10)
def pI (k:Int):Bool:=decide (1<=k)&&decide (k<=2)
def pQ (k:Int):Bool:=k==2||k==4||k==7||k==10
def pV (k:Int):Bool:=decide (5<=k)&&decide (k<=10)
def pF (k:Int):Bool:=decide (8<=k)&&decide (k<=10)
def pC (k:Int):Bool:=k==3||k==4||k==6||k==7||k==9||k==10
def eh (cs:List (List UInt8)) (lo k:Int):Option (List UInt8):=if k<lo then none else cs[(k - lo).toNat]?
def eM (k:Int):List UInt8:=(eh aD 1 k).getD []
def cf (d:Int):List UInt8:=(eh ao (-16) d).getD []
def iW (p:Int):List UInt8:=(eh bm 1 p).getD []
def aA (n:Int):Bool:=decide (-15<=n)&&decide (n<=15)
def cY (j to:Int):Int:=(to - j+80) % 32 - 16
def aW (pr d:Int):Int×Int:=
 if !aA pr||decide (d< -16)||decide (15<d) then(0,3) else
 if aA (pr+d) then(pr+d,0) else if aA (pr+d+32) then(pr+d+32,0) else if aA (pr+d - 32) then(pr+d - 32,0) else(0,12)
def Cg (ad d:Int) (had:Bool):Bool:= !had||d !=1||ad==1||ad==12||ad==23
def cZ (ad d:Int) (had:Bool) (x y:Int):Int×Int:=if Cg ad d had then(0,0) else(x,y)
def cC (p:Int):Nat:=if 1<=p/\p<=63 then p.toNat / 32 % 2+p.toNat / 16 % 2+p.toNat / 8 % 2+p.toNat / 4 % 2+p.toNat / 2 % 2+p.toNat % 2 else 0
def ak (n:Nat) (m:Nat):List UInt8:=(OP m).map λj=>if n / 2 ^ (m - 1 - j) % 2=0 then 48 else 49
structure bH where
 dc:Int
 l:List (Int×Int)
structure aX where
 ad:Int
 kd:Int
 qu:Int
 x:Int
 y:Int
 pa:Int
 bl:List bH
structure bA where
 ad:Int
 had:Bool
 x:Int
 y:Int
def cV:List (List UInt8):=[[49,49,32,48,49,48,48,32,48,48,49,48,49,32,48,48,48,48,49,49,48,32,48,48,49,48,48,49,49,48,32,48,48,49,48,48,48,48,49,32,48,48,48,48,48,48,49,48,49,48,32,48,48,48,48,48,48,48,49,49,49,48,49,32,48,48,48,48,48,48,48,49,49,48,48,48,32,48,48,48,48,48,48,48,49,48,48,49,49,32,48,48,48,48,48,48,48,49,48,48,48,48,32,48,48,48,48,48,48,48,48,49,49,48,49,48,32,48,48,48,48,48,48,48,48,49,49,48,48,49,32,48,48,48,48,48,48,48,48,49,49,48,48,48,32,48,48,48,48,48,48,48,48,49,48,49,49,49],[48,49,49,32,48,48,48,49,49,48,32,48,48,49,48,48,49,48,49,32,48,48,48,48,48,48,49,49,48,48,32,48,48,48,48,48,48,48,49,49,48,49,49,32,48,48,48,48,48,48,48,48,49,48,49,49,48,32,48,48,48,48,48,48,48,48,49,48,49,48,49],[48,49,48,49,32,48,48,48,48,49,48,48,32,48,48,48,48,48,48,49,48,49,49,32,48,48,48,48,48,48,48,49,48,49,48,48,32,48,48,48,48,48,48,48,48,49,48,49,48,48],[48,48,49,49,49,32,48,48,49,48,48,49,48,48,32,48,48,48,48,48,48,48,49,49,49,48,48,32,48,48,48,48,48,48,48,48,49,48,48,49,49],[48,48,49,49,48,32,48,48,48,48,48,48,49,49,49,49,32,48,48,48,48,48,48,48,49,48,48,49,48],[48,48,48,49,49,49,32,48,48,48,48,48,48,49,48,48,49,32,48,48,48,48,48,48,48,48,49,48,48,49,48],[48,48,48,49,48,49,32,48,48,48,48,48,48,48,49,49,49,49,48],[48,48,48,49,48,48,32,48,48,48,48,48,48,48,49,48,49,48,49],[48,48,48,48,49,49,49,32,48,48,48,48,48,48,48,49,48,48,48,49],[48,48,48,48,49,48,49,32,48,48,48,48,48,48,48,48,49,48,48,48,49],[48,48,49,48,48,49,49,49,32,48,48,48,48,48,48,48,48,49,48,48,48,48],[48,48,49,48,48,48,49,49],[48,48,49,48,48,48,49,48],[48,48,49,48,48,48,48,48],[48,48,48,48,48,48,49,49,49,48],[48,48,48,48,48,48,49,49,48,49],[48,48,48,48,48,48,49,48,48,48],[48,48,48,48,48,48,48,49,49,49,49,49],[48,48,48,48,48,48,48,49,49,48,49,48],[48,48,48,48,48,48,48,49,49,48,48,49],[48,48,48,48,48,48,48,49,48,49,49,49],[48,48,48,48,48,48,48,49,48,49,49,48],[48,48,48,48,48,48,48,48,49,49,49,49,49],[48,48,48,48,48,48,48,48,49,49,49,49,48],[48,48,48,48,48,48,48,48,49,49,49,48,49],[48,48,48,48,48,48,48,48,49,49,49,48,48],[48,48,48,48,48,48,48,48,49,49,48,49,49]]
def fl (first:Bool) (run:Nat):Nat->List (List UInt8)->List ((Int×Int)×List UInt8)
 |_,[]=>[]
 |i,c::cs=>(((run:Int),(i:Int)+1),if first&&run==0&&i==0 then[49] else c)::fl first run (i+1) cs
def dN (first:Bool):Nat->List (List UInt8)->List ((Int×Int)×List UInt8)
 |_,[]=>[]
 |r,x::xs=>fl first r 0 (Lib.fields x)++dN first (r+1) xs
def aL (first:Bool):List ((Int×Int)×List UInt8):=dN first 0 cV
def fi:List UInt8:=[48,48,48,48,48,49]
def bz:List UInt8:=[49,48]
def bJ (a b:List UInt8):Bool:=a.take (min (O a) (O b))==b.take (min (O a) (O b))
def bZ (s:List UInt8):List ((Int×Int)×List UInt8)->Bool->(Int×Int)×Bool×Int×Int
 |[],more=>((0,0),false,0,if more then 5 else 7)
 |(p,c)::T,more=>if !bJ s c then bZ s T more else if (O s)<=(O c) then bZ s T true else((p.1,if s.getD (O c) 0==49 then -p.2 else p.2),false,(O c:Int)+1,0)
def cz (s:List UInt8):Nat:=s.foldl (λa c=>2*a+(c.toNat - 48)) 0
def i8 (n:Nat):Int:=if n<128 then n else(n:Int) - 256
def aS (l:List UInt8) (i:Int) (first:Bool):(Int×Int)×Bool×Int×Int:=
 if i<0 then((0,0),false,0,3) else if 8*(O l:Int)<i then((0,0),false,0,5) else
 let s:=aI l i.toNat (min 20 (8*O l - i.toNat))
 if bJ s fi then
  if (O s)<20 then((0,0),false,0,5) else
  if i8 (cz (s.drop 12))==0||i8 (cz (s.drop 12))== -128 then((0,0),false,0,10) else(((cz ((s.take 12).drop 6):Nat),i8 (cz (s.drop 12))),false,20,0)
 else if !first&&bz.isPrefixOf s then((0,0),true,2,0)
 else bZ s (aL first) (!first&&bJ s bz)
def dZ (p:Int×Int):Bool:=decide (0<=p.1)&&decide (p.1<=63)&&decide (-127<=p.2)&&decide (p.2<=127)&&p.2 !=0
def cA (p:Int×Int):List ((Int×Int)×List UInt8)->List UInt8
 |[]=>[]
 |(q,c)::T=>if q.1==p.1&&(q.2==p.2||q.2== -p.2) then c else cA p T
def kT (p:Int×Int):List UInt8:=fi++ak p.1.toNat 6++ak (p.2 % 256).toNat 8
def cw (p:Int×Int) (first:Bool):List UInt8:=
 if cA p (aL first)==[] then kT p else cA p (aL first)++(if p.2<0 then[49] else[48])
def bG:List (Int×Int)->Int->Int
 |[],_=>0
 |p::l,at_=>if p.2==0|| !(decide (-127<=p.2)&&decide (p.2<=127)) then 10 else if decide (p.1<0)||decide (63 - at_<p.1) then 11 else bG l (at_+p.1+1)
def dl (intra:Bool):Int:=if intra then 1 else 0
def bP (x:bH) (intra:Bool):Int:=
 if intra&&(decide (x.dc<1)||decide (255<x.dc)||x.dc==128) then 10 else if !intra&&(x.dc !=0||x.l==[]) then 2 else bG x.l (dl intra)
def bR:List (Int×Int)->Bool->List UInt8
 |[],_=>[]
 |p::l,first=>cw p first++bR l false
def bN (x:bH) (intra:Bool):List UInt8:=(if intra then ak x.dc.toNat 8 else[])++bR x.l (!intra)++bz
def bp (l:List UInt8):Nat->Int->Bool->Int->List (Int×Int)×Int×Int
 |0,_,_,_=>([],0,5)
 |f+1,i,first,left=>
  let r:=aS l i first
  if r.2.1 then([],i+r.2.2.1,0) else if r.2.2.2 !=0 then([],0,r.2.2.2) else
  if left - (r.1.1+1)<0 then([],0,11) else
  let q:=bp l f (i+r.2.2.1) false (left - (r.1.1+1))
  (r.1::q.1,q.2.1,q.2.2)
def bK (l:List UInt8) (i:Int) (intra:Bool):bH×Int×Int:=
 if i<0 then(⟨0,[]⟩,0,3) else if 8*(O l:Int)<i then(⟨0,[]⟩,0,5) else
 if intra then
  if 8*(O l:Int)<i+8 then(⟨0,[]⟩,0,5) else
  let n:=aB l i.toNat 8
  if n==0||n==128 then(⟨0,[]⟩,0,10) else
  let q:=bp l 66 (i+8) false 63
  if q.2.2 !=0 then(⟨0,[]⟩,0,q.2.2) else(⟨n,q.1⟩,q.2.1 - i,0)
 else
  let q:=bp l 66 i true 64
  if q.2.2 !=0 then(⟨0,[]⟩,0,q.2.2) else(⟨0,q.1⟩,q.2.1 - i,0)
def iU (m:aX):Bool:=
 eT m.kd&&decide (1<=m.ad)&&decide (m.ad<=33)&&aA m.x&&aA m.y&&(pV m.kd||(m.x==0&&m.y==0))&&
 (if pQ m.kd then decide (1<=m.qu)&&decide (m.qu<=31) else m.qu==0)&&
 (if pI m.kd then m.pa==63 else if pC m.kd then decide (1<=m.pa)&&decide (m.pa<=63) else m.pa==0)&&(O m.bl)==cC m.pa&&m.bl.all λx=>bP x (pI m.kd)==0
def da (x:bA) (ad:Int):Bool:=decide (0<=x.ad)&&decide (x.ad<ad)&&aA x.x&&aA x.y&&(x.had||(x.x==0&&x.y==0))
def dT (m:aX):bA:=if pV m.kd then⟨m.ad,true,m.x,m.y⟩ else⟨m.ad,false,0,0⟩
def fA (j to:Int):List UInt8:=cf (cY j to)
def dD (m:aX) (x:bA):List UInt8:=
 let pr:=cZ m.ad (m.ad - x.ad) x.had x.x x.y
 eM m.kd++(if pQ m.kd then ak m.qu.toNat 5 else[])++(if pV m.kd then fA pr.1 m.x++fA pr.2 m.y else[])++(if pC m.kd then iW m.pa else[])++m.bl.flatMap λb=>bN b (pI m.kd)
def lE (m:aX) (x:bA):List UInt8×Int:=if iU m&&da x m.ad then(dD m x,0) else([],2)
def m0:aX:=⟨0,0,0,0,0,0,[]⟩
def cT (l:List UInt8) (intra:Bool):Nat->Int->List bH×Int×Int
 |0,i=>([],i,0)
 |n+1,i=>
  let r:=bK l i intra
  if r.2.2 !=0 then([],0,r.2.2) else
  let q:=cT l intra n (i+r.2.1)
  (r.1::q.1,q.2.1,q.2.2)
def iR (l:List UInt8) (i pr:Int):Int×Int×Int:=
 let r:=ac ao au l i
 if r.2.2 !=0 then(0,0,r.2.2) else((aW pr r.1).1,i+r.2.1,(aW pr r.1).2)
def mq (l:List UInt8) (k i:Int):Int×Int×Int:=
 if pQ k then(if 8*(O l:Int)<i+5 then(0,0,5) else if aB l i.toNat 5==0 then(0,0,9) else((aB l i.toNat 5:Nat),i+5,0)) else(0,i,0)
def mv (l:List UInt8) (k i x y:Int):(Int×Int)×Int×Int:=
 if pV k then
  let r:=iR l i x
  if r.2.2 !=0 then((0,0),0,r.2.2) else
  let q:=iR l r.2.1 y
  if q.2.2 !=0 then((0,0),0,q.2.2) else((r.1,q.1),q.2.1,0)
 else((0,0),i,0)
def mc (l:List UInt8) (k i:Int):Int×Int×Int:=
 if pC k then(let r:=ac bm bO l i;if r.2.2 !=0 then(0,0,r.2.2) else(r.1,i+r.2.1,0)) else(if pI k then 63 else 0,i,0)
def cH (l:List UInt8) (i ad:Int) (x:bA):aX×Int×Int:=
 if i<0\/ad<1\/33<ad then(m0,0,3) else if !da x ad then(m0,0,2) else
 let pr:=cZ ad (ad - x.ad) x.had x.x x.y
 let k:=ac aD aN l i
 if k.2.2 !=0 then(m0,0,k.2.2) else
 let q:=mq l k.1 (i+k.2.1)
 if q.2.2 !=0 then(m0,0,q.2.2) else
 let v:=mv l k.1 q.2.1 pr.1 pr.2
 if v.2.2 !=0 then(m0,0,v.2.2) else
 let c:=mc l k.1 v.2.1
 if c.2.2 !=0 then(m0,0,c.2.2) else
 let b:=cT l (pI k.1) (cC c.1) c.2.1
 if b.2.2 !=0 then(m0,0,b.2.2) else(⟨ad,k.1,q.1,v.1.1,v.1.2,c.1,b.1⟩,b.2.1 - i,0)
def bE:bA:=⟨0,false,0,0⟩
theorem jX {cs:List (List UInt8)}(h:il cs=true){i k:Nat}(j:i<O cs)(B:k<O cs)(I:cs[k]<+:cs[i]):i=k:=by
 have G:=Y.1 h i (OF.2 j);have h2:=Y.1 G k (OF.2 B);have C:cs.getD k []=cs[k]:=by simp[OL,B]
 have D:cs.getD i []=cs[i]:=by simp[OL,j]
 rw[C,D,X] at h2;rcases h2 with h2|h2
 ·exact beq_iff_eq.1 h2
 ·rw[OD,<-OG,J] at h2
  exact absurd I h2
theorem oJ:O ao=32:=by kernel_rfl
theorem pi:O aD=10:=by kernel_rfl
theorem fU (j to:Int): -16<=cY j to/\cY j to<=15:=by unfold cY;omega
def At (l:List UInt8) (i:Nat) (s:List UInt8):Prop:=i+O s<=8*O l/\aI l i (O s)=s
def oV (l:List UInt8) (i:Nat) (s:List UInt8):Prop:=i<=8*O l/\8*O l<i+O s/\aI l i (8*O l - i)=s.take (8*O l - i)
theorem dI (l:List UInt8)(i n m:Nat):aI l i (n+m)=aI l i n++aI l (i+n) m:=by
 unfold aI;rw[List.range_add,OZ,List.map_map];congr 1;apply OU;intro j _;show dH l (i+(n+j))=dH l (i+n+j);congr 1;omega
theorem At.app {l:List UInt8}{i:Nat}{s t:List UInt8}(h:At l i (s++t)):At l i s/\At l (i+O s) t:=by
 obtain⟨B,h2⟩:=h;rw[U,dI] at h2;rw[U] at B;have j:=OQ h2 (by simp[bo]);exact⟨⟨by omega,j.1⟩,⟨by omega,j.2⟩⟩
theorem At.join {l:List UInt8}{i:Nat}{s t:List UInt8}(h:At l i s)(k:At l (i+O s) t):At l i (s++t):=by
 refine⟨by have:=k.1;rw[U];omega,?_⟩;rw[U,dI,h.2,k.2]
theorem oV.app {l:List UInt8}{i:Nat}{s t:List UInt8}(h:oV l i (s++t)):oV l i s\/(At l i s/\oV l (i+O s) t):=by
 obtain⟨C,h2,j⟩:=h;rw[U] at h2
 by_cases D:8*O l<i+O s
 ·refine .inl ⟨C,D,?_⟩
  rw[j,List.take_append_of_le_length (by omega)]
 ·obtain⟨m,G⟩:∃m,8*O l - i=O s+m:=⟨8*O l - i - O s,by omega⟩
  rw[G,dI,List.take_append,List.take_of_length_le (by omega)] at j;have B:=OQ j (by simp[bo]);refine .inr ⟨⟨by omega,B.1⟩,by omega,by omega,?_⟩;have e:8*O l - (i+O s)=m:=(by omega);rw[e,B.2];congr 1;omega
theorem oV.ne {l:List UInt8}{i:Nat}(h:oV l i []):False:=by have:=h.2.1;have:=h.1;simp at*;omega
theorem At.window {l:List UInt8}{i:Nat}{s:List UInt8}(h:At l i s)(n:Nat)(B:O s<=n):s<+:aI l i (min n (8*O l - i)):=by
 obtain⟨m,j⟩:∃m,min n (8*O l - i)=O s+m:=⟨min n (8*O l - i) - O s,by have:=h.1;omega⟩;rw[j,dI,h.2];exact⟨_,rfl⟩
theorem oV.window {l:List UInt8}{i:Nat}{s:List UInt8}(h:oV l i s)(n:Nat)(B:O s<=n):aI l i (min n (8*O l - i))=s.take (8*O l - i)/\8*O l - i<(O s):=by
 have j:=h.1;have h2:=h.2.1;have e:min n (8*O l - i)=8*O l - i:=by omega
 rw[e];exact⟨h.2.2,by omega⟩
theorem FG {cs:List (List UInt8)}:∀{ns:List Int}(s:List UInt8)(k:Nat)(j:k<O cs),O cs=O ns->cs[k]<+:s->(∀i (C:i<O cs),cs[i]<+:s->i=k)->cy s cs ns=some ((ns[k]?).getD 0,(cs[k].length:Int)):=by
 induction cs with
 |nil=>intro ns s k j;simp at j
 |cons c cs ih=>
  intro ns s k j hl D G
  cases ns with
  |nil=>simp at hl
  |cons n ns=>
   rw[cy]
   cases k with
   |zero=>
    have B:c.isPrefixOf s=true:=J.2 D;simp[B]
   |succ k=>
    have B:c.isPrefixOf s=false:=by
     rw[<-OG,J];intro h2;have:=G 0 (by simp) h2;omega
    rw[B]
    have I:=ih (ns:=ns) s k (by simpa using j) (by simpa using hl) (by simpa using D) (λi C h2=>by
     have:=G (i+1) (by simpa using C) (by simpa using h2);omega)
    simpa using I
theorem rR {cs:List (List UInt8)}:∀{ns:List Int}(s:List UInt8),(∀i (B:i<O cs),¬cs[i]<+:s)->cy s cs ns=none:=by
 induction cs with
 |nil=>intro ns s _;rw[cy.eq_def]
 |cons c cs ih=>
  intro ns s C
  cases ns with
  |nil=>rw[cy.eq_def]
  |cons n ns=>
   rw[cy]
   have D:c.isPrefixOf s=false:=by
    rw[<-OG,J];exact C 0 (by simp)
   rw[D]
   have G:=ih (ns:=ns) s (λi B=>by
    have j:=C (i+1) (by simpa using B);rw[List.getElem_cons_succ] at j;exact j)
   simpa using G
theorem nB {cs:List (List UInt8)}(j:cs.all cM=true)(k:Nat)(B:k<O cs):1<=cs[k].length/\cs[k].length<=24:=by
 have:=Y.1 j _ (OA B);simp only[cM,Z,decide_eq_true_eq] at this;exact⟨this.1.2,this.2⟩
theorem IM {cs:List (List UInt8)}{ns:List Int}(D:il cs=true)(K:cs.all cM=true)(hl:O cs=O ns)(k:Nat)(B:k<O cs){l:List UInt8}{i:Nat}(h:At l i cs[k]):ac cs ns l i=((ns[k]?).getD 0,(cs[k].length:Int),0):=by
 have I:=h.window 24 (nB K k B).2;unfold ac;rw[if_neg (by omega),OM];unfold jZ
 rw[FG _ k B hl I (λj G M=>by
  rcases OK M I with C|C
  ·exact(jX D B G C).symm
  ·exact jX D G B C)]
theorem GI {cs:List (List UInt8)}{ns:List Int}(N:il cs=true)(M:cs.all cM=true)(k:Nat)(C:k<O cs){l:List UInt8}{i:Nat}(h:oV l i cs[k]):ac cs ns l i=(0,0,5):=by
 have D:=h.window 24 (nB M k C).2;unfold ac;rw[if_neg (by omega),OM];unfold jZ;have G:aI l i (min 24 (8*O l - i))<+:cs[k]:=by rw[D.1];exact List.take_prefix _ _
 have av:(aI l i (min 24 (8*O l - i))).length<cs[k].length:=by rw[D.1,List.length_take];have:=D.2;omega
 rw[rR _ (λj T B=>by
  have I:=jX N C T (B.trans G);subst I;have:=B.length_le;omega)]
 have K:cs.any (λc=>(aI l i (min 24 (8*O l - i))).isPrefixOf c)=true:=List.any_eq_true.2 ⟨cs[k],OA C,J.2 G⟩;simp only[K,if_true]
theorem bf (n m:Nat):(ak n m).length=m:=by simp[ak]
theorem uG (l:List UInt8):∀(m i n:Nat),aI l i m=ak n m->n<2 ^ m->aB l i m=n
 |0,i,n,_,h=>by simp[aB];simp at h;omega
 |m+1,i,n,he,h=>by
  have I:ak n (m+1)=ak (n / 2) m++[if n % 2=0 then 48 else 49]:=by
   unfold ak;rw[List.range_succ,OZ];congr 1
   ·apply OU
    intro j G;have G:=OF.1 G;have e:m+1 - 1 - j=(m - 1 - j)+1:=(by omega);rw[e,OW,Nat.mul_comm,<-Nat.div_div_eq_div_mul]
   ·simp
  rw[iH,I] at he;have h2:=OQ he (by rw[bo,bf]);have K:=uG l m i (n / 2) h2.1 (by rw[OW] at h;omega);rw[aB,K];have B:dH l (i+m)=if n % 2=0 then 48 else 49:=by simpa using h2.2
  have M:=fC l (i+m);unfold dH at B
  have N:(aZ l (i+m)=0)↔(n % 2=0):=by
   constructor
   ·intro C;by_cases D:n % 2=0
    ·exact D
    ·rw[if_pos C,if_neg D] at B;cases B
   ·intro D;by_cases C:aZ l (i+m)=0
    ·exact C
    ·rw[if_neg C,if_pos D] at B;cases B
  omega
theorem mN {s c:List UInt8}{p:Int×Int}{T:List ((Int×Int)×List UInt8)}{more:Bool}(h:bJ s c=false):bZ s ((p,c)::T) more=bZ s T more:=by
 show (if !bJ s c then _ else _)=_;rw[h];rfl
theorem pm {s c:List UInt8}{p:Int×Int}{T:List ((Int×Int)×List UInt8)}{more:Bool}(h:bJ s c=true)(hl:O s<=O c):bZ s ((p,c)::T) more=bZ s T true:=by
 show (if !bJ s c then _ else if (O s)<=(O c) then _ else _)=_;rw[h,if_neg (by decide),if_pos hl]
theorem rY {s c:List UInt8}{p:Int×Int}{T:List ((Int×Int)×List UInt8)}{more:Bool}(h:bJ s c=true)(hl:¬(O s)<=O c):bZ s ((p,c)::T) more=((p.1,if s.getD (O c) 0==49 then -p.2 else p.2),false,(O c:Int)+1,0):=by
 show (if !bJ s c then _ else if (O s)<=(O c) then _ else _)=_;rw[h,if_neg (by decide),if_neg hl]
theorem sg (s:List UInt8)(c:UInt8):cz (s++[c])=2*cz s+(c.toNat - 48):=by unfold cz;rw[List.foldl_append];rfl
theorem du {a b:List UInt8}:bJ a b=true↔(a<+:b\/b<+:a):=by
 unfold bJ;rw[beq_iff_eq];rcases Nat.le_total (O a) (O b) with h|h
 ·rw[Nat.min_eq_left h,OI]
  constructor
  ·exact λe=> .inl (OC.2 e)
  ·rintro(h2|h2)
   ·exact OC.1 h2
   ·have e:=h2.eq_of_length (by have:=h2.length_le;omega)
    rw[e,OI]
 ·rw[Nat.min_eq_right h,OI]
  constructor
  ·exact λe=> .inr (OC.2 e.symm)
  ·rintro(h2|h2)
   ·have e:=h2.eq_of_length (by have:=h2.length_le;omega)
    rw[e,OI]
   ·exact(OC.1 h2).symm
abbrev oY:Type:=(Int×Int)×List UInt8
theorem xw {s:List UInt8}{b:UInt8}:∀(T:List oY)(more:Bool)(k:Nat)(C:k<O T),(∀j (I:j<O T),(T[j].2<+:T[k].2\/T[k].2<+:T[j].2)->j=k)->T[k].2++[b]<+:s->
  bZ s T more=((T[k].1.1,if b==49 then -T[k].1.2 else T[k].1.2),false,(T[k].2.length:Int)+1,0)
 |[],_,k,C,_,_=>by simp at C
 |(p,c)::T,more,0,C,hf,B=>by
  have B:c++[b]<+:s:=B;have D:c<+:s:=(OV c [b]).trans B;have h2:O c+1<=(O s):=(by have:=B.length_le;simpa using this);rw[rY (du.2 (.inr D)) (by omega)];obtain⟨t,rfl⟩:=B;have e:((c++[b])++t).getD (O c) 0=b:=(by simp[OL]);rw[e];rfl
 |(p,c)::T,more,k+1,C,hf,B=>by
  have G:k<(O T):=(by simpa using C);have B:T[k].2++[b]<+:s:=B;have D:T[k].2<+:s:=(OV _ [b]).trans B
  have M:bJ s c=false:=by
   rw[<-OG,du];intro h
   have K:c<+:T[k].2\/T[k].2<+:c:=by
    rcases h with h|h
    ·exact .inr (D.trans h)
    ·exact OK h D
   have:=hf 0 (by simp) K;omega
  rw[mN M];exact xw T more k G (λj I h=>by have:=hf (j+1) (by simpa using I) h;omega) B
theorem mM {s:List UInt8}:∀(T:List oY)(more:Bool),(∀e∈T,bJ s e.2=true->O s<=e.2.length)->(more=true\/∃e∈T,bJ s e.2=true)->bZ s T more=((0,0),false,0,5)
 |[],more,_,h=>by
  rcases h with rfl|⟨e,he,_⟩
  ·rfl
  ·simp at he
 |(p,c)::T,more,ha,h=>by
  cases j:bJ s c with
  |true=>
   rw[pm j (ha (p,c) (by simp) j)];exact mM T true (λe he=>ha e (OE _ he)) (.inl rfl)
  |false=>
   rw[mN j];refine mM T more (λe he=>ha e (OE _ he)) ?_;rcases h with h|⟨e,he,h2⟩
   ·exact .inl h
   ·rcases Od.1 he with rfl|he
    ·rw[j] at h2;cases h2
    ·exact .inr ⟨e,he,h2⟩
theorem zb:il (fi::bz::(aL false).map (·.2))=true:=by kernel_rfl
theorem za:il (fi::(aL true).map (·.2))=true:=by kernel_rfl
theorem Bu (first:Bool):(aL first).all (λe=>decide (0<e.1.2)&&decide (1<=e.2.length)&&decide (e.2.length<=19))=true:=by cases first<;>kernel_rfl
theorem GD (first:Bool){k:Nat}(M:k<(aL first).length):(∀j (D:j<(aL first).length),((aL first)[j].2<+:(aL first)[k].2\/(aL first)[k].2<+:(aL first)[j].2)->j=k)/\
  ¬(fi<+:(aL first)[k].2)/\¬((aL first)[k].2<+:fi)/\(first=false->¬(bz<+:(aL first)[k].2)/\¬((aL first)[k].2<+:bz)):=by
 cases first with
 |true=>
  have h:= @jX _ za;have e:∀j (D:j<(aL true).length),∃K:j+1<(fi::(aL true).map (·.2)).length,(fi::(aL true).map (·.2))[j+1]=(aL true)[j].2:= λj D=>⟨by simp[D],by simp⟩;obtain⟨B,C⟩:=e k M;refine⟨λj D h2=>?_,λh2=>?_,λh2=>?_,λh=>by cases h⟩
  ·obtain⟨G,I⟩:=e j D
   rcases h2 with h2|h2
   ·have:=h B G (by rw[I,C];exact h2);omega
   ·have:=h G B (by rw[I,C];exact h2);omega
  ·have:=h (i:=k+1) (k:=0) B (by simp) (by rw[C];exact h2);omega
  ·have:=h (i:=0) (k:=k+1) (by simp) B (by rw[C];exact h2);omega
 |false=>
  have h:= @jX _ zb;have e:∀j (D:j<(aL false).length),∃K:j+2<(fi::bz::(aL false).map (·.2)).length,(fi::bz::(aL false).map (·.2))[j+2]=(aL false)[j].2:= λj D=>⟨by simp[D],by simp⟩;obtain⟨B,C⟩:=e k M;refine⟨λj D h2=>?_,λh2=>?_,λh2=>?_,λ_=>⟨λh2=>?_,λh2=>?_⟩⟩
  ·obtain⟨G,I⟩:=e j D
   rcases h2 with h2|h2
   ·have:=h B G (by rw[I,C];exact h2);omega
   ·have:=h G B (by rw[I,C];exact h2);omega
  ·have:=h (i:=k+2) (k:=0) B (by simp) (by rw[C];exact h2);omega
  ·have:=h (i:=0) (k:=k+2) (by simp) B (by rw[C];exact h2);omega
  ·have:=h (i:=k+2) (k:=1) B (by simp) (by rw[C];exact h2);omega
  ·have:=h (i:=1) (k:=k+2) (by simp) B (by rw[C];exact h2);omega
theorem mX {p:Int×Int}:∀(T:List oY),cA p T≠[]->∃k,∃B:k<O T,cA p T=T[k].2/\T[k].1.1=p.1/\(T[k].1.2=p.2\/T[k].1.2= -p.2)
 |[],h=>absurd rfl h
 |(q,c)::T,h=>by
  unfold cA at h⊢
  split
  ·rename_i j
   simp only[Z,X,beq_iff_eq] at j;exact⟨0,by simp,rfl,j.1,j.2⟩
  ·rename_i j
   rw[if_neg j] at h;obtain⟨k,B,C,h2⟩:=mX T h;exact⟨k+1,by simpa using B,C,h2⟩
theorem rt {p:Int×Int}(h:dZ p=true):0<=p.1/\p.1<=63/\ -127<=p.2/\p.2<=127/\p.2≠0:=by
 unfold dZ at h;simp only[Z,decide_eq_true_eq,bne_iff_ne] at h;exact⟨h.1.1.1.1,h.1.1.1.2,h.1.1.2,h.1.2,h.2⟩
theorem FE (p:Int×Int):(kT p).length=20:=by unfold kT;simp[bf];rfl
theorem y8 (l:List UInt8)(f:Nat)(i:Int)(first:Bool)(left:Int):bp l (f+1) i first left=(if (aS l i first).2.1 then([],i+(aS l i first).2.2.1,0) else if (aS l i first).2.2.2 !=0 then([],0,(aS l i first).2.2.2) else
   if left - ((aS l i first).1.1+1)<0 then([],0,11) else
   ((aS l i first).1::(bp l f (i+(aS l i first).2.2.1) false (left - ((aS l i first).1.1+1))).1,(bp l f (i+(aS l i first).2.2.1) false (left - ((aS l i first).1.1+1))).2.1,(bp l f (i+(aS l i first).2.2.1) false (left - ((aS l i first).1.1+1))).2.2)):=rfl
theorem yt {p:Int×Int}{L:List (Int×Int)}{a:Int}(B:0<=a)(h:bG (p::L) a=0):dZ p=true/\p.1<=63 - a/\bG L (a+p.1+1)=0:=by
 unfold bG at h
 split at h
 ·cases h
 ·rename_i j
  split at h
  ·cases h
  ·rename_i h2
   simp only[X,beq_iff_eq,OD,not_or,OX,Z,decide_eq_true_eq,Int.not_lt] at j h2;refine⟨?_,by omega,h⟩;unfold dZ;simp only[Z,decide_eq_true_eq,bne_iff_ne];exact⟨⟨⟨⟨h2.1,by omega⟩,j.2.1⟩,j.2.2⟩,j.1⟩
theorem sI:∀(L:List (Int×Int)){a:Int},0<=a->a<=64->bG L a=0->(O L:Int)<=64 - a
 |[],a,h0,h1,_=>by simp;omega
 |p::L,a,h0,h1,h=>by
  obtain⟨h2,B,j⟩:=yt h0 h;have C:=(rt h2).1;have D:=sI L (by omega) (by omega) j;rw[OH];omega
theorem E6 {j B:Int}(C:aA j=true)(h2:aA B=true):aW j (cY j B)=(B,0):=by
 have G:=fU j B;unfold aA at C h2;simp only[Z,decide_eq_true_eq] at C h2;unfold aW
 have D:(!aA j||decide (cY j B< -16)||decide (15<cY j B))=false:=by
  unfold aA;simp only[Bool.or_eq_false_iff,decide_eq_false_iff_not,Bool.not_eq_false',Z,decide_eq_true_eq];omega
 rw[D,if_neg (by decide)];have pb:∀n,aA n=true↔(-15<=n/\n<=15):= λn=>by unfold aA;simp
 have hd:cY j B=B - j\/cY j B=B - j - 32\/cY j B=B - j+32:=by unfold cY;omega
 rcases hd with hd|hd|hd
 ·have e:j+cY j B=B:=by omega
  rw[if_pos ((pb _).2 (by omega)),e]
 ·have e:j+cY j B+32=B:=by omega
  rw[if_neg (λh=>by have:=(pb _).1 h;omega),if_pos ((pb _).2 (by omega)),e]
 ·have e:j+cY j B - 32=B:=by omega
  rw[if_neg (λh=>by have:=(pb _).1 h;omega),if_neg (λh=>by have:=(pb _).1 h;omega),if_pos ((pb _).2 (by omega)),e]
def mQ (m:aX):List UInt8:=if pQ m.kd then ak m.qu.toNat 5 else[]
def mV (m:aX) (a b:Int):List UInt8:=if pV m.kd then fA a m.x++fA b m.y else[]
def mC (m:aX):List UInt8:=if pC m.kd then iW m.pa else[]
def mB (m:aX):List UInt8:=m.bl.flatMap λb=>bN b (pI m.kd)
theorem nl (m:aX)(x:bA):dD m x=eM m.kd++(mQ m++(mV m (cZ m.ad (m.ad - x.ad) x.had x.x x.y).1 (cZ m.ad (m.ad - x.ad) x.had x.x x.y).2++(mC m++mB m))):=by
 unfold dD mQ mV mC mB;simp only[ON]
structure wh (m:aX):Prop where
 kd:eT m.kd=true
 a1:1<=m.ad
 a2:m.ad<=33
 px:aA m.x=true
 py:aA m.y=true
 pv:pV m.kd=false->m.x=0/\m.y=0
 q1:pQ m.kd=true->1<=m.qu/\m.qu<=31
 q0:pQ m.kd=false->m.qu=0
 i1:pI m.kd=true->m.pa=63
 c1:pI m.kd=false->pC m.kd=true->1<=m.pa/\m.pa<=63
 c0:pI m.kd=false->pC m.kd=false->m.pa=0
 len:O m.bl=cC m.pa
 bl:∀b∈m.bl,bP b (pI m.kd)=0
theorem iO (m:aX):iU m=true↔wh m:=by
 unfold iU;simp only[Z,X,decide_eq_true_eq,beq_iff_eq,Y];constructor
 ·rintro⟨⟨⟨⟨⟨⟨⟨⟨⟨a,b⟩,c⟩,d⟩,e⟩,f⟩,g⟩,h⟩,i⟩,j⟩
  refine⟨a,b,c,d,e,λB=>?_,λB=>?_,λB=>?_,λB=>?_,λB C=>?_,λB C=>?_,i,j⟩
  ·rcases f with f|f
   ·rw[B] at f;cases f
   ·exact f
  ·rw[B] at g;simpa using g
  ·rw[B] at g;simpa using g
  ·rw[B] at h;simpa using h
  ·rw[B,C] at h;simpa using h
  ·rw[B,C] at h;simpa using h
 ·rintro⟨a,b,c,d,e,f,g,g',h,C,h2,i,j⟩
  refine⟨⟨⟨⟨⟨⟨⟨⟨⟨a,b⟩,c⟩,d⟩,e⟩,?_⟩,?_⟩,?_⟩,i⟩,j⟩
  ·cases K:pV m.kd with
   |true=>exact .inl rfl
   |false=>exact .inr (f K)
  ·cases I:pQ m.kd with
   |true=>simpa using g I
   |false=>simpa using g' I
  ·cases D:pI m.kd with
   |true=>simpa using h D
   |false=>
    cases G:pC m.kd with
    |true=>simpa using C D G
    |false=>simpa using h2 D G
theorem Kg {k:Int}(h:pC k=true):pI k=false:=by
 unfold pC at h;unfold pI;simp only[X,beq_iff_eq] at h;rcases h with((((h|h)|h)|h)|h)|h<;>subst h<;>rfl
theorem uL {x:bA}{ad:Int}(h:da x ad=true):aA (cZ ad (ad - x.ad) x.had x.x x.y).1=true/\aA (cZ ad (ad - x.ad) x.had x.x x.y).2=true:=by
 unfold da at h;simp only[Z] at h;unfold cZ
 split
 ·exact⟨rfl,rfl⟩
 ·exact⟨h.1.1.2,h.1.2⟩
theorem rp {s:List UInt8}:∀(T:List oY)(more:Bool),(bZ s T more).2.2.2=0->∃k,∃j:k<O T,((bZ s T more).1=(T[k].1.1,T[k].1.2)\/(bZ s T more).1=(T[k].1.1, -T[k].1.2))/\(bZ s T more).2.1=false/\(bZ s T more).2.2.1=(T[k].2.length:Int)+1/\T[k].2.length+1<=O s
 |[],more,h=>by
  have e:(bZ s [] more).2.2.2=if more then 5 else 7:=rfl
  rw[e] at h
  cases more<;>cases h
 |(p,c)::T,more,h=>by
  cases C:bJ s c with
  |false=>
   rw[mN C] at h⊢;obtain⟨k,j,B⟩:=rp T more h;exact⟨k+1,by simpa using j,B⟩
  |true=>
   by_cases hl:O s<=O c
   ·rw[pm C hl] at h⊢
    obtain⟨k,j,B⟩:=rp T true h;exact⟨k+1,by simpa using j,B⟩
   ·rw[rY C hl]
    refine⟨0,by simp,?_,rfl,rfl,by show (O c)+1<=_;omega⟩;dsimp only
    split
    ·exact .inr rfl
    ·exact .inl rfl
theorem GE (first:Bool):(OP (aL first).length).all (λi=>(OP (aL first).length).all λk=>i==k||((aL first).getD i ((0,0),[])).1 !=((aL first).getD k ((0,0),[])).1)=true:=by cases first<;>kernel_rfl
theorem IK {first:Bool}{i k:Nat}(B:i<(aL first).length)(C:k<(aL first).length)(h:(aL first)[i].1=(aL first)[k].1):i=k:=by
 have j:=Y.1 (Y.1 (GE first) i (OF.2 B)) k (OF.2 C);have D:(aL first).getD i ((0,0),[])=(aL first)[i]:=by simp[OL,B]
 have G:(aL first).getD k ((0,0),[])=(aL first)[k]:=by simp[OL,C]
 rw[D,G,X] at j;rcases j with j|j
 ·exact beq_iff_eq.1 j
 ·rw[bne_iff_ne] at j;exact absurd h j
theorem pX (first:Bool):(aL first).all (λx=>decide (0<=x.1.1)&&decide (x.1.1<=63)&&decide (1<=x.1.2)&&decide (x.1.2<=127))=true:=by cases first<;>kernel_rfl
theorem yo (v:Int):(if v<0 then[(49:UInt8)] else[48]).length=1:=by split<;>rfl
theorem qg (p:Int×Int)(first:Bool):(cw p first).length<=20:=by
 unfold cw
 split
 ·rw[FE];exact Nat.le_refl _
 ·rename_i D
  obtain⟨k,C,B,h2,G⟩:=mX _ (by simpa using D);have j:=Y.1 (Bu first) _ (OA C);simp only[Z,decide_eq_true_eq] at j;rw[B,U,yo];omega
theorem qU {p:Int×Int}:∀(T:List oY),(∀e∈T,1<=e.2.length)->∀k (j:k<O T),T[k].1.1=p.1->(T[k].1.2=p.2\/T[k].1.2= -p.2)->cA p T≠[]
 |[],_,k,j,_,_=>by simp at j
 |(q,c)::T,ha,k,j,h1,h2=>by
  unfold cA
  split
  ·have:=ha (q,c) (by simp)
   intro h;rw[h] at this;simp at this
  ·rename_i B
   cases k with
   |zero=>exact absurd (by simp only[Z,X,beq_iff_eq];exact⟨h1,h2⟩) B
   |succ k=>exact qU T (λe he=>ha e (OE _ he)) k (by simpa using j) h1 h2
theorem Fy {first:Bool}{p:Int×Int}{k:Nat}(D:k<(aL first).length)(K:(aL first)[k].1.1=p.1)(h2:(aL first)[k].1.2=p.2\/(aL first)[k].1.2= -p.2):(cw p first).length=(aL first)[k].2.length+1:=by
 have B:=qU (aL first) (λe he=>by have C:=Y.1 (Bu first) _ he;simp only[Z,decide_eq_true_eq] at C;omega) k D K h2;obtain⟨j,G,I,T,e3⟩:=mX _ B;have M:=Y.1 (pX first) _ (OA G);have N:=Y.1 (pX first) _ (OA D);simp only[Z,decide_eq_true_eq] at M N;have:j=k:=IK G D (Prod.ext (by omega) (by omega));subst this;unfold cw;rw[if_neg (by simpa using B),I,U,yo]
theorem xF:∀(s:List UInt8)(n:Nat),O s=n->(∀c∈s,c=48\/c=49)->cz s<2 ^ n:=by
 intro s n
 induction n generalizing s with
 |zero=>intro B _;rw[List.length_eq_zero_iff.1 B];decide
 |succ n ih=>
  intro B h;have j:s≠[]:=(by intro e;rw[e] at B;cases B);have e:=List.dropLast_concat_getLast j;rw[<-e,sg];have D:=ih s.dropLast (by rw[List.length_dropLast,B];rfl) (λc C=>h c (List.dropLast_subset s C))
  have h2:(s.getLast j).toNat - 48<=1:=by
   rcases h _ (List.getLast_mem j) with h|h<;>rw[h]<;>decide
  rw[OW];omega
theorem Fw {l:List UInt8}{i:Int}{first:Bool}(h0:0<=i)(h1:i<=8*(O l:Int))(he:(aS l i first).2.2.2=0):
  i+(aS l i first).2.2.1<=8*(O l:Int)/\((aS l i first).2.1=true/\first=false/\(aS l i first).2.2.1=2\/(aS l i first).2.1=false/\dZ (aS l i first).1=true/\((cw (aS l i first).1 first).length:Int)<=(aS l i first).2.2.1):=by
 unfold aS at he⊢;rw[if_neg (by omega),if_neg (by omega)] at he⊢;dsimp only at he⊢;have B:(aI l i.toNat (min 20 (8*O l - i.toNat))).length<=8*O l - i.toNat:=by rw[bo];omega
 have I:(aI l i.toNat (min 20 (8*O l - i.toNat))).length<=20:=by rw[bo];omega
 have C:=l7 l i.toNat (min 20 (8*O l - i.toNat));generalize aI l i.toNat (min 20 (8*O l - i.toNat))=s at B C I he⊢;generalize hm:8*O l - i.toNat=mm at B
 split at he
 ·rename_i h2
  rw[if_pos h2]
  split at he
  ·cases he
  ·rename_i j
   rw[if_neg j]
   split at he
   ·cases he
   ·rename_i G
    rw[if_neg G];dsimp only;have T:=xF ((s.take 12).drop 6) 6 (by simp;omega) (λc K=>C c (List.mem_of_mem_take (OR K)));have h8:=xF (s.drop 12) 8 (by simp;omega) (λc K=>C c (OR K));simp only[X,beq_iff_eq,not_or] at G;refine⟨by omega,.inr ⟨rfl,?_,?_⟩⟩
    ·unfold dZ
     simp only[Z,decide_eq_true_eq,bne_iff_ne];have hb:∀n:Nat,n<256->i8 n≠0->i8 n≠ -128-> -127<=i8 n/\i8 n<=127/\i8 n≠0:= λn hn a b=>by unfold i8 at*;split at* <;>omega
     have:=hb _ (by omega) G.1 G.2;generalize cz ((s.take 12).drop 6)=a at T;refine⟨⟨⟨⟨by omega,by omega⟩,this.1⟩,this.2.1⟩,this.2.2⟩
    ·have:=qg (((cz ((s.take 12).drop 6):Nat):Int),i8 (cz (s.drop 12))) first
     omega
 ·rename_i h2
  rw[if_neg h2]
  split at he
  ·rename_i j
   rw[if_pos j];simp only[Z,OD] at j;have G:=(J.1 j.2).length_le;have e:O bz=2:=rfl;exact⟨by show i+2<=_;omega,.inl ⟨rfl,j.1,rfl⟩⟩
  ·rename_i j
   rw[if_neg j];obtain⟨k,M,D,k2,k3,k4⟩:=rp _ _ he;have r2:=Y.1 (pX first) _ (OA M);simp only[Z,decide_eq_true_eq] at r2
   have hp:∃p,(bZ s (aL first) (!first&&bJ s bz)).1=p/\(aL first)[k].1.1=p.1/\((aL first)[k].1.2=p.2\/(aL first)[k].1.2= -p.2):=by
    rcases D with D|D
    ·exact⟨_,rfl,by rw[D],.inl (by rw[D])⟩
    ·exact⟨_,rfl,by rw[D],.inr (by rw[D];simp)⟩
   obtain⟨p,N,p1,p2⟩:=hp;rw[k2,k3,N];refine⟨by omega,.inr ⟨rfl,?_,?_⟩⟩
   ·unfold dZ
    simp only[Z,decide_eq_true_eq,bne_iff_ne];refine⟨⟨⟨⟨by omega,by omega⟩,by omega⟩,by omega⟩,by omega⟩
   ·rw[Fy M p1 p2]
    omega
theorem Di {p:Int×Int}{L:List (Int×Int)}{a:Int}(h:dZ p=true)(j:p.1<=63 - a)(h2:bG L (a+p.1+1)=0):bG (p::L) a=0:=by
 obtain⟨p0,p1,B,C,D⟩:=rt h;unfold bG;rw[if_neg,if_neg,h2]
 ·simp only[X,decide_eq_true_eq];omega
 ·simp only[X,beq_iff_eq,OD,Bool.and_eq_false_iff,decide_eq_false_iff_not];omega
theorem nR {l:List UInt8}:∀(f:Nat)(i:Int)(first:Bool)(a:Int),0<=i->i<=8*(O l:Int)->0<=a->(bp l f i first (64 - a)).2.2=0->
  bG (bp l f i first (64 - a)).1 a=0/\(first=true->(bp l f i first (64 - a)).1≠[])/\i+((bR (bp l f i first (64 - a)).1 first++bz).length:Int)<=(bp l f i first (64 - a)).2.1/\(bp l f i first (64 - a)).2.1<=8*(O l:Int)
 |0,i,first,a,_,_,_,h=>by cases h
 |f+1,i,first,a,h0,h1,ha,h=>by
  rw[y8] at h⊢
  by_cases he:(aS l i first).2.2.2=0
  ·obtain⟨D,I⟩:=Fw h0 h1 he
   rcases I with⟨B,j,C⟩|⟨B,j,C⟩
   ·rw[if_pos B] at h⊢
    subst j;dsimp only;rw[C] at D⊢;exact⟨rfl,(λh=>by cases h),(by show i+((O bz:Nat):Int)<=i+2;have e:O bz=2:=rfl;omega),D⟩
   ·rw[if_neg (by rw[B];decide),if_neg (by rw[he];decide)] at h⊢
    split at h
    ·cases h
    ·rename_i hl
     rw[if_neg hl];dsimp only at h⊢;have hp:=rt j;have e:(64:Int) - a - ((aS l i first).1.1+1)=64 - (a+(aS l i first).1.1+1):=(by omega);rw[e] at h⊢;have G:(0:Int)<=((cw (aS l i first).1 first).length:Int):=(by omega);obtain⟨i1,i2,i3,M⟩:=nR f (i+(aS l i first).2.2.1) false (a+(aS l i first).1.1+1) (by omega) (by omega) (by omega) h;refine⟨Di j (by omega) i1,(λ_ h=>by cases h),?_,M⟩;rw[bR,ON,U]
     push_cast
     omega
  ·exfalso
   by_cases h2:(aS l i first).2.1=true
   ·have:(aS l i first).2.2.2=0:=by
     unfold aS at h2⊢;rw[if_neg (by omega),if_neg (by omega)] at h2⊢;dsimp only at h2⊢
     split at h2
     ·split at h2
      ·cases h2
      ·split at h2<;>cases h2
     ·rename_i q1
      split at h2
      ·rename_i N;rw[if_neg q1,if_pos N]
      ·exfalso
       have K:∀(T:List oY)(more:Bool)(s:List UInt8),(bZ s T more).2.1=false:= λT=>by
        induction T with
        |nil=>intro more s;rfl
        |cons e T ih=>
         intro more s;show (if !bJ s e.2 then bZ s T more else if (O s)<=e.2.length then bZ s T true else _).2.1=false
         split
         ·exact ih _ _
         ·split
          ·exact ih _ _
          ·rfl
       rw[K] at h2
       cases h2
    exact he this
   ·rw[if_neg h2,if_pos (by simpa using he)] at h
    exact he h
theorem Fm {l:List UInt8}{i:Int}{intra:Bool}(T:0<=i)(h1:i<=8*(O l:Int))(he:(bK l i intra).2.2=0):
  bP (bK l i intra).1 intra=0/\((bN (bK l i intra).1 intra).length:Int)<=(bK l i intra).2.1/\i+(bK l i intra).2.1<=8*(O l:Int):=by
 unfold bK at he⊢;rw[if_neg (by omega),if_neg (by omega)] at he⊢
 cases intra with
 |true=>
  simp only[if_true] at he⊢
  split at he
  ·cases he
  ·rename_i K
   rw[if_neg K]
   split at he
   ·cases he
   ·rename_i D
    rw[if_neg D];have M:aB l i.toNat 8<256:=fF l i.toNat 8;simp only[X,beq_iff_eq,not_or] at D
    by_cases j:(bp l 66 (i+8) false 63).2.2=0
    ·rw[j,if_neg (by decide)]
     have B:(63:Int)=64 - 1:=(by decide);rw[B] at j⊢;obtain⟨i1,G,I,N⟩:=nR 66 (i+8) false 1 (by omega) (by omega) (by decide) j;dsimp only;refine⟨?_,?_,by omega⟩
     ·unfold bP
      rw[if_neg,if_neg (by rw[OS,Oa];decide)]
      ·exact i1
      ·simp only[Oc,X,decide_eq_true_eq,beq_iff_eq];omega
     ·unfold bN
      simp only[if_true,OS];rw[ON,U,bf];rw[show (64:Int) - 1=63 from rfl] at I⊢
      push_cast
      omega
    ·rw[if_pos (by simpa using j)] at he
     exact absurd he j
 |false=>
  simp only[V,if_false] at he⊢
  by_cases j:(bp l 66 i true 64).2.2=0
  ·rw[j,if_neg (by decide)]
   have C:(64:Int)=64 - 0:=(by decide);rw[C] at j⊢;obtain⟨i1,G,I,N⟩:=nR 66 i true 0 (by omega) (by omega) (by decide) j;dsimp only;refine⟨?_,?_,by omega⟩
   ·unfold bP
    rw[if_neg (by rw[Oa];decide),if_neg]
    ·exact i1
    ·simp only[Ob,Oc,X,bne_iff_ne,beq_iff_eq]
     rintro(h|h)
     ·exact h rfl
     ·exact G rfl h
   ·unfold bN
    simp only[V,if_false,Ob,List.nil_append];omega
  ·rw[if_pos (by simpa using j)] at he
   exact absurd he j
theorem tW {l:List UInt8}{intra:Bool}:∀(k:Nat)(i:Int),0<=i->i<=8*(O l:Int)->(cT l intra k i).2.2=0->
  (cT l intra k i).1.length=k/\(∀b∈(cT l intra k i).1,bP b intra=0)/\i+(((cT l intra k i).1.flatMap λb=>bN b intra).length:Int)<=(cT l intra k i).2.1/\(cT l intra k i).2.1<=8*(O l:Int)
 |0,i,h0,h1,_=>by simp[cT];omega
 |k+1,i,h0,h1,h=>by
  have C:cT l intra (k+1) i=(if (bK l i intra).2.2 !=0 then([],0,(bK l i intra).2.2) else((bK l i intra).1::(cT l intra k (i+(bK l i intra).2.1)).1,(cT l intra k (i+(bK l i intra).2.1)).2.1,(cT l intra k (i+(bK l i intra).2.1)).2.2)):=rfl;rw[C] at h⊢
  by_cases he:(bK l i intra).2.2=0
  ·rw[if_neg (by rw[he];decide)] at h⊢
   obtain⟨B,I,K⟩:=Fm h0 h1 he;obtain⟨i1,D,M,G⟩:=tW k (i+(bK l i intra).2.1) (by omega) (by omega) h;refine⟨by rw[OH,i1],λb j=>?_,?_,G⟩
   ·rcases Od.1 j with rfl|j
    ·exact B
    ·exact D b j
   ·dsimp only
    rw[OO,U]
    push_cast
    omega
  ·rw[if_pos (by simpa using he)] at h
   exact absurd h he
theorem uq {s:List UInt8}:∀{cs:List (List UInt8)}{ns:List Int}{n k:Int},cy s cs ns=some (n,k)->∃j,∃B:j<O cs,ns[j]? =some n/\k=cs[j].length
 |[],_,_,_,h=>by simp[cy] at h
 |_::_,[],_,_,h=>by simp[cy] at h
 |c::cs,m::ns,n,k,h=>by
  unfold cy at h
  split at h
  ·simp only[Option.some.injEq,Prod.mk.injEq] at h
   exact⟨0,by simp,by simp[h.1],h.2.symm⟩
  ·obtain⟨j,B,a,b⟩:=uq h
   exact⟨j+1,by simpa using B,by simpa using a,by simpa using b⟩
theorem oH {cs:List (List UInt8)}{ns:List Int}{l:List UInt8}{i:Int}(he:(ac cs ns l i).2.2=0):∃j,∃D:j<O cs,ns[j]? =some (ac cs ns l i).1/\(ac cs ns l i).2.1=cs[j].length:=by
 unfold ac at he⊢
 split at he
 ·cases he
 ·rename_i C
  rw[if_neg C];unfold jZ at he⊢
  cases B:cy (aI l i.toNat (min 24 (8*O l - i.toNat))) cs ns with
  |some p=>obtain⟨n,k⟩:=p;exact uq B
  |none=>
   rw[B] at he;dsimp only at he
   split at he<;>cases he
theorem ur {s:List UInt8}:∀{cs:List (List UInt8)}{ns:List Int}{n k:Int},cy s cs ns=some (n,k)->k<=O s
 |[],_,_,_,h=>by simp[cy] at h
 |_::_,[],_,_,h=>by simp[cy] at h
 |c::cs,m::ns,n,k,h=>by
  unfold cy at h
  split at h
  ·rename_i B
   have j:=(J.1 B).length_le;simp only[Option.some.injEq,Prod.mk.injEq] at h;omega
  ·exact ur h
theorem oG {cs:List (List UInt8)}{ns:List Int}{l:List UInt8}{i:Int}(B:0<=i)(C:i<=8*(O l:Int))(he:(ac cs ns l i).2.2=0):i+(ac cs ns l i).2.1<=8*(O l:Int):=by
 unfold ac at he⊢;rw[if_neg (by omega)] at he⊢;unfold jZ at he⊢;have hl:(aI l i.toNat (min 24 (8*O l - i.toNat))).length<=8*O l - i.toNat:=by rw[bo];omega
 cases j:cy (aI l i.toNat (min 24 (8*O l - i.toNat))) cs ns with
 |some p=>
  obtain⟨n,k⟩:=p;have:=ur j;show i+k<=_;omega
 |none=>
  rw[j] at he;dsimp only at he
  split at he<;>cases he
theorem pJ {n j:Nat}{f:Nat->Int}{k:Int}(h:((OP n).map f)[j]? =some k):j<n/\f j=k:=by
 rw[OY] at h
 by_cases B:j<n
 ·rw[OT B] at h
  exact⟨B,by simpa using h⟩
 ·rw[OJ (by simpa using Nat.le_of_not_lt B)] at h
  cases h
theorem rg {cs:List (List UInt8)}{lo k:Int}{j:Nat}(B:j<O cs)(h:k - lo=(j:Int)):(eh cs lo k).getD []=cs[j]:=by
 unfold eh;rw[if_neg (by omega),h,OM,OB B];rfl
theorem FU {l:List UInt8}{i:Int}(he:(ac aD aN l i).2.2=0):eT (ac aD aN l i).1=true/\(ac aD aN l i).2.1=(eM (ac aD aN l i).1).length/\1<=(ac aD aN l i).2.1:=by
 obtain⟨j,B,C,h2⟩:=oH he;obtain⟨G,I⟩:=pJ C;have D:eM (ac aD aN l i).1=aD[j]:=by unfold eM;exact rg B (by omega)
 have K:=nB mL j B;rw[D,h2];refine⟨?_,rfl,by omega⟩;unfold eT;simp only[Z,decide_eq_true_eq];omega
theorem IQ {l:List UInt8}{i:Int}(he:(ac ao au l i).2.2=0):(ac ao au l i).2.1=(cf (ac ao au l i).1).length/\ -16<=(ac ao au l i).1/\(ac ao au l i).1<=15:=by
 obtain⟨j,D,B,h2⟩:=oH he;obtain⟨G,I⟩:=pJ B;have C:cf (ac ao au l i).1=ao[j]:=by unfold cf;exact rg D (by omega)
 rw[C,h2];exact⟨rfl,by omega,by omega⟩
theorem Ih {l:List UInt8}{i:Int}(he:(ac bm bO l i).2.2=0):(ac bm bO l i).2.1=(iW (ac bm bO l i).1).length/\1<=(ac bm bO l i).1/\(ac bm bO l i).1<=63:=by
 obtain⟨j,D,B,h2⟩:=oH he;obtain⟨G,I⟩:=pJ B;have C:iW (ac bm bO l i).1=bm[j]:=by unfold iW;exact rg D (by omega)
 rw[C,h2];exact⟨rfl,by omega,by omega⟩
theorem yC {j d:Int}(K: -16<=d)(h2:d<=15)(he:(aW j d).2=0):aA (aW j d).1=true/\cY j (aW j d).1=d:=by
 have pb:∀n,aA n=true↔(-15<=n/\n<=15):= λn=>by unfold aA;simp
 unfold aW at he⊢
 split at he
 ·cases he
 ·rename_i D
  rw[if_neg D]
  have G:aA j=true:=by
   simp only[X,not_or,OD,OX] at D;exact D.1.1
  rw[pb] at G
  split at he
  ·rename_i B;rw[if_pos B];refine⟨B,?_⟩;unfold cY;dsimp only;omega
  ·rename_i B;rw[if_neg B]
   split at he
   ·rename_i C;rw[if_pos C];refine⟨C,?_⟩;unfold cY;dsimp only;omega
   ·rename_i C;rw[if_neg C]
    split at he
    ·rename_i I;rw[if_pos I];refine⟨I,?_⟩;unfold cY;dsimp only;omega
    ·cases he
theorem yQ {l:List UInt8}{i pr:Int}(j:0<=i)(B:i<=8*(O l:Int))(he:(iR l i pr).2.2=0):aA (iR l i pr).1=true/\(iR l i pr).2.1=i+((fA pr (iR l i pr).1).length:Int)/\(iR l i pr).2.1<=8*(O l:Int):=by
 unfold iR at he⊢;dsimp only at he⊢
 by_cases h2:(ac ao au l i).2.2=0
 ·rw[if_neg (by rw[h2];decide)] at he⊢
  obtain⟨a,b,c⟩:=IQ h2;obtain⟨d,e⟩:=yC b c he;have f:=oG j B h2;unfold fA;dsimp only;rw[e];exact⟨d,by rw[a],f⟩
 ·rw[if_pos (by simpa using h2)] at he
  exact absurd he h2
theorem xB {l:List UInt8}{i ad:Int}{x:bA}(h0:0<=i)(h1:i<=8*(O l:Int))(he:(cH l i ad x).2.2=0):
  wh (cH l i ad x).1/\(cH l i ad x).1.ad=ad/\da x ad=true/\((dD (cH l i ad x).1 x).length:Int)<=(cH l i ad x).2.1/\i+(cH l i ad x).2.1<=8*(O l:Int)/\1<=(cH l i ad x).2.1:=by
 unfold cH at he⊢
 split at he
 ·cases he
 rename_i g0
 rw[if_neg g0]
 cases hx:da x ad with
 |false=>rw[hx,if_pos (by decide)] at he;cases he
 |true=>
 rw[hx] at he;simp only[OS,V,if_false] at he⊢;have hp:=uL hx;generalize bM:cZ ad (ad - x.ad) x.had x.x x.y=pr at he hp⊢
 by_cases D:(ac aD aN l i).2.2=0
 ·rw[D] at he⊢
  simp only[bne_self_eq_false,V,if_false] at he⊢;obtain⟨k1,k2,k3⟩:=FU D;have k4:=oG h0 h1 D;generalize (ac aD aN l i).1=kd at he k1 k2⊢;generalize (ac aD aN l i).2.1=B at he k2 k3 k4⊢
  have hq:(mq l kd (i+B)).2.2=0->(mq l kd (i+B)).2.1=i+B+((if pQ kd then ak (mq l kd (i+B)).1.toNat 5 else[]).length:Int)/\(mq l kd (i+B)).2.1<=8*(O l:Int)/\(pQ kd=true->1<=(mq l kd (i+B)).1/\(mq l kd (i+B)).1<=31)/\(pQ kd=false->(mq l kd (i+B)).1=0):=by
   unfold mq
   cases hq:pQ kd with
   |true=>
    simp only[if_true]
    split
    ·intro h;cases h
    ·rename_i q1
     split
     ·intro h;cases h
     ·rename_i G
      intro _;have cE:aB l (i+B).toNat 5<32:=fF l (i+B).toNat 5;simp only[beq_iff_eq] at G;rw[bf];dsimp only;exact⟨rfl,by omega,(λ_=>⟨by omega,by omega⟩),(λh=>by cases h)⟩
   |false=>
    simp only[V,if_false];intro _;exact⟨by simp,by omega,(λh=>by cases h),λ_=>trivial⟩
  by_cases q0:(mq l kd (i+B)).2.2=0
  ·rw[q0] at he⊢
   simp only[bne_self_eq_false,V,if_false] at he⊢;obtain⟨q1,G,q3,q4⟩:=hq q0;clear hq q0;generalize (mq l kd (i+B)).1=qu at he q1 q3 q4⊢;generalize (mq l kd (i+B)).2.1=a2 at he q1 G⊢
   have hv:(mv l kd a2 pr.1 pr.2).2.2=0->(mv l kd a2 pr.1 pr.2).2.1=a2+((if pV kd then fA pr.1 (mv l kd a2 pr.1 pr.2).1.1++fA pr.2 (mv l kd a2 pr.1 pr.2).1.2 else[]).length:Int)/\(mv l kd a2 pr.1 pr.2).2.1<=8*(O l:Int)/\aA (mv l kd a2 pr.1 pr.2).1.1=true/\aA (mv l kd a2 pr.1 pr.2).1.2=true/\(pV kd=false->(mv l kd a2 pr.1 pr.2).1.1=0/\(mv l kd a2 pr.1 pr.2).1.2=0):=by
    have av:0<=a2:=(by omega);unfold mv
    cases hv:pV kd with
    |true=>
     simp only[if_true]
     by_cases C:(iR l a2 pr.1).2.2=0
     ·rw[C]
      simp only[bne_self_eq_false,V,if_false];obtain⟨N,T,v3⟩:=yQ av G C
      by_cases w0:(iR l (iR l a2 pr.1).2.1 pr.2).2.2=0
      ·rw[w0]
       simp only[bne_self_eq_false,V,if_false];obtain⟨w1,w2,w3⟩:=yQ (by omega) v3 w0;intro _;refine⟨?_,w3,N,w1,(λh=>by cases h)⟩;rw[w2,U]
       push_cast
       omega
      ·rw[if_pos (by simpa using w0)]
       intro h;exact absurd h w0
     ·rw[if_pos (by simpa using C)]
      intro h;exact absurd h C
    |false=>
     simp only[V,if_false];intro _;exact⟨by simp,G,by decide,by decide,by simp⟩
   by_cases C:(mv l kd a2 pr.1 pr.2).2.2=0
   ·rw[C] at he⊢
    simp only[bne_self_eq_false,V,if_false] at he⊢;obtain⟨N,T,v3,v4,v5⟩:=hv C;clear hv C;generalize (mv l kd a2 pr.1 pr.2).1=cI at he N v3 v4 v5⊢;generalize (mv l kd a2 pr.1 pr.2).2.1=j at he N T⊢;have aJ:0<=j:=by omega
    have M:(mc l kd j).2.2=0->(mc l kd j).2.1=j+((if pC kd then iW (mc l kd j).1 else[]).length:Int)/\(mc l kd j).2.1<=8*(O l:Int)/\(pI kd=true->(mc l kd j).1=63)/\(pI kd=false->pC kd=true->1<=(mc l kd j).1/\(mc l kd j).1<=63)/\(pI kd=false->pC kd=false->(mc l kd j).1=0):=by
     unfold mc
     cases M:pC kd with
     |true=>
      simp only[if_true]
      by_cases c0:(ac bm bO l j).2.2=0
      ·rw[c0]
       simp only[bne_self_eq_false,V,if_false];obtain⟨c1,c2,c3⟩:=Ih c0;have c4:=oG aJ T c0;intro _;exact⟨by rw[c1],c4,(λh=>by rw[Kg M] at h;cases h),(λ_ _=>⟨c2,c3⟩),(λ_ h=>by cases h)⟩
      ·rw[if_pos (by simpa using c0)]
       intro h;exact absurd h c0
     |false=>
      simp only[V,if_false];intro _;refine⟨by simp,T,(λh=>by rw[h];rfl),(λ_ h=>by cases h),(λh _=>by rw[h];rfl)⟩
    by_cases c0:(mc l kd j).2.2=0
    ·rw[c0] at he⊢
     simp only[bne_self_eq_false,V,if_false] at he⊢;obtain⟨c1,c2,c3,c4,c5⟩:=M c0;clear M c0;generalize (mc l kd j).1=pa at he c1 c3 c4 c5⊢;generalize (mc l kd j).2.1=I at he c1 c2⊢
     by_cases K:(cT l (pI kd) (cC pa) I).2.2=0
     ·rw[K] at he⊢
      simp only[bne_self_eq_false,V,if_false] at he⊢;obtain⟨b1,b2,b3,b4⟩:=tW (cC pa) I (by omega) c2 K;generalize (cT l (pI kd) (cC pa) I).1=bl at b1 b2 b3⊢;generalize (cT l (pI kd) (cC pa) I).2.1=a5 at b3 b4⊢;refine⟨⟨k1,by show 1<=ad;omega,by show ad<=33;omega,v3,v4,v5,q3,q4,c3,c4,c5,b1,b2⟩,by trivial,by trivial,?_,by omega,by omega⟩;rw[nl];dsimp only;rw[bM];unfold mQ mV mC mB;dsimp only;simp only[U] at*
      push_cast
      omega
     ·rw[if_pos (by simpa using K)] at he
      exact absurd he K
    ·rw[if_pos (by simpa using c0)] at he
     exact absurd he c0
   ·rw[if_pos (by simpa using C)] at he
    exact absurd he C
  ·rw[if_pos (by simpa using q0)] at he
   exact absurd he q0
 ·rw[if_pos (by simpa using D)] at he
  exact absurd he D
def cU (s:List UInt8):Prop:=∀c∈s,c=48\/c=49
theorem cU.app {s t:List UInt8}(h:cU s)(k:cU t):cU (s++t):= λc j=>by
 rcases List.mem_append.1 j with j|j
 ·exact h c j
 ·exact k c j
theorem eR:cU []:= λc j=>by cases j
theorem jW {s:List UInt8}(h:s.all (λb=>b==48||b==49)=true):cU s:= λc j=>by
 have:=Y.1 h c j
 simpa using this
theorem tX {cs:List (List UInt8)}(j:cs.all cM=true)(k:Nat)(B:k<O cs):cU cs[k]:=by
 have:=Y.1 j _ (OA B);simp only[cM,Z] at this;exact jW this.1.1
theorem ej (n m:Nat):cU (ak n m):= λc B=>by
 unfold ak at B;obtain⟨j,_,rfl⟩:=List.mem_map.1 B
 split
 ·exact .inl rfl
 ·exact .inr rfl
theorem kr {cs:List (List UInt8)}(j:cs.all cM=true)(lo k:Int):cU ((eh cs lo k).getD []):=by
 unfold eh
 split
 ·exact eR
 ·rcases Oe (k - lo).toNat (O cs) with h|h
  ·rw[OB h];exact tX j _ h
  ·rw[OJ h];exact eR
theorem GC (first:Bool):(aL first).all (λe=>e.2.all (λb=>b==48||b==49))=true:=by cases first<;>kernel_rfl
theorem DH (p:Int×Int)(first:Bool):cU (cw p first):=by
 unfold cw
 split
 ·unfold kT
  exact((jW (by decide)).app (ej _ _)).app (ej _ _)
 ·rename_i C
  obtain⟨k,B,j,_⟩:=mX _ (by simpa using C);rw[j];refine(jW (Y.1 (GC first) _ (OA B))).app ?_
  split<;>exact jW (by decide)
theorem rK:∀(L:List (Int×Int))(first:Bool),cU (bR L first)
 |[],_=>eR
 |p::L,first=>(DH p first).app (rK L false)
theorem DG (x:bH)(intra:Bool):cU (bN x intra):=by
 unfold bN;refine(cU.app ?_ (rK _ _)).app (jW (by decide))
 split
 ·exact ej _ _
 ·exact eR
theorem AP (intra:Bool):∀bl:List bH,cU (bl.flatMap λb=>bN b intra)
 |[]=>eR
 |b::bl=>by rw[OO];exact(DG b intra).app (AP intra bl)
theorem uc (m:aX)(x:bA):cU (dD m x):=by
 rw[nl];refine(kr mL _ _).app (cU.app ?_ (cU.app ?_ (cU.app ?_ (AP _ _))))
 ·unfold mQ;split
  ·exact ej _ _
  ·exact eR
 ·unfold mV;split
  ·exact(kr vec_code _ _).app (kr vec_code _ _)
  ·exact eR
 ·unfold mC;split
  ·exact kr ru _ _
  ·exact eR
def aU:List (List UInt8):=[[48,48,48,48,48,48,48,49,49,49,49],[49],[48,49,49],[48,49,48],[48,48,49,49],[48,48,49,48],[48,48,48,49,49],[48,48,48,49,48],[48,48,48,48,49,49,49],[48,48,48,48,49,49,48],
 [48,48,48,48,49,48,49,49],[48,48,48,48,49,48,49,48],[48,48,48,48,49,48,48,49],[48,48,48,48,49,48,48,48],[48,48,48,48,48,49,49,49],[48,48,48,48,48,49,49,48],
 [48,48,48,48,48,49,48,49,49,49],[48,48,48,48,48,49,48,49,49,48],[48,48,48,48,48,49,48,49,48,49],[48,48,48,48,48,49,48,49,48,48],[48,48,48,48,48,49,48,48,49,49],[48,48,48,48,48,49,48,48,49,48],
 [48,48,48,48,48,49,48,48,48,49,49],[48,48,48,48,48,49,48,48,48,49,48],[48,48,48,48,48,49,48,48,48,48,49],[48,48,48,48,48,49,48,48,48,48,48],[48,48,48,48,48,48,49,49,49,49,49],[48,48,48,48,48,48,49,49,49,49,48],
 [48,48,48,48,48,48,49,49,49,48,49],[48,48,48,48,48,48,49,49,49,48,48],[48,48,48,48,48,48,49,49,48,49,49],[48,48,48,48,48,48,49,49,48,49,48],[48,48,48,48,48,48,49,49,48,48,49],[48,48,48,48,48,48,49,49,48,48,48]]
theorem dP:O aU=34:=rfl
def iX (d:Int):List UInt8×Int:=if d<0\/34<=d then([],3) else(aU.getD d.toNat [],0)
def se (a d:Int):Int×Int:=if a<0\/33<a\/d<1\/33<d then(0,3) else if 33<a+d then(0,13) else(a+d,0)
def bW:List UInt8:=List.replicate 15 48
def fD:List (List UInt8):=aU++[bW]
def tD:List Int:=(OP 35).map λ(k:Nat)=>(k:Int)
def qh (r:Int×Int×Int):Int×Int×Int:=if r.1=34 then(34,0,r.2.2) else r
def eA (l:List UInt8) (i:Int):Int×Int×Int:=qh (ac fD tD l i)
theorem wG:fD.all cM=true:=by kernel_rfl
theorem ti (d:Nat)(hd:d<34):fD[d]'(by show d<35;omega)=aU.getD d []:=by
 unfold fD;rw[List.getElem_append_left (by rw[dP];exact hd),OL,OB (by rw[dP];exact hd)];rfl
theorem F4 (d:Nat)(hd:d<35):(tD[d]?).getD 0=(d:Int):=by
 unfold tD;rw[OY,OT hd];rfl
theorem nV:∀(L:List (Int×Int))(first:Bool),(bR L first).length<=20*O L
 |[],_=>by simp[bR]
 |p::L,first=>by
  have j:=qg p first;have h2:=nV L false;rw[bR,U,OH];omega
theorem o7 {x:bH}{intra:Bool}(h:bP x intra=0):(bN x intra).length<=1300:=by
 have D:O x.l<=64:=by
  unfold bP at h
  split at h
  ·cases h
  ·split at h
   ·cases h
   ·have h2:(0:Int)<=dl intra/\dl intra<=64:=by cases intra<;>decide
    have:=sI x.l h2.1 h2.2 h;omega
 have j:=nV x.l (!intra);unfold bN;rw[U,U];have B:(if intra=true then ak x.dc.toNat 8 else[]).length<=8:=by split<;>simp[bf]
 have C:O bz=2:=rfl;omega
theorem AQ (intra:Bool):∀(bl:List bH),(∀b∈bl,bP b intra=0)->(bl.flatMap λb=>bN b intra).length<=1300*O bl
 |[],_=>by simp
 |b::bl,h=>by
  have B:=o7 (h b (by simp));have h2:=AQ intra bl (λc j=>h c (OE _ j));rw[OO,U,OH];omega
theorem ks {cs:List (List UInt8)}(j:cs.all cM=true)(lo k:Int):((eh cs lo k).getD []).length<=24:=by
 unfold eh
 split
 ·simp
 ·rcases Oe (k - lo).toNat (O cs) with h|h
  ·rw[OB h];exact(nB j _ h).2
  ·rw[OJ h];simp
theorem Eg {m:aX}(x:bA)(j:wh m):(dD m x).length<=8000:=by
 have C:(eM m.kd).length<=24:=ks mL _ _;have h2:(mQ m).length<=5:=by unfold mQ;split<;>simp[bf]
 have B:∀a b,(mV m a b).length<=48:= λa b=>by
  unfold mV
  split
  ·have N:(fA a m.x).length<=24:=ks vec_code _ _
   have T:(fA b m.y).length<=24:=ks vec_code _ _;rw[U];omega
  ·simp
 have D:(mC m).length<=24:=by
  unfold mC
  split
  ·exact ks ru _ _
  ·simp
 have G:(mB m).length<=1300*(O m.bl):=AQ _ _ j.bl;have I:cC m.pa<=6:=by unfold cC;split<;>omega
 have K:=j.len;have M:=B (cZ m.ad (m.ad - x.ad) x.had x.x x.y).1 (cZ m.ad (m.ad - x.ad) x.had x.x x.y).2;rw[nl];simp only[U];omega
end Go.Proofs.YthhijgcfbjcgiaaGreatDoor
