/- MacP, PredP, AtP, BackP, BackQ, AgainP, AgainQ, PackP, AdrP, StrP, MLen -/
import Derived.Test.YthhijgcfbjcgiaaGreatDoorS01
import Derived.Lib.Fields
namespace Go.Proofs.YthhijgcfbjcgiaaGreatDoor
open Go Go.RowKit
open List renaming length_append→zAA,isPrefixOf_iff_prefix→zAC,all_eq_true→zAF,getElem_mem→zAG,prefix_or_prefix_of_prefix→zAH,getElem?_eq_getElem→zAI,append_assoc→zAK,prefix_iff_eq_take→zAN,mem_range→zAQ,prefix_append→zAS,flatMap_cons→zAT,length_cons→zAV,take_length→zAW,getElem?_eq_none→zAX,mem_cons_of_mem→zAY,range→zAZ,take_append_of_le_length→zA1,getElem?_range→zA2,map_congr_left→zA3,getD→zA5,getElem?_map→zA6,append_inj→zA7,map_append→zA8,take_of_length_le→zA9,mem_of_mem_drop→zAb,nil_append→zAd,range_succ→zAe
open Bool renaming and_eq_true→zAB,false_eq_true→zAD,or_eq_true→zAE,not_eq_true→zAL,not_eq_true'→zAO,not_false→zAP,true_and→zAR,not_true→zAU,false_and→zA4,not_eq_false→zAc
open Int renaming toNat_natCast→zAJ,natCast_add→zAM,not_lt→zAi
open Nat renaming pow_succ→zA0,div_div_eq_div_mul→zAa,min_eq_left→zAf,lt_or_ge→zAg,mul_comm→zAh
def gY (k:Int):Bool:=decide (1≤k)&&decide (k≤10)
def pI (k:Int):Bool:=decide (1≤k)&&decide (k≤2)
def pQ (k:Int):Bool:=k==2||k==4||k==7||k==10
def pV (k:Int):Bool:=decide (5≤k)&&decide (k≤10)
def pF (k:Int):Bool:=decide (8≤k)&&decide (k≤10)
def pC (k:Int):Bool:=k==3||k==4||k==6||k==7||k==9||k==10
def dG (cs:List (List UInt8)) (lo k:Int):Option (List UInt8):=if k<lo then none else cs[(k - lo).toNat]?
def eI (k:Int):List UInt8:=(dG aA 1 k).getD []
def cy (d:Int):List UInt8:=(dG aj (-16) d).getD []
def i6 (p:Int):List UInt8:=(dG bH 1 p).getD []
def aH (n:Int):Bool:=decide (-15≤n)&&decide (n≤15)
def el (fr to:Int):Int:=(to - fr+80) % 32 - 16
def bf (pr d:Int):Int×Int:=
 if !aH pr||decide (d< -16)||decide (15<d) then (0,3) else
 if aH (pr+d) then (pr+d,0) else if aH (pr+d+32) then (pr+d+32,0) else if aH (pr+d - 32) then (pr+d - 32,0) else (0,12)
def FD (ad d:Int) (had:Bool):Bool:= !had||d !=1||ad==1||ad==12||ad==23
def dy (ad d:Int) (had:Bool) (x y:Int):Int×Int:=if FD ad d had then (0,0) else (x,y)
def cI (p:Int):Nat:=if 1≤p∧p≤63 then p.toNat / 32 % 2+p.toNat / 16 % 2+p.toNat / 8 % 2+p.toNat / 4 % 2+p.toNat / 2 % 2+p.toNat % 2 else 0
def ax (n:Nat) (m:Nat):List UInt8:=(zAZ m).map fun j=>if n / 2 ^ (m - 1 - j) % 2=0 then 48 else 49
structure bB where
 dc:Int
 l:List (Int×Int)
structure aU where
 ad:Int
 kd:Int
 qu:Int
 x:Int
 y:Int
 pa:Int
 bl:List bB
structure bD where
 ad:Int
 had:Bool
 x:Int
 y:Int
def fP:List (List UInt8):=[[49,49,32,48,49,48,48,32,48,48,49,48,49,32,48,48,48,48,49,49,48,32,48,48,49,48,48,49,49,48,32,48,48,49,48,48,48,48,49,32,48,48,48,48,48,48,49,48,49,48,32,48,48,48,48,48,48,48,49,49,49,48,49,32,48,48,48,48,48,48,48,49,49,48,48,48,32,48,48,48,48,48,48,48,49,48,48,49,49,32,48,48,48,48,48,48,48,49,48,48,48,48,32,48,48,48,48,48,48,48,48,49,49,48,49,48,32,48,48,48,48,48,48,48,48,49,49,48,48,49,32,48,48,48,48,48,48,48,48,49,49,48,48,48,32,48,48,48,48,48,48,48,48,49,48,49,49,49],[48,49,49,32,48,48,48,49,49,48,32,48,48,49,48,48,49,48,49,32,48,48,48,48,48,48,49,49,48,48,32,48,48,48,48,48,48,48,49,49,48,49,49,32,48,48,48,48,48,48,48,48,49,48,49,49,48,32,48,48,48,48,48,48,48,48,49,48,49,48,49],[48,49,48,49,32,48,48,48,48,49,48,48,32,48,48,48,48,48,48,49,48,49,49,32,48,48,48,48,48,48,48,49,48,49,48,48,32,48,48,48,48,48,48,48,48,49,48,49,48,48],[48,48,49,49,49,32,48,48,49,48,48,49,48,48,32,48,48,48,48,48,48,48,49,49,49,48,48,32,48,48,48,48,48,48,48,48,49,48,48,49,49],[48,48,49,49,48,32,48,48,48,48,48,48,49,49,49,49,32,48,48,48,48,48,48,48,49,48,48,49,48],[48,48,48,49,49,49,32,48,48,48,48,48,48,49,48,48,49,32,48,48,48,48,48,48,48,48,49,48,48,49,48],[48,48,48,49,48,49,32,48,48,48,48,48,48,48,49,49,49,49,48],[48,48,48,49,48,48,32,48,48,48,48,48,48,48,49,48,49,48,49],[48,48,48,48,49,49,49,32,48,48,48,48,48,48,48,49,48,48,48,49],[48,48,48,48,49,48,49,32,48,48,48,48,48,48,48,48,49,48,48,48,49],[48,48,49,48,48,49,49,49,32,48,48,48,48,48,48,48,48,49,48,48,48,48],[48,48,49,48,48,48,49,49],[48,48,49,48,48,48,49,48],[48,48,49,48,48,48,48,48],[48,48,48,48,48,48,49,49,49,48],[48,48,48,48,48,48,49,49,48,49],[48,48,48,48,48,48,49,48,48,48],[48,48,48,48,48,48,48,49,49,49,49,49],[48,48,48,48,48,48,48,49,49,48,49,48],[48,48,48,48,48,48,48,49,49,48,48,49],[48,48,48,48,48,48,48,49,48,49,49,49],[48,48,48,48,48,48,48,49,48,49,49,48],[48,48,48,48,48,48,48,48,49,49,49,49,49],[48,48,48,48,48,48,48,48,49,49,49,49,48],[48,48,48,48,48,48,48,48,49,49,49,48,49],[48,48,48,48,48,48,48,48,49,49,49,48,48],[48,48,48,48,48,48,48,48,49,49,48,49,49]]
def fl (first:Bool) (run:Nat):Nat→List (List UInt8)→List ((Int×Int)×List UInt8)
 |_,[]=>[]
 |i,c::cs=>(((run:Int),(i:Int)+1),if first&&run==0&&i==0 then [49] else c)::fl first run (i+1) cs
def dM (first:Bool):Nat→List (List UInt8)→List ((Int×Int)×List UInt8)
 |_,[]=>[]
 |r,x::xs=>fl first r 0 (Lib.fields x)++dM first (r+1) xs
def aX (first:Bool):List ((Int×Int)×List UInt8):=dM first 0 fP
def fX:List UInt8:=[48,48,48,48,48,49]
def bJ:List UInt8:=[49,48]
def bW (a b:List UInt8):Bool:=a.take (min a.length b.length)==b.take (min a.length b.length)
def bL (s:List UInt8):List ((Int×Int)×List UInt8)→Bool→(Int×Int)×Bool×Int×Int
 |[],more=>((0,0),false,0,if more then 5 else 7)
 |(p,c)::T,more=>if !bW s c then bL s T more else if s.length≤c.length then bL s T true else ((p.1,if s.getD c.length 0==49 then -p.2 else p.2),false,(c.length:Int)+1,0)
def cJ (s:List UInt8):Nat:=s.foldl (fun a c=>2*a+(c.toNat - 48)) 0
def i8 (n:Nat):Int:=if n<128 then n else (n:Int) - 256
def aL (l:List UInt8) (i:Int) (first:Bool):(Int×Int)×Bool×Int×Int:=
 if i<0 then ((0,0),false,0,3) else if 8*(l.length:Int)<i then ((0,0),false,0,5) else
 let s:=aC l i.toNat (min 20 (8*l.length - i.toNat))
 if bW s fX then
  if s.length<20 then ((0,0),false,0,5) else
  if i8 (cJ (s.drop 12))==0||i8 (cJ (s.drop 12))== -128 then ((0,0),false,0,10) else (((cJ ((s.take 12).drop 6):Nat),i8 (cJ (s.drop 12))),false,20,0)
 else if !first&&bJ.isPrefixOf s then ((0,0),true,2,0)
 else bL s (aX first) (!first&&bW s bJ)
def ft (p:Int×Int):Bool:=decide (0≤p.1)&&decide (p.1≤63)&&decide (-127≤p.2)&&decide (p.2≤127)&&p.2 !=0
def dY (p:Int×Int):List ((Int×Int)×List UInt8)→List UInt8
 |[]=>[]
 |(q,c)::T=>if q.1==p.1&&(q.2==p.2||q.2== -p.2) then c else dY p T
def iL (p:Int×Int):List UInt8:=fX++ax p.1.toNat 6++ax (p.2 % 256).toNat 8
def cH (p:Int×Int) (first:Bool):List UInt8:=
 if dY p (aX first)==[] then iL p else dY p (aX first)++(if p.2<0 then [49] else [48])
def ck:List (Int×Int)→Int→Int
 |[],_=>0
 |p::l,at_=>if p.2==0|| !(decide (-127≤p.2)&&decide (p.2≤127)) then 10 else if decide (p.1<0)||decide (63 - at_<p.1) then 11 else ck l (at_+p.1+1)
def eH (intra:Bool):Int:=if intra then 1 else 0
def cK (x:bB) (intra:Bool):Int:=
 if intra&&(decide (x.dc<1)||decide (255<x.dc)||x.dc==128) then 10 else if !intra&&(x.dc !=0||x.l==[]) then 2 else ck x.l (eH intra)
def dj:List (Int×Int)→Bool→List UInt8
 |[],_=>[]
 |p::l,first=>cH p first++dj l false
def bU (x:bB) (intra:Bool):List UInt8:=(if intra then ax x.dc.toNat 8 else [])++dj x.l (!intra)++bJ
def bm (l:List UInt8):Nat→Int→Bool→Int→List (Int×Int)×Int×Int
 |0,_,_,_=>([],0,5)
 |f+1,i,first,left=>
  let r:=aL l i first
  if r.2.1 then ([],i+r.2.2.1,0) else if r.2.2.2 !=0 then ([],0,r.2.2.2) else
  if left - (r.1.1+1)<0 then ([],0,11) else
  let q:=bm l f (i+r.2.2.1) false (left - (r.1.1+1))
  (r.1::q.1,q.2.1,q.2.2)
def bd (l:List UInt8) (i:Int) (intra:Bool):bB×Int×Int:=
 if i<0 then (⟨0,[]⟩,0,3) else if 8*(l.length:Int)<i then (⟨0,[]⟩,0,5) else
 if intra then
  if 8*(l.length:Int)<i+8 then (⟨0,[]⟩,0,5) else
  let n:=aF l i.toNat 8
  if n==0||n==128 then (⟨0,[]⟩,0,10) else
  let q:=bm l 66 (i+8) false 63
  if q.2.2 !=0 then (⟨0,[]⟩,0,q.2.2) else (⟨n,q.1⟩,q.2.1 - i,0)
 else
  let q:=bm l 66 i true 64
  if q.2.2 !=0 then (⟨0,[]⟩,0,q.2.2) else (⟨0,q.1⟩,q.2.1 - i,0)
def kQ (m:aU):Bool:=
 gY m.kd&&decide (1≤m.ad)&&decide (m.ad≤33)&&aH m.x&&aH m.y&&(pV m.kd||(m.x==0&&m.y==0))&&
 (if pQ m.kd then decide (1≤m.qu)&&decide (m.qu≤31) else m.qu==0)&&
 (if pI m.kd then m.pa==63 else if pC m.kd then decide (1≤m.pa)&&decide (m.pa≤63) else m.pa==0)&&m.bl.length==cI m.pa&&m.bl.all fun x=>cK x (pI m.kd)==0
def dm (x:bD) (ad:Int):Bool:=decide (0≤x.ad)&&decide (x.ad<ad)&&aH x.x&&aH x.y&&(x.had||(x.x==0&&x.y==0))
def ez (m:aU):bD:=if pV m.kd then ⟨m.ad,true,m.x,m.y⟩ else ⟨m.ad,false,0,0⟩
def fy (fr to:Int):List UInt8:=cy (el fr to)
def dI (m:aU) (x:bD):List UInt8:=
 let pr:=dy m.ad (m.ad - x.ad) x.had x.x x.y
 eI m.kd++(if pQ m.kd then ax m.qu.toNat 5 else [])++(if pV m.kd then fy pr.1 m.x++fy pr.2 m.y else [])++(if pC m.kd then i6 m.pa else [])++m.bl.flatMap fun b=>bU b (pI m.kd)
def su (m:aU) (x:bD):List UInt8×Int:=if kQ m&&dm x m.ad then (dI m x,0) else ([],2)
def m0:aU:=⟨0,0,0,0,0,0,[]⟩
def bP (l:List UInt8) (intra:Bool):Nat→Int→List bB×Int×Int
 |0,i=>([],i,0)
 |n+1,i=>
  let r:=bd l i intra
  if r.2.2 !=0 then ([],0,r.2.2) else
  let q:=bP l intra n (i+r.2.1)
  (r.1::q.1,q.2.1,q.2.2)
def dW (l:List UInt8) (i pr:Int):Int×Int×Int:=
 let r:=ac aj aq l i
 if r.2.2 !=0 then (0,0,r.2.2) else ((bf pr r.1).1,i+r.2.1,(bf pr r.1).2)
def mq (l:List UInt8) (k i:Int):Int×Int×Int:=
 if pQ k then (if 8*(l.length:Int)<i+5 then (0,0,5) else if aF l i.toNat 5==0 then (0,0,9) else ((aF l i.toNat 5:Nat),i+5,0)) else (0,i,0)
def mv (l:List UInt8) (k i x y:Int):(Int×Int)×Int×Int:=
 if pV k then
  let r:=dW l i x
  if r.2.2 !=0 then ((0,0),0,r.2.2) else
  let q:=dW l r.2.1 y
  if q.2.2 !=0 then ((0,0),0,q.2.2) else ((r.1,q.1),q.2.1,0)
 else ((0,0),i,0)
def mc (l:List UInt8) (k i:Int):Int×Int×Int:=
 if pC k then (let r:=ac bH cf l i;if r.2.2 !=0 then (0,0,r.2.2) else (r.1,i+r.2.1,0)) else (if pI k then 63 else 0,i,0)
def bR (l:List UInt8) (i ad:Int) (x:bD):aU×Int×Int:=
 if i<0∨ad<1∨33<ad then (m0,0,3) else if !dm x ad then (m0,0,2) else
 let pr:=dy ad (ad - x.ad) x.had x.x x.y
 let k:=ac aA aM l i
 if k.2.2 !=0 then (m0,0,k.2.2) else
 let q:=mq l k.1 (i+k.2.1)
 if q.2.2 !=0 then (m0,0,q.2.2) else
 let v:=mv l k.1 q.2.1 pr.1 pr.2
 if v.2.2 !=0 then (m0,0,v.2.2) else
 let c:=mc l k.1 v.2.1
 if c.2.2 !=0 then (m0,0,c.2.2) else
 let b:=bP l (pI k.1) (cI c.1) c.2.1
 if b.2.2 !=0 then (m0,0,b.2.2) else (⟨ad,k.1,q.1,v.1.1,v.1.2,c.1,b.1⟩,b.2.1 - i,0)
def b9:bD:=⟨0,false,0,0⟩
theorem iZ {cs:List (List UInt8)} (h:eU cs=true) {i k:Nat} (hi:i<cs.length) (hk:k<cs.length) (hp:cs[k]<+:cs[i]):i=k:=by
 have h1:=zAF.1 h i (zAQ.2 hi)
 have h2:=zAF.1 h1 k (zAQ.2 hk)
 have e1:cs.getD k []=cs[k]:=by simp [zA5,hk]
 have e2:cs.getD i []=cs[i]:=by simp [zA5,hi]
 rw [e1,e2,zAE] at h2
 rcases h2 with h2|h2
 ·exact beq_iff_eq.1 h2
 ·rw [zAO,←zAL,zAC] at h2
  exact absurd hp h2
theorem nW {cs:List (List UInt8)} {lo k:Int} (h1:lo≤k) (h2:(k - lo).toNat<cs.length):dG cs lo k=some (cs[(k - lo).toNat]):=by
 unfold dG
 rw [if_neg (by omega),zAI h2]
theorem gJ:aj.length=32:=by kernel_rfl
theorem gu:aA.length=10:=by kernel_rfl
theorem ma:bH.length=63:=by kernel_rfl
theorem m8 (fr to:Int): -16≤el fr to∧el fr to≤15:=by unfold el;omega
def At (l:List UInt8) (i:Nat) (s:List UInt8):Prop:=i+s.length≤8*l.length∧aC l i s.length=s
def o5 (l:List UInt8) (i:Nat) (s:List UInt8):Prop:=i≤8*l.length∧8*l.length<i+s.length∧aC l i (8*l.length - i)=s.take (8*l.length - i)
theorem hZ (l:List UInt8) (i n m:Nat):aC l i (n+m)=aC l i n++aC l (i+n) m:=by
 unfold aC
 rw [List.range_add,zA8,List.map_map]
 congr 1
 apply zA3
 intro j _
 show cW l (i+(n+j))=cW l (i+n+j)
 congr 1;omega
theorem At.app {l:List UInt8} {i:Nat} {s t:List UInt8} (h:At l i (s++t)):At l i s∧At l (i+s.length) t:=by
 obtain ⟨h1,h2⟩:=h
 rw [zAA,hZ] at h2
 rw [zAA] at h1
 have h3:=zA7 h2 (by simp [bi])
 exact ⟨⟨by omega,h3.1⟩,⟨by omega,h3.2⟩⟩
theorem At.join {l:List UInt8} {i:Nat} {s t:List UInt8} (h:At l i s) (k:At l (i+s.length) t):At l i (s++t):=by
 refine ⟨by have:=k.1;rw [zAA];omega,?_⟩
 rw [zAA,hZ,h.2,k.2]
theorem o5.app {l:List UInt8} {i:Nat} {s t:List UInt8} (h:o5 l i (s++t)):o5 l i s∨(At l i s∧o5 l (i+s.length) t):=by
 obtain ⟨h1,h2,h3⟩:=h
 rw [zAA] at h2
 by_cases hc:8*l.length<i+s.length
 ·refine .inl ⟨h1,hc,?_⟩
  rw [h3,zA1 (by omega)]
 ·obtain ⟨m,hm⟩:∃m,8*l.length - i=s.length+m:=⟨8*l.length - i - s.length,by omega⟩
  rw [hm,hZ,List.take_append,zA9 (by omega)] at h3
  have h4:=zA7 h3 (by simp [bi])
  refine .inr ⟨⟨by omega,h4.1⟩,by omega,by omega,?_⟩
  have e:8*l.length - (i+s.length)=m:=by omega
  rw [e,h4.2]
  congr 1;omega
theorem o5.ne {l:List UInt8} {i:Nat} (h:o5 l i []):False:=by have:=h.2.1;have:=h.1;simp at*;omega
theorem At.window {l:List UInt8} {i:Nat} {s:List UInt8} (h:At l i s) (n:Nat) (hn:s.length≤n):s<+:aC l i (min n (8*l.length - i)):=by
 obtain ⟨m,hm⟩:∃m,min n (8*l.length - i)=s.length+m:=⟨min n (8*l.length - i) - s.length,by have:=h.1;omega⟩
 rw [hm,hZ,h.2]
 exact ⟨_,rfl⟩
theorem o5.window {l:List UInt8} {i:Nat} {s:List UInt8} (h:o5 l i s) (n:Nat) (hn:s.length≤n):aC l i (min n (8*l.length - i))=s.take (8*l.length - i)∧8*l.length - i<s.length:=by
 have h1:=h.1;have h2:=h.2.1
 have e:min n (8*l.length - i)=8*l.length - i:=by omega
 rw [e]
 exact ⟨h.2.2,by omega⟩
theorem rj {cs:List (List UInt8)}:∀{ns:List Int} (s:List UInt8) (k:Nat) (hk:k<cs.length),cs.length=ns.length→cs[k]<+:s→(∀i (hi:i<cs.length),cs[i]<+:s→i=k)→bK s cs ns=some ((ns[k]?).getD 0,(cs[k].length:Int)):=by
 induction cs with
 |nil=>intro ns s k hk;simp at hk
 |cons c cs ih=>
  intro ns s k hk hl hp hu
  cases ns with
  |nil=>simp at hl
  |cons n ns=>
   rw [bK]
   cases k with
   |zero=>
    have h1:c.isPrefixOf s=true:=zAC.2 hp
    simp [h1]
   |succ k=>
    have h1:c.isPrefixOf s=false:=by
     rw [←zAL,zAC]
     intro h2
     have:=hu 0 (by simp) h2
     omega
    rw [h1]
    have h3:=ih (ns:=ns) s k (by simpa using hk) (by simpa using hl) (by simpa using hp) (fun i hi h2=>by
     have:=hu (i+1) (by simpa using hi) (by simpa using h2)
     omega)
    simpa using h3
theorem rZ {cs:List (List UInt8)}:∀{ns:List Int} (s:List UInt8),(∀i (hi:i<cs.length),¬cs[i]<+:s)→bK s cs ns=none:=by
 induction cs with
 |nil=>intro ns s _;rw [bK.eq_def]
 |cons c cs ih=>
  intro ns s hu
  cases ns with
  |nil=>rw [bK.eq_def]
  |cons n ns=>
   rw [bK]
   have h1:c.isPrefixOf s=false:=by
    rw [←zAL,zAC]
    exact hu 0 (by simp)
   rw [h1]
   have h3:=ih (ns:=ns) s (fun i hi=>by
    have h4:=hu (i+1) (by simpa using hi)
    rw [List.getElem_cons_succ] at h4
    exact h4)
   simpa using h3
theorem nu {cs:List (List UInt8)} (hc:cs.all dr=true) (k:Nat) (hk:k<cs.length):1≤cs[k].length∧cs[k].length≤24:=by
 have:=zAF.1 hc _ (zAG hk)
 simp only [dr,zAB,decide_eq_true_eq] at this
 exact ⟨this.1.2,this.2⟩
theorem nE {cs:List (List UInt8)} {ns:List Int} (hf:eU cs=true) (hc:cs.all dr=true) (hl:cs.length=ns.length) (k:Nat) (hk:k<cs.length) {l:List UInt8} {i:Nat} (h:At l i cs[k]):ac cs ns l i=((ns[k]?).getD 0,(cs[k].length:Int),0):=by
 have hw:=h.window 24 (nu hc k hk).2
 unfold ac
 rw [if_neg (by omega),zAJ]
 unfold jL
 rw [rj _ k hk hl hw (fun j hj hp=>by
  rcases zAH hp hw with h3|h3
  ·exact (iZ hf hk hj h3).symm
  ·exact iZ hf hj hk h3)]
theorem Gk {cs:List (List UInt8)} {ns:List Int} (hf:eU cs=true) (hc:cs.all dr=true) (k:Nat) (hk:k<cs.length) {l:List UInt8} {i:Nat} (h:o5 l i cs[k]):ac cs ns l i=(0,0,5):=by
 have hw:=h.window 24 (nu hc k hk).2
 unfold ac
 rw [if_neg (by omega),zAJ]
 unfold jL
 have hp:aC l i (min 24 (8*l.length - i))<+:cs[k]:=by rw [hw.1];exact List.take_prefix _ _
 have hlt:(aC l i (min 24 (8*l.length - i))).length<cs[k].length:=by rw [hw.1,List.length_take];have:=hw.2;omega
 rw [rZ _ (fun j hj hp2=>by
  have h4:=iZ hf hk hj (hp2.trans hp)
  subst h4
  have:=hp2.length_le
  omega)]
 have h5:cs.any (fun c=>(aC l i (min 24 (8*l.length - i))).isPrefixOf c)=true:=List.any_eq_true.2 ⟨cs[k],zAG hk,zAC.2 hp⟩
 simp only [h5,if_true]
theorem aJ (n m:Nat):(ax n m).length=m:=by simp [ax]
theorem pB (l:List UInt8):∀(m i n:Nat),aC l i m=ax n m→n<2 ^ m→aF l i m=n
 |0,i,n,_,h=>by simp [aF];simp at h;omega
 |m+1,i,n,he,h=>by
  have e1:ax n (m+1)=ax (n / 2) m++[if n % 2=0 then 48 else 49]:=by
   unfold ax
   rw [zAe,zA8]
   congr 1
   ·apply zA3
    intro j hj
    have hj:=zAQ.1 hj
    have e:m+1 - 1 - j=(m - 1 - j)+1:=by omega
    rw [e,zA0,zAh,←zAa]
   ·simp
  rw [kW,e1] at he
  have h2:=zA7 he (by rw [bi,aJ])
  have ih:=pB l m i (n / 2) h2.1 (by rw [zA0] at h;omega)
  rw [aF,ih]
  have h3:cW l (i+m)=if n % 2=0 then 48 else 49:=by simpa using h2.2
  have h4:=gT l (i+m)
  unfold cW at h3
  have h5:(aP l (i+m)=0)↔(n % 2=0):=by
   constructor
   ·intro h6;by_cases h7:n % 2=0
    ·exact h7
    ·rw [if_pos h6,if_neg h7] at h3;cases h3
   ·intro h7;by_cases h6:aP l (i+m)=0
    ·exact h6
    ·rw [if_neg h6,if_pos h7] at h3;cases h3
  omega
theorem pE {l:List UInt8} {i n m:Nat} (h:At l i (ax n m)) (hn:n<2 ^ m):aF l i m=n:=pB l m i n (by have:=h.2;rwa [aJ] at this) hn
theorem kC {s c:List UInt8} {p:Int×Int} {T:List ((Int×Int)×List UInt8)} {more:Bool} (h:bW s c=false):bL s ((p,c)::T) more=bL s T more:=by
 show (if !bW s c then _ else _)=_
 rw [h];rfl
theorem lZ {s c:List UInt8} {p:Int×Int} {T:List ((Int×Int)×List UInt8)} {more:Bool} (h:bW s c=true) (hl:s.length≤c.length):bL s ((p,c)::T) more=bL s T true:=by
 show (if !bW s c then _ else if s.length≤c.length then _ else _)=_
 rw [h,if_neg (by decide),if_pos hl]
theorem lg {s c:List UInt8} {p:Int×Int} {T:List ((Int×Int)×List UInt8)} {more:Bool} (h:bW s c=true) (hl:¬s.length≤c.length):bL s ((p,c)::T) more=((p.1,if s.getD c.length 0==49 then -p.2 else p.2),false,(c.length:Int)+1,0):=by
 show (if !bW s c then _ else if s.length≤c.length then _ else _)=_
 rw [h,if_neg (by decide),if_neg hl]
theorem sD (s:List UInt8) (c:UInt8):cJ (s++[c])=2*cJ s+(c.toNat - 48):=by unfold cJ;rw [List.foldl_append];rfl
theorem dP {a b:List UInt8}:bW a b=true↔(a<+:b∨b<+:a):=by
 unfold bW
 rw [beq_iff_eq]
 rcases Nat.le_total a.length b.length with h|h
 ·rw [zAf h,zAW]
  constructor
  ·exact fun e=> .inl (zAN.2 e)
  ·rintro (h2|h2)
   ·exact zAN.1 h2
   ·have e:=h2.eq_of_length (by have:=h2.length_le;omega)
    rw [e,zAW]
 ·rw [Nat.min_eq_right h,zAW]
  constructor
  ·exact fun e=> .inr (zAN.2 e.symm)
  ·rintro (h2|h2)
   ·have e:=h2.eq_of_length (by have:=h2.length_le;omega)
    rw [e,zAW]
   ·exact (zAN.1 h2).symm
abbrev wl:Type:=(Int×Int)×List UInt8
theorem xq {s:List UInt8} {b:UInt8}:∀(T:List wl) (more:Bool) (k:Nat) (hk:k<T.length),(∀j (hj:j<T.length),(T[j].2<+:T[k].2∨T[k].2<+:T[j].2)→j=k)→T[k].2++[b]<+:s→
  bL s T more=((T[k].1.1,if b==49 then -T[k].1.2 else T[k].1.2),false,(T[k].2.length:Int)+1,0)
 |[],_,k,hk,_,_=>by simp at hk
 |(p,c)::T,more,0,hk,hf,hp=>by
  have hp:c++[b]<+:s:=hp
  have h1:c<+:s:=(zAS c [b]).trans hp
  have h2:c.length+1≤s.length:=by have:=hp.length_le;simpa using this
  rw [lg (dP.2 (.inr h1)) (by omega)]
  obtain ⟨t,rfl⟩:=hp
  have e:((c++[b])++t).getD c.length 0=b:=by simp [zA5]
  rw [e]
  rfl
 |(p,c)::T,more,k+1,hk,hf,hp=>by
  have hk':k<T.length:=by simpa using hk
  have hp:T[k].2++[b]<+:s:=hp
  have h1:T[k].2<+:s:=(zAS _ [b]).trans hp
  have hs:bW s c=false:=by
   rw [←zAL,dP]
   intro h
   have h3:c<+:T[k].2∨T[k].2<+:c:=by
    rcases h with h|h
    ·exact .inr (h1.trans h)
    ·exact zAH h h1
   have:=hf 0 (by simp) h3
   omega
  rw [kC hs]
  exact xq T more k hk' (fun j hj h=>by have:=hf (j+1) (by simpa using hj) h;omega) hp
theorem yV:eU (fX::bJ::(aX false).map (·.2))=true:=by kernel_rfl
theorem yU:eU (fX::(aX true).map (·.2))=true:=by kernel_rfl
theorem qx (first:Bool):(aX first).all (fun e=>decide (0<e.1.2)&&decide (1≤e.2.length)&&decide (e.2.length≤19))=true:=by cases first<;>kernel_rfl
theorem rI (first:Bool) {k:Nat} (hk:k<(aX first).length):(∀j (hj:j<(aX first).length),((aX first)[j].2<+:(aX first)[k].2∨(aX first)[k].2<+:(aX first)[j].2)→j=k)∧
  ¬(fX<+:(aX first)[k].2)∧¬((aX first)[k].2<+:fX)∧(first=false→¬(bJ<+:(aX first)[k].2)∧¬((aX first)[k].2<+:bJ)):=by
 cases first with
 |true=>
  have h:= @iZ _ yU
  have e:∀j (hj:j<(aX true).length),∃hj':j+1<(fX::(aX true).map (·.2)).length,(fX::(aX true).map (·.2))[j+1]=(aX true)[j].2:=fun j hj=>⟨by simp [hj],by simp⟩
  obtain ⟨k1,k2⟩:=e k hk
  refine ⟨fun j hj h2=>?_,fun h2=>?_,fun h2=>?_,fun h=>by cases h⟩
  ·obtain ⟨j1,j2⟩:=e j hj
   rcases h2 with h2|h2
   ·have:=h k1 j1 (by rw [j2,k2];exact h2);omega
   ·have:=h j1 k1 (by rw [j2,k2];exact h2);omega
  ·have:=h (i:=k+1) (k:=0) k1 (by simp) (by rw [k2];exact h2);omega
  ·have:=h (i:=0) (k:=k+1) (by simp) k1 (by rw [k2];exact h2);omega
 |false=>
  have h:= @iZ _ yV
  have e:∀j (hj:j<(aX false).length),∃hj':j+2<(fX::bJ::(aX false).map (·.2)).length,(fX::bJ::(aX false).map (·.2))[j+2]=(aX false)[j].2:=fun j hj=>⟨by simp [hj],by simp⟩
  obtain ⟨k1,k2⟩:=e k hk
  refine ⟨fun j hj h2=>?_,fun h2=>?_,fun h2=>?_,fun _=>⟨fun h2=>?_,fun h2=>?_⟩⟩
  ·obtain ⟨j1,j2⟩:=e j hj
   rcases h2 with h2|h2
   ·have:=h k1 j1 (by rw [j2,k2];exact h2);omega
   ·have:=h j1 k1 (by rw [j2,k2];exact h2);omega
  ·have:=h (i:=k+2) (k:=0) k1 (by simp) (by rw [k2];exact h2);omega
  ·have:=h (i:=0) (k:=k+2) (by simp) k1 (by rw [k2];exact h2);omega
  ·have:=h (i:=k+2) (k:=1) k1 (by simp) (by rw [k2];exact h2);omega
  ·have:=h (i:=1) (k:=k+2) (by simp) k1 (by rw [k2];exact h2);omega
theorem kF {p:Int×Int}:∀(T:List wl),dY p T≠[]→∃k,∃hk:k<T.length,dY p T=T[k].2∧T[k].1.1=p.1∧(T[k].1.2=p.2∨T[k].1.2= -p.2)
 |[],h=>absurd rfl h
 |(q,c)::T,h=>by
  unfold dY at h⊢
  split
  ·rename_i hq
   simp only [zAB,zAE,beq_iff_eq] at hq
   exact ⟨0,by simp,rfl,hq.1,hq.2⟩
  ·rename_i hq
   rw [if_neg hq] at h
   obtain ⟨k,hk,h1,h2⟩:=kF T h
   exact ⟨k+1,by simpa using hk,h1,h2⟩
theorem Dy (n m:Nat):ax n (m+1)=ax (n / 2) m++[if n % 2=0 then 48 else 49]:=by
 unfold ax
 rw [zAe,zA8]
 congr 1
 ·apply zA3
  intro j hj
  have hj:=zAQ.1 hj
  have e:m+1 - 1 - j=(m - 1 - j)+1:=by omega
  rw [e,zA0,zAh,←zAa]
 ·simp
theorem pD:∀(m n:Nat),n<2 ^ m→cJ (ax n m)=n
 |0,n,h=>by simp at h;subst h;rfl
 |m+1,n,h=>by
  rw [Dy,sD,pD m (n / 2) (by rw [zA0] at h;omega)]
  by_cases h2:n % 2=0
  ·rw [if_pos h2];show 2*(n / 2)+(48 - 48)=n;omega
  ·rw [if_neg h2];show 2*(n / 2)+(49 - 48)=n;omega
theorem l9 {p:Int×Int} (h:ft p=true):0≤p.1∧p.1≤63∧ -127≤p.2∧p.2≤127∧p.2≠0:=by
 unfold ft at h
 simp only [zAB,decide_eq_true_eq,bne_iff_ne] at h
 exact ⟨h.1.1.1.1,h.1.1.1.2,h.1.1.2,h.1.2,h.2⟩
theorem lX (p:Int×Int):(iL p).length=20:=by unfold iL;simp [aJ];rfl
theorem E9 {l:List UInt8} {i:Nat} {first:Bool} {p:Int×Int} (hp:ft p=true) (h:At l i (iL p)):aL l i first=(p,false,20,0):=by
 obtain ⟨p0,p1,p2,p3,p4⟩:=l9 hp
 have h1:=h.1
 rw [lX] at h1
 unfold aL
 rw [if_neg (by omega),if_neg (by omega),zAJ]
 have hw:aC l i (min 20 (8*l.length - i))=iL p:=by
  rw [zAf (by omega)]
  have:=h.2
  rwa [lX] at this
 dsimp only
 rw [hw]
 have hs:bW (iL p) fX=true:=dP.2 (.inr (by unfold iL;rw [zAK];exact zAS _ _))
 have e1:(iL p).drop 12=ax (p.2 % 256).toNat 8:=by
  unfold iL
  rw [List.drop_append,List.drop_eq_nil_of_le (by rw [zAA,aJ];decide)]
  have:12 - (fX++ax p.1.toNat 6).length=0:=by rw [zAA,aJ];rfl
  rw [this];rfl
 have e2:((iL p).take 12).drop 6=ax p.1.toNat 6:=by
  unfold iL
  rw [zA1 (by rw [zAA,aJ];decide),zA9 (by rw [zAA,aJ];decide)]
  rw [show (6:Nat)=fX.length from rfl,List.drop_left]
 rw [if_pos hs,lX,if_neg (by decide),e1,e2,pD 8 _ (by omega),pD 6 _ (by omega)]
 have e3:i8 (p.2 % 256).toNat=p.2:=by unfold i8;split<;>omega
 rw [e3,if_neg (by simp only [zAE,beq_iff_eq];omega)]
 have e4:((p.1.toNat:Nat):Int)=p.1:=by omega
 rw [e4]
theorem BB {l:List UInt8} {i:Nat} {first:Bool} {p:Int×Int} {k:Nat} (hk:k<(aX first).length) (hq:(aX first)[k].1.1=p.1) (hv:(aX first)[k].1.2=p.2∨(aX first)[k].1.2= -p.2) (h:At l i ((aX first)[k].2++(if p.2<0 then [49] else [48]))):
  aL l i first=(p,false,((aX first)[k].2.length:Int)+1,0):=by
 obtain ⟨f1,f2,f3,f4⟩:=rI first hk
 have hpos:=zAF.1 (qx first) _ (zAG hk)
 simp only [zAB,decide_eq_true_eq] at hpos
 obtain ⟨b,hb⟩:∃b:UInt8,(if p.2<0 then [(49:UInt8)] else [48])=[b]:=by split<;>exact ⟨_,rfl⟩
 rw [hb] at h
 have h1:=h.1
 rw [zAA] at h1
 have hw:=h.window 20 (by rw [zAA,List.length_singleton];omega)
 unfold aL
 rw [if_neg (by omega),if_neg (by omega),zAJ]
 dsimp only
 have hc:(aX first)[k].2<+:aC l i (min 20 (8*l.length - i)):=(zAS _ [b]).trans hw
 have he:bW (aC l i (min 20 (8*l.length - i))) fX=false:=by
  rw [←zAL,dP]
  rintro (h2|h2)
  ·exact f3 (hc.trans h2)
  ·rcases zAH h2 hc with h3|h3
   ·exact f2 h3
   ·exact f3 h3
 have hn:(!first&&bJ.isPrefixOf (aC l i (min 20 (8*l.length - i))))=false:=by
  cases first with
  |true=>rfl
  |false=>
   obtain ⟨g1,g2⟩:=f4 rfl
   rw [zAP,zAR,←zAL,zAC]
   intro h2
   rcases zAH h2 hc with h3|h3
   ·exact g1 h3
   ·exact g2 h3
 rw [he,hn,if_neg (by decide),if_neg (by decide),xq (b:=b) (aX first) _ k hk f1 hw]
 have e:(if b==49 then -(aX first)[k].1.2 else (aX first)[k].1.2)=p.2:=by
  by_cases hn:p.2<0
  ·rw [if_pos hn] at hb
   cases hb
   rw [if_pos (by decide)]
   omega
  ·rw [if_neg hn] at hb
   cases hb
   rw [if_neg (by decide)]
   omega
 rw [e,hq]
theorem GM {l:List UInt8} {i:Nat} {first:Bool} {p:Int×Int} (hp:ft p=true) (h:At l i (cH p first)):aL l i first=(p,false,((cH p first).length:Int),0):=by
 unfold cH at h⊢
 by_cases hs:dY p (aX first)=[]
 ·rw [if_pos (by simpa using hs)] at h⊢
  rw [lX]
  exact E9 hp h
 ·rw [if_neg (by simpa using hs)] at h⊢
  obtain ⟨k,hk,h1,h2,h3⟩:=kF _ hs
  rw [h1] at h⊢
  rw [BB hk h2 h3 h,zAA]
  have:(if p.2<0 then [(49:UInt8)] else [48]).length=1:=by split<;>rfl
  rw [this]
  rfl
theorem GL {l:List UInt8} {i:Nat} (h:At l i bJ):aL l i false=((0,0),true,2,0):=by
 have hw:=h.window 20 (by decide)
 have h1:=h.1
 unfold aL
 rw [if_neg (by omega),if_neg (by omega),zAJ]
 dsimp only
 have he:bW (aC l i (min 20 (8*l.length - i))) fX=false:=by
  rw [←zAL,dP]
  rintro (h2|h2)
  ·exact absurd (zAC.2 (hw.trans h2)) (by decide)
  ·rcases zAH h2 hw with h3|h3
   ·exact absurd (zAC.2 h3) (by decide)
   ·exact absurd (zAC.2 h3) (by decide)
 rw [he,if_neg (by decide),zAP,zAR,zAC.2 hw,if_pos rfl]
theorem iQ (l:List UInt8) (f:Nat) (i:Int) (first:Bool) (left:Int):bm l (f+1) i first left=(if (aL l i first).2.1 then ([],i+(aL l i first).2.2.1,0) else if (aL l i first).2.2.2 !=0 then ([],0,(aL l i first).2.2.2) else
   if left - ((aL l i first).1.1+1)<0 then ([],0,11) else
   ((aL l i first).1::(bm l f (i+(aL l i first).2.2.1) false (left - ((aL l i first).1.1+1))).1,(bm l f (i+(aL l i first).2.2.1) false (left - ((aL l i first).1.1+1))).2.1,(bm l f (i+(aL l i first).2.2.1) false (left - ((aL l i first).1.1+1))).2.2)):=rfl
theorem pU {p:Int×Int} {L:List (Int×Int)} {a:Int} (h0:0≤a) (h:ck (p::L) a=0):ft p=true∧p.1≤63 - a∧ck L (a+p.1+1)=0:=by
 unfold ck at h
 split at h
 ·cases h
 ·rename_i h1
  split at h
  ·cases h
  ·rename_i h2
   simp only [zAE,beq_iff_eq,zAO,not_or,zAc,zAB,decide_eq_true_eq,zAi] at h1 h2
   refine ⟨?_,by omega,h⟩
   unfold ft
   simp only [zAB,decide_eq_true_eq,bne_iff_ne]
   exact ⟨⟨⟨⟨h2.1,by omega⟩,h1.2.1⟩,h1.2.2⟩,h1.1⟩
theorem lz:∀(L:List (Int×Int)) {a:Int},0≤a→a≤64→ck L a=0→(L.length:Int)≤64 - a
 |[],a,h0,h1,_=>by simp;omega
 |p::L,a,h0,h1,h=>by
  obtain ⟨h2,h3,h4⟩:=pU h0 h
  have h5:=(l9 h2).1
  have ih:=lz L (by omega) (by omega) h4
  rw [zAV]
  omega
theorem pf {l:List UInt8}:∀(L:List (Int×Int)) (f i:Nat) (first:Bool) (a:Int),L.length<f→0≤a→ck L a=0→(first=true→L≠[])→At l i (dj L first++bJ)→
  bm l f i first (64 - a)=(L,(i:Int)+((dj L first++bJ).length:Int),0)
 |[],0,i,first,a,hf,_,_,_,_=>by simp at hf
 |_::_,0,i,first,a,hf,_,_,_,_=>by simp at hf
 |[],f+1,i,first,a,hf,h0,hs,hn,h=>by
  have hfi:first=false:=by cases first with|true=>exact absurd rfl (hn rfl)|false=>rfl
  subst hfi
  rw [iQ,GL h]
  rfl
 |p::L,f+1,i,first,a,hf,h0,hs,hn,h=>by
  obtain ⟨h2,h3,h4⟩:=pU h0 hs
  have hc:dj (p::L) first++bJ=cH p first++(dj L false++bJ):=by rw [dj,zAK]
  rw [hc] at h⊢
  obtain ⟨h5,h6⟩:=h.app
  rw [iQ,GM h2 h5]
  dsimp only
  have h7:=(l9 h2).1
  have ih:=pf L f (i+(cH p first).length) false (a+p.1+1) (by simpa using hf) (by omega) h4 (fun h=>by cases h) h6
  have e:(64:Int) - a - (p.1+1)=64 - (a+p.1+1):=by omega
  rw [if_neg (by decide),if_neg (by decide),if_neg (by omega),e,←zAM,ih]
  simp only [zAA]
  congr 2
  push_cast
  omega
theorem GG {l:List UInt8} {i:Nat} {x:bB} {intra:Bool} (hx:cK x intra=0) (h:At l i (bU x intra)):bd l i intra=(x,((bU x intra).length:Int),0):=by
 obtain ⟨dc,L⟩:=x
 have h1:=h.1
 unfold cK at hx
 unfold bd
 rw [if_neg (by omega),if_neg (by omega)]
 unfold bU at h h1⊢
 dsimp only at*
 cases intra with
 |true=>
  simp only [zAU,if_true] at h h1⊢
  rw [zAR,zAU,zA4,if_neg (show ¬(false=true) by decide)] at hx
  split at hx
  ·cases hx
  ·rename_i hd
   simp only [zAE,decide_eq_true_eq,beq_iff_eq,not_or,zAi] at hd
   rw [zAK] at h h1⊢
   obtain ⟨h2,h3⟩:=h.app
   rw [zAA,aJ] at h1⊢
   rw [aJ] at h3
   have hn:=pE h2 (by omega)
   have hs:=lz L (a:=1) (by decide) (by decide) hx
   have hb:=pf L 66 (i+8) false 1 (by omega) (by decide) hx (fun h=>by cases h) h3
   have e8:((i:Int)+8)=((i+8:Nat):Int):=by omega
   have e63:(64:Int) - 1=63:=by decide
   rw [e63] at hb
   rw [if_neg (by omega),zAJ,hn,e8,hb]
   dsimp only
   rw [if_neg (by simp only [zAE,beq_iff_eq];omega),if_neg (by decide)]
   have e9:((dc.toNat:Nat):Int)=dc:=by omega
   rw [e9]
   congr 2
   push_cast
   omega
 |false=>
  simp only [zAP,zAD,if_false,zAd] at h h1⊢
  rw [zA4,if_neg (show ¬(false=true) by decide),zAP,zAR] at hx
  split at hx
  ·cases hx
  ·rename_i hd
   simp only [zAE,bne_iff_ne,beq_iff_eq,not_or,Decidable.not_not] at hd
   have hs:=lz L (a:=0) (by decide) (by decide) hx
   have hb:=pf L 66 i true 0 (by omega) (by decide) hx (fun _=>hd.2) h
   rw [Int.sub_zero] at hb
   rw [hb]
   dsimp only
   rw [if_neg (by decide),hd.1]
   congr 2
   omega
theorem ww {l:List UInt8} {intra:Bool}:∀(bl:List bB) (i:Nat),(∀b∈bl,cK b intra=0)→i≤8*l.length→At l i (bl.flatMap fun b=>bU b intra)→bP l intra bl.length i=(bl,(i:Int)+((bl.flatMap fun b=>bU b intra).length:Int),0)
 |[],i,_,_,_=>by simp [bP]
 |b::bl,i,hb,hi,h=>by
  rw [zAT] at h⊢
  obtain ⟨h1,h2⟩:=h.app
  have hu:bP l intra (b::bl).length i=(if (bd l i intra).2.2 !=0 then ([],0,(bd l i intra).2.2) else ((bd l i intra).1::(bP l intra bl.length (i+(bd l i intra).2.1)).1,(bP l intra bl.length (i+(bd l i intra).2.1)).2.1,(bP l intra bl.length (i+(bd l i intra).2.1)).2.2)):=rfl
  rw [hu,GG (hb b (by simp)) h1]
  dsimp only
  have ih:=ww bl (i+(bU b intra).length) (fun c hc=>hb c (zAY _ hc)) (by have:=h1.1;omega) h2
  rw [if_neg (by decide),←zAM,ih,zAA]
  congr 2
  push_cast
  omega
theorem tr {cs:List (List UInt8)} {lo k:Int} (_h1:lo≤k) (h2:(k - lo).toNat<cs.length) (n:Nat) (hn:cs.length=n) (f:Nat→Int) (hf:f (k - lo).toNat=k):((((zAZ n).map f)[(k - lo).toNat]?).getD 0:Int)=k:=by
 rw [zA6,zA2 (by omega)]
 exact hf
theorem xj:aA.length=aM.length:=by rw [gu];rfl
theorem Bk:aj.length=aq.length:=by rw [gJ];rfl
theorem AQ:bH.length=cf.length:=by rw [ma];rfl
theorem DO {k:Int} (h:gY k=true):∃j,∃hj:j<aA.length,eI k=aA[j]∧(aM[j]?).getD 0=k:=by
 unfold gY at h
 simp only [zAB,decide_eq_true_eq] at h
 refine ⟨(k - 1).toNat,by rw [gu];omega,?_,?_⟩
 ·unfold eI;rw [nW h.1 (by rw [gu];omega)];rfl
 ·exact tr (cs:=aA) h.1 (by rw [gu];omega) 10 gu (fun j=>(j:Int)+1) (by omega)
theorem Gr {d:Int} (h1: -16≤d) (h2:d≤15):∃j,∃hj:j<aj.length,cy d=aj[j]∧(aq[j]?).getD 0=d:=by
 refine ⟨(d - -16).toNat,by rw [gJ];omega,?_,?_⟩
 ·unfold cy;rw [nW h1 (by rw [gJ];omega)];rfl
 ·exact tr (cs:=aj) h1 (by rw [gJ];omega) 32 gJ (fun j=>(j:Int) - 16) (by omega)
theorem FM {p:Int} (h1:1≤p) (h2:p≤63):∃j,∃hj:j<bH.length,i6 p=bH[j]∧(cf[j]?).getD 0=p:=by
 refine ⟨(p - 1).toNat,by rw [ma];omega,?_,?_⟩
 ·unfold i6;rw [nW h1 (by rw [ma];omega)];rfl
 ·exact tr (cs:=bH) h1 (by rw [ma];omega) 63 ma (fun j=>(j:Int)+1) (by omega)
theorem GY {l:List UInt8} {i:Nat} {k:Int} (hk:gY k=true) (h:At l i (eI k)):ac aA aM l i=(k,((eI k).length:Int),0):=by
 obtain ⟨j,hj,e1,e2⟩:=DO hk
 rw [e1] at h⊢
 rw [nE uD kA xj j hj h,e2]
theorem EI {fr tv:Int} (h1:aH fr=true) (h2:aH tv=true):bf fr (el fr tv)=(tv,0):=by
 have hr:=m8 fr tv
 unfold aH at h1 h2
 simp only [zAB,decide_eq_true_eq] at h1 h2
 unfold bf
 have e1:(!aH fr||decide (el fr tv< -16)||decide (15<el fr tv))=false:=by
  unfold aH
  simp only [Bool.or_eq_false_iff,decide_eq_false_iff_not,Bool.not_eq_false',zAB,decide_eq_true_eq]
  omega
 rw [e1,if_neg (by decide)]
 have pb:∀n,aH n=true↔(-15≤n∧n≤15):=fun n=>by unfold aH;simp
 have hd:el fr tv=tv - fr∨el fr tv=tv - fr - 32∨el fr tv=tv - fr+32:=by unfold el;omega
 rcases hd with hd|hd|hd
 ·have e:fr+el fr tv=tv:=by omega
  rw [if_pos ((pb _).2 (by omega)),e]
 ·have e:fr+el fr tv+32=tv:=by omega
  rw [if_neg (fun h=>by have:=(pb _).1 h;omega),if_pos ((pb _).2 (by omega)),e]
 ·have e:fr+el fr tv - 32=tv:=by omega
  rw [if_neg (fun h=>by have:=(pb _).1 h;omega),if_neg (fun h=>by have:=(pb _).1 h;omega),if_pos ((pb _).2 (by omega)),e]
theorem Bl {l:List UInt8} {i:Nat} {pr tv:Int} (h1:aH pr=true) (h2:aH tv=true) (h:At l i (fy pr tv)):dW l i pr=(tv,(i:Int)+((fy pr tv).length:Int),0):=by
 have hr:=m8 pr tv
 unfold fy at h⊢
 obtain ⟨j,hj,e1,e2⟩:=Gr hr.1 hr.2
 rw [e1] at h⊢
 unfold dW
 rw [nE yG vec_code Bk j hj h,e2]
 dsimp only
 rw [if_neg (by decide),EI h1 h2]
def mQ (m:aU):List UInt8:=if pQ m.kd then ax m.qu.toNat 5 else []
def mV (m:aU) (a b:Int):List UInt8:=if pV m.kd then fy a m.x++fy b m.y else []
def mC (m:aU):List UInt8:=if pC m.kd then i6 m.pa else []
def mB (m:aU):List UInt8:=m.bl.flatMap fun b=>bU b (pI m.kd)
theorem kh (m:aU) (x:bD):dI m x=eI m.kd++(mQ m++(mV m (dy m.ad (m.ad - x.ad) x.had x.x x.y).1 (dy m.ad (m.ad - x.ad) x.had x.x x.y).2++(mC m++mB m))):=by
 unfold dI mQ mV mC mB
 simp only [zAK]
structure rN (m:aU):Prop where
 kd:gY m.kd=true
 a1:1≤m.ad
 a2:m.ad≤33
 px:aH m.x=true
 py:aH m.y=true
 pv:pV m.kd=false→m.x=0∧m.y=0
 q1:pQ m.kd=true→1≤m.qu∧m.qu≤31
 q0:pQ m.kd=false→m.qu=0
 i1:pI m.kd=true→m.pa=63
 c1:pI m.kd=false→pC m.kd=true→1≤m.pa∧m.pa≤63
 c0:pI m.kd=false→pC m.kd=false→m.pa=0
 len:m.bl.length=cI m.pa
 bl:∀b∈m.bl,cK b (pI m.kd)=0
theorem iH (m:aU):kQ m=true↔rN m:=by
 unfold kQ
 simp only [zAB,zAE,decide_eq_true_eq,beq_iff_eq,zAF]
 constructor
 ·rintro ⟨⟨⟨⟨⟨⟨⟨⟨⟨a,b⟩,c⟩,d⟩,e⟩,f⟩,g⟩,h⟩,i⟩,j⟩
  refine ⟨a,b,c,d,e,fun h0=>?_,fun h0=>?_,fun h0=>?_,fun h0=>?_,fun h0 h1=>?_,fun h0 h1=>?_,i,j⟩
  ·rcases f with f|f
   ·rw [h0] at f;cases f
   ·exact f
  ·rw [h0] at g;simpa using g
  ·rw [h0] at g;simpa using g
  ·rw [h0] at h;simpa using h
  ·rw [h0,h1] at h;simpa using h
  ·rw [h0,h1] at h;simpa using h
 ·rintro ⟨a,b,c,d,e,f,g,g',h,h1,h2,i,j⟩
  refine ⟨⟨⟨⟨⟨⟨⟨⟨⟨a,b⟩,c⟩,d⟩,e⟩,?_⟩,?_⟩,?_⟩,i⟩,j⟩
  ·cases hv:pV m.kd with
   |true=>exact .inl rfl
   |false=>exact .inr (f hv)
  ·cases hq:pQ m.kd with
   |true=>simpa using g hq
   |false=>simpa using g' hq
  ·cases hi:pI m.kd with
   |true=>simpa using h hi
   |false=>
    cases hc:pC m.kd with
    |true=>simpa using h1 hi hc
    |false=>simpa using h2 hi hc
theorem JF {l:List UInt8} {i:Nat} {m:aU} (hm:rN m) (h:At l i (mQ m)):mq l m.kd i=(m.qu,(i:Int)+((mQ m).length:Int),0):=by
 unfold mq mQ at*
 cases hq:pQ m.kd with
 |true=>
  rw [hq,if_pos rfl] at h
  rw [if_pos rfl,if_pos rfl,aJ]
  have:=hm.q1 hq
  have h1:=h.1
  rw [aJ] at h1
  have hn:=pE h (by omega)
  rw [if_neg (by omega),zAJ,hn,if_neg (by simp only [beq_iff_eq];omega)]
  have e:((m.qu.toNat:Nat):Int)=m.qu:=by omega
  rw [e];rfl
 |false=>rw [if_neg (by decide),if_neg (by decide),hm.q0 hq];simp
theorem JG {l:List UInt8} {i:Nat} {m:aU} {a b:Int} (ha:aH a=true) (hb:aH b=true) (hm:rN m) (h:At l i (mV m a b)):mv l m.kd i a b=((m.x,m.y),(i:Int)+((mV m a b).length:Int),0):=by
 unfold mv mV at*
 cases hv:pV m.kd with
 |true=>
  rw [hv,if_pos rfl] at h
  rw [if_pos rfl,if_pos rfl]
  obtain ⟨h1,h2⟩:=h.app
  rw [Bl ha hm.px h1]
  dsimp only
  rw [if_neg (by decide),←zAM,Bl hb hm.py h2,zAA]
  dsimp only
  rw [if_neg (by decide)]
  congr 2
  push_cast
  omega
 |false=>
  obtain ⟨e1,e2⟩:=hm.pv hv
  rw [if_neg (by decide),if_neg (by decide),e1,e2]
  simp
theorem Jb {k:Int} (h:pC k=true):pI k=false:=by
 unfold pC at h
 unfold pI
 simp only [zAE,beq_iff_eq] at h
 rcases h with ((((h|h)|h)|h)|h)|h<;>subst h<;>rfl
theorem JE {l:List UInt8} {i:Nat} {m:aU} (hm:rN m) (h:At l i (mC m)):mc l m.kd i=(m.pa,(i:Int)+((mC m).length:Int),0):=by
 unfold mc mC at*
 cases hc:pC m.kd with
 |true=>
  rw [hc,if_pos rfl] at h
  rw [if_pos rfl,if_pos rfl]
  have hp:=hm.c1 (Jb hc) hc
  obtain ⟨j,hj,e1,e2⟩:=FM hp.1 hp.2
  rw [e1] at h⊢
  rw [nE xF oy AQ j hj h,e2]
  rfl
 |false=>
  simp only [zAD,if_false]
  cases hi:pI m.kd with
  |true=>rw [hm.i1 hi];simp
  |false=>rw [hm.c0 hi hc];simp
theorem pK {x:bD} {ad:Int} (h:dm x ad=true):aH (dy ad (ad - x.ad) x.had x.x x.y).1=true∧aH (dy ad (ad - x.ad) x.had x.x x.y).2=true:=by
 unfold dm at h
 simp only [zAB] at h
 unfold dy
 split
 ·exact ⟨rfl,rfl⟩
 ·exact ⟨h.1.1.2,h.1.2⟩
theorem G7 {l:List UInt8} {i:Nat} {m:aU} {x:bD} (hm:rN m) (hx:dm x m.ad=true) (h:At l i (dI m x)):bR l i m.ad x=(m,((dI m x).length:Int),0):=by
 have hp:=pK hx
 have hm1:=hm.a1;have hm2:=hm.a2
 rw [kh] at h⊢
 unfold bR
 rw [if_neg (by omega),hx]
 rw [if_neg (by decide)]
 generalize dy m.ad (m.ad - x.ad) x.had x.x x.y=pr at*
 dsimp only
 obtain ⟨h1,h⟩:=h.app
 obtain ⟨h2,h⟩:=h.app
 obtain ⟨h3,h⟩:=h.app
 obtain ⟨h4,h5⟩:=h.app
 rw [GY hm.kd h1]
 dsimp only
 rw [if_neg (by decide),←zAM,JF hm h2]
 dsimp only
 rw [if_neg (by decide),←zAM,JG hp.1 hp.2 hm h3]
 dsimp only
 rw [if_neg (by decide),←zAM,JE hm h4]
 dsimp only
 have h6:=ww m.bl (i+(eI m.kd).length+(mQ m).length+(mV m pr.1 pr.2).length+(mC m).length) hm.bl (by have:=h5.1;omega) h5
 rw [if_neg (by decide),←zAM,←hm.len,h6]
 dsimp only
 rw [if_neg (by decide)]
 have e:(mB m)=m.bl.flatMap fun b=>bU b (pI m.kd):=rfl
 simp only [zAA]
 rw [←e]
 obtain ⟨ad,kd,qu,mx,my,pa,bl⟩:=m
 congr 2
 push_cast
 omega
theorem rt {s:List UInt8}:∀(T:List wl) (more:Bool),(bL s T more).2.2.2=0→∃k,∃hk:k<T.length,((bL s T more).1=(T[k].1.1,T[k].1.2)∨(bL s T more).1=(T[k].1.1, -T[k].1.2))∧(bL s T more).2.1=false∧(bL s T more).2.2.1=(T[k].2.length:Int)+1∧T[k].2.length+1≤s.length
 |[],more,h=>by
  have e:(bL s [] more).2.2.2=if more then 5 else 7:=rfl
  rw [e] at h
  cases more<;>cases h
 |(p,c)::T,more,h=>by
  cases hs:bW s c with
  |false=>
   rw [kC hs] at h⊢
   obtain ⟨k,hk,h1⟩:=rt T more h
   exact ⟨k+1,by simpa using hk,h1⟩
  |true=>
   by_cases hl:s.length≤c.length
   ·rw [lZ hs hl] at h⊢
    obtain ⟨k,hk,h1⟩:=rt T true h
    exact ⟨k+1,by simpa using hk,h1⟩
   ·rw [lg hs hl]
    refine ⟨0,by simp,?_,rfl,rfl,by show c.length+1≤_;omega⟩
    dsimp only
    split
    ·exact .inr rfl
    ·exact .inl rfl
theorem Gh (first:Bool):(zAZ (aX first).length).all (fun i=>(zAZ (aX first).length).all fun k=>i==k||((aX first).getD i ((0,0),[])).1 !=((aX first).getD k ((0,0),[])).1)=true:=by cases first<;>kernel_rfl
theorem Ip {first:Bool} {i k:Nat} (hi:i<(aX first).length) (hk:k<(aX first).length) (h:(aX first)[i].1=(aX first)[k].1):i=k:=by
 have h1:=zAF.1 (zAF.1 (Gh first) i (zAQ.2 hi)) k (zAQ.2 hk)
 have e1:(aX first).getD i ((0,0),[])=(aX first)[i]:=by simp [zA5,hi]
 have e2:(aX first).getD k ((0,0),[])=(aX first)[k]:=by simp [zA5,hk]
 rw [e1,e2,zAE] at h1
 rcases h1 with h1|h1
 ·exact beq_iff_eq.1 h1
 ·rw [bne_iff_ne] at h1;exact absurd h h1
theorem qa (first:Bool):(aX first).all (fun x=>decide (0≤x.1.1)&&decide (x.1.1≤63)&&decide (1≤x.1.2)&&decide (x.1.2≤127))=true:=by cases first<;>kernel_rfl
theorem ya (v:Int):(if v<0 then [(49:UInt8)] else [48]).length=1:=by split<;>rfl
theorem AA (p:Int×Int) (first:Bool):(cH p first).length≤20:=by
 unfold cH
 split
 ·rw [lX];exact Nat.le_refl _
 ·rename_i hs
  obtain ⟨k,hk,h1,h2,h3⟩:=kF _ (by simpa using hs)
  have hpos:=zAF.1 (qx first) _ (zAG hk)
  simp only [zAB,decide_eq_true_eq] at hpos
  rw [h1,zAA,ya]
  omega
theorem qS {p:Int×Int}:∀(T:List wl),(∀e∈T,1≤e.2.length)→∀k (hk:k<T.length),T[k].1.1=p.1→(T[k].1.2=p.2∨T[k].1.2= -p.2)→dY p T≠[]
 |[],_,k,hk,_,_=>by simp at hk
 |(q,c)::T,ha,k,hk,h1,h2=>by
  unfold dY
  split
  ·have:=ha (q,c) (by simp)
   intro h
   rw [h] at this
   simp at this
  ·rename_i hq
   cases k with
   |zero=>exact absurd (by simp only [zAB,zAE,beq_iff_eq];exact ⟨h1,h2⟩) hq
   |succ k=>exact qS T (fun e he=>ha e (zAY _ he)) k (by simpa using hk) h1 h2
theorem Fb {first:Bool} {p:Int×Int} {k:Nat} (hk:k<(aX first).length) (h1:(aX first)[k].1.1=p.1) (h2:(aX first)[k].1.2=p.2∨(aX first)[k].1.2= -p.2):(cH p first).length=(aX first)[k].2.length+1:=by
 have hne:=qS (aX first) (fun e he=>by have hpos:=zAF.1 (qx first) _ he;simp only [zAB,decide_eq_true_eq] at hpos;omega) k hk h1 h2
 obtain ⟨j,hj,e1,e2,e3⟩:=kF _ hne
 have r1:=zAF.1 (qa first) _ (zAG hj)
 have r2:=zAF.1 (qa first) _ (zAG hk)
 simp only [zAB,decide_eq_true_eq] at r1 r2
 have:j=k:=Ip hj hk (Prod.ext (by omega) (by omega))
 subst this
 unfold cH
 rw [if_neg (by simpa using hne),e1,zAA,ya]
theorem xy:∀(s:List UInt8) (n:Nat),s.length=n→(∀c∈s,c=48∨c=49)→cJ s<2 ^ n:=by
 intro s n
 induction n generalizing s with
 |zero=>intro hn _;rw [List.length_eq_zero_iff.1 hn];decide
 |succ n ih=>
  intro hn h
  have hne:s≠[]:=by intro e;rw [e] at hn;cases hn
  have e:=List.dropLast_concat_getLast hne
  rw [←e,sD]
  have h1:=ih s.dropLast (by rw [List.length_dropLast,hn];rfl) (fun c hc=>h c (List.dropLast_subset s hc))
  have h2:(s.getLast hne).toNat - 48≤1:=by
   rcases h _ (List.getLast_mem hne) with h|h<;>rw [h]<;>decide
  rw [zA0]
  omega
theorem Fa {l:List UInt8} {i:Int} {first:Bool} (h0:0≤i) (h1:i≤8*(l.length:Int)) (he:(aL l i first).2.2.2=0):
  i+(aL l i first).2.2.1≤8*(l.length:Int)∧((aL l i first).2.1=true∧first=false∧(aL l i first).2.2.1=2∨(aL l i first).2.1=false∧ft (aL l i first).1=true∧((cH (aL l i first).1 first).length:Int)≤(aL l i first).2.2.1):=by
 unfold aL at he⊢
 rw [if_neg (by omega),if_neg (by omega)] at he⊢
 dsimp only at he⊢
 have hlen:(aC l i.toNat (min 20 (8*l.length - i.toNat))).length≤8*l.length - i.toNat:=by rw [bi];omega
 have hl20:(aC l i.toNat (min 20 (8*l.length - i.toNat))).length≤20:=by rw [bi];omega
 have hor:=lR l i.toNat (min 20 (8*l.length - i.toNat))
 generalize aC l i.toNat (min 20 (8*l.length - i.toNat))=s at hlen hor hl20 he⊢
 generalize hm:8*l.length - i.toNat=mm at hlen
 split at he
 ·rename_i h2
  rw [if_pos h2]
  split at he
  ·cases he
  ·rename_i h3
   rw [if_neg h3]
   split at he
   ·cases he
   ·rename_i h4
    rw [if_neg h4]
    dsimp only
    have h6:=xy ((s.take 12).drop 6) 6 (by simp;omega) (fun c hc=>hor c (List.mem_of_mem_take (zAb hc)))
    have h8:=xy (s.drop 12) 8 (by simp;omega) (fun c hc=>hor c (zAb hc))
    simp only [zAE,beq_iff_eq,not_or] at h4
    refine ⟨by omega,.inr ⟨rfl,?_,?_⟩⟩
    ·unfold ft
     simp only [zAB,decide_eq_true_eq,bne_iff_ne]
     have hb:∀n:Nat,n<256→i8 n≠0→i8 n≠ -128→ -127≤i8 n∧i8 n≤127∧i8 n≠0:=fun n hn a b=>by unfold i8 at*;split at* <;>omega
     have:=hb _ (by omega) h4.1 h4.2
     generalize cJ ((s.take 12).drop 6)=a at h6
     refine ⟨⟨⟨⟨by omega,by omega⟩,this.1⟩,this.2.1⟩,this.2.2⟩
    ·have:=AA (((cJ ((s.take 12).drop 6):Nat):Int),i8 (cJ (s.drop 12))) first
     omega
 ·rename_i h2
  rw [if_neg h2]
  split at he
  ·rename_i h3
   rw [if_pos h3]
   simp only [zAB,zAO] at h3
   have h4:=(zAC.1 h3.2).length_le
   have e:bJ.length=2:=rfl
   exact ⟨by show i+2≤_;omega,.inl ⟨rfl,h3.1,rfl⟩⟩
  ·rename_i h3
   rw [if_neg h3]
   obtain ⟨k,hk,k1,k2,k3,k4⟩:=rt _ _ he
   have r2:=zAF.1 (qa first) _ (zAG hk)
   simp only [zAB,decide_eq_true_eq] at r2
   have hp:∃p,(bL s (aX first) (!first&&bW s bJ)).1=p∧(aX first)[k].1.1=p.1∧((aX first)[k].1.2=p.2∨(aX first)[k].1.2= -p.2):=by
    rcases k1 with k1|k1
    ·exact ⟨_,rfl,by rw [k1],.inl (by rw [k1])⟩
    ·exact ⟨_,rfl,by rw [k1],.inr (by rw [k1];simp)⟩
   obtain ⟨p,ep,p1,p2⟩:=hp
   rw [k2,k3,ep]
   refine ⟨by omega,.inr ⟨rfl,?_,?_⟩⟩
   ·unfold ft
    simp only [zAB,decide_eq_true_eq,bne_iff_ne]
    refine ⟨⟨⟨⟨by omega,by omega⟩,by omega⟩,by omega⟩,by omega⟩
   ·rw [Fb hk p1 p2]
    omega
theorem Cx {p:Int×Int} {L:List (Int×Int)} {a:Int} (h:ft p=true) (h1:p.1≤63 - a) (h2:ck L (a+p.1+1)=0):ck (p::L) a=0:=by
 obtain ⟨p0,p1,p2,p3,p4⟩:=l9 h
 unfold ck
 rw [if_neg,if_neg,h2]
 ·simp only [zAE,decide_eq_true_eq];omega
 ·simp only [zAE,beq_iff_eq,zAO,Bool.and_eq_false_iff,decide_eq_false_iff_not];omega
theorem nR {l:List UInt8}:∀(f:Nat) (i:Int) (first:Bool) (a:Int),0≤i→i≤8*(l.length:Int)→0≤a→(bm l f i first (64 - a)).2.2=0→
  ck (bm l f i first (64 - a)).1 a=0∧(first=true→(bm l f i first (64 - a)).1≠[])∧i+((dj (bm l f i first (64 - a)).1 first++bJ).length:Int)≤(bm l f i first (64 - a)).2.1∧(bm l f i first (64 - a)).2.1≤8*(l.length:Int)
 |0,i,first,a,_,_,_,h=>by cases h
 |f+1,i,first,a,h0,h1,ha,h=>by
  rw [iQ] at h⊢
  by_cases he:(aL l i first).2.2.2=0
  ·obtain ⟨hb,hg⟩:=Fa h0 h1 he
   rcases hg with ⟨g1,g2,g3⟩|⟨g1,g2,g3⟩
   ·rw [if_pos g1] at h⊢
    subst g2
    dsimp only
    rw [g3] at hb⊢
    exact ⟨rfl,(fun h=>by cases h),(by show i+((bJ.length:Nat):Int)≤i+2;have e:bJ.length=2:=rfl;omega),hb⟩
   ·rw [if_neg (by rw [g1];decide),if_neg (by rw [he];decide)] at h⊢
    split at h
    ·cases h
    ·rename_i hl
     rw [if_neg hl]
     dsimp only at h⊢
     have hp:=l9 g2
     have e:(64:Int) - a - ((aL l i first).1.1+1)=64 - (a+(aL l i first).1.1+1):=by omega
     rw [e] at h⊢
     have hpos:(0:Int)≤((cH (aL l i first).1 first).length:Int):=by omega
     obtain ⟨i1,i2,i3,i4⟩:=nR f (i+(aL l i first).2.2.1) false (a+(aL l i first).1.1+1) (by omega) (by omega) (by omega) h
     refine ⟨Cx g2 (by omega) i1,(fun _ h=>by cases h),?_,i4⟩
     rw [dj,zAK,zAA]
     push_cast
     omega
  ·exfalso
   by_cases h2:(aL l i first).2.1=true
   ·have:(aL l i first).2.2.2=0:=by
     unfold aL at h2⊢
     rw [if_neg (by omega),if_neg (by omega)] at h2⊢
     dsimp only at h2⊢
     split at h2
     ·split at h2
      ·cases h2
      ·split at h2<;>cases h2
     ·rename_i q1
      split at h2
      ·rename_i q2;rw [if_neg q1,if_pos q2]
      ·exfalso
       have hn:∀(T:List wl) (more:Bool) (s:List UInt8),(bL s T more).2.1=false:=fun T=>by
        induction T with
        |nil=>intro more s;rfl
        |cons e T ih=>
         intro more s
         show (if !bW s e.2 then bL s T more else if s.length≤e.2.length then bL s T true else _).2.1=false
         split
         ·exact ih _ _
         ·split
          ·exact ih _ _
          ·rfl
       rw [hn] at h2
       cases h2
    exact he this
   ·rw [if_neg h2,if_pos (by simpa using he)] at h
    exact he h
theorem EY {l:List UInt8} {i:Int} {intra:Bool} (h0:0≤i) (h1:i≤8*(l.length:Int)) (he:(bd l i intra).2.2=0):
  cK (bd l i intra).1 intra=0∧((bU (bd l i intra).1 intra).length:Int)≤(bd l i intra).2.1∧i+(bd l i intra).2.1≤8*(l.length:Int):=by
 unfold bd at he⊢
 rw [if_neg (by omega),if_neg (by omega)] at he⊢
 cases intra with
 |true=>
  simp only [if_true] at he⊢
  split at he
  ·cases he
  ·rename_i h8
   rw [if_neg h8]
   split at he
   ·cases he
   ·rename_i hn
    rw [if_neg hn]
    have hlt:aF l i.toNat 8<256:=gm l i.toNat 8
    simp only [zAE,beq_iff_eq,not_or] at hn
    by_cases hq:(bm l 66 (i+8) false 63).2.2=0
    ·rw [hq,if_neg (by decide)]
     have e63:(63:Int)=64 - 1:=by decide
     rw [e63] at hq⊢
     obtain ⟨i1,i2,i3,i4⟩:=nR 66 (i+8) false 1 (by omega) (by omega) (by decide) hq
     dsimp only
     refine ⟨?_,?_,by omega⟩
     ·unfold cK
      rw [if_neg,if_neg (by rw [zAU,zA4];decide)]
      ·exact i1
      ·simp only [zAR,zAE,decide_eq_true_eq,beq_iff_eq];omega
     ·unfold bU
      simp only [if_true,zAU]
      rw [zAK,zAA,aJ]
      rw [show (64:Int) - 1=63 from rfl] at i3⊢
      push_cast
      omega
    ·rw [if_pos (by simpa using hq)] at he
     exact absurd he hq
 |false=>
  simp only [zAD,if_false] at he⊢
  by_cases hq:(bm l 66 i true 64).2.2=0
  ·rw [hq,if_neg (by decide)]
   have e64:(64:Int)=64 - 0:=by decide
   rw [e64] at hq⊢
   obtain ⟨i1,i2,i3,i4⟩:=nR 66 i true 0 (by omega) (by omega) (by decide) hq
   dsimp only
   refine ⟨?_,?_,by omega⟩
   ·unfold cK
    rw [if_neg (by rw [zA4];decide),if_neg]
    ·exact i1
    ·simp only [zAP,zAR,zAE,bne_iff_ne,beq_iff_eq]
     rintro (h|h)
     ·exact h rfl
     ·exact i2 rfl h
   ·unfold bU
    simp only [zAD,if_false,zAP,zAd]
    omega
  ·rw [if_pos (by simpa using hq)] at he
   exact absurd he hq
theorem tY {l:List UInt8} {intra:Bool}:∀(k:Nat) (i:Int),0≤i→i≤8*(l.length:Int)→(bP l intra k i).2.2=0→
  (bP l intra k i).1.length=k∧(∀b∈(bP l intra k i).1,cK b intra=0)∧i+(((bP l intra k i).1.flatMap fun b=>bU b intra).length:Int)≤(bP l intra k i).2.1∧(bP l intra k i).2.1≤8*(l.length:Int)
 |0,i,h0,h1,_=>by simp [bP];omega
 |k+1,i,h0,h1,h=>by
  have hu:bP l intra (k+1) i=(if (bd l i intra).2.2 !=0 then ([],0,(bd l i intra).2.2) else ((bd l i intra).1::(bP l intra k (i+(bd l i intra).2.1)).1,(bP l intra k (i+(bd l i intra).2.1)).2.1,(bP l intra k (i+(bd l i intra).2.1)).2.2)):=rfl
  rw [hu] at h⊢
  by_cases he:(bd l i intra).2.2=0
  ·rw [if_neg (by rw [he];decide)] at h⊢
   obtain ⟨b1,b2,b3⟩:=EY h0 h1 he
   obtain ⟨i1,i2,i3,i4⟩:=tY k (i+(bd l i intra).2.1) (by omega) (by omega) h
   refine ⟨by rw [zAV,i1],fun b hb=>?_,?_,i4⟩
   ·rcases List.mem_cons.1 hb with rfl|hb
    ·exact b1
    ·exact i2 b hb
   ·dsimp only
    rw [zAT,zAA]
    push_cast
    omega
  ·rw [if_pos (by simpa using he)] at h
   exact absurd h he
theorem uq {s:List UInt8}:∀{cs:List (List UInt8)} {ns:List Int} {n k:Int},bK s cs ns=some (n,k)→∃j,∃hj:j<cs.length,ns[j]? =some n∧k=cs[j].length
 |[],_,_,_,h=>by simp [bK] at h
 |_::_,[],_,_,h=>by simp [bK] at h
 |c::cs,m::ns,n,k,h=>by
  unfold bK at h
  split at h
  ·simp only [Option.some.injEq,Prod.mk.injEq] at h
   exact ⟨0,by simp,by simp [h.1],h.2.symm⟩
  ·obtain ⟨j,hj,a,b⟩:=uq h
   exact ⟨j+1,by simpa using hj,by simpa using a,by simpa using b⟩
theorem oL {cs:List (List UInt8)} {ns:List Int} {l:List UInt8} {i:Int} (he:(ac cs ns l i).2.2=0):∃j,∃hj:j<cs.length,ns[j]? =some (ac cs ns l i).1∧(ac cs ns l i).2.1=cs[j].length:=by
 unfold ac at he⊢
 split at he
 ·cases he
 ·rename_i h0
  rw [if_neg h0]
  unfold jL at he⊢
  cases hf:bK (aC l i.toNat (min 24 (8*l.length - i.toNat))) cs ns with
  |some p=>obtain ⟨n,k⟩:=p;exact uq hf
  |none=>
   rw [hf] at he
   dsimp only at he
   split at he<;>cases he
theorem ur {s:List UInt8}:∀{cs:List (List UInt8)} {ns:List Int} {n k:Int},bK s cs ns=some (n,k)→k≤s.length
 |[],_,_,_,h=>by simp [bK] at h
 |_::_,[],_,_,h=>by simp [bK] at h
 |c::cs,m::ns,n,k,h=>by
  unfold bK at h
  split at h
  ·rename_i hp
   have hle:=(zAC.1 hp).length_le
   simp only [Option.some.injEq,Prod.mk.injEq] at h
   omega
  ·exact ur h
theorem oK {cs:List (List UInt8)} {ns:List Int} {l:List UInt8} {i:Int} (h0:0≤i) (h1:i≤8*(l.length:Int)) (he:(ac cs ns l i).2.2=0):i+(ac cs ns l i).2.1≤8*(l.length:Int):=by
 unfold ac at he⊢
 rw [if_neg (by omega)] at he⊢
 unfold jL at he⊢
 have hl:(aC l i.toNat (min 24 (8*l.length - i.toNat))).length≤8*l.length - i.toNat:=by rw [bi];omega
 cases hf:bK (aC l i.toNat (min 24 (8*l.length - i.toNat))) cs ns with
 |some p=>
  obtain ⟨n,k⟩:=p
  have:=ur hf
  show i+k≤_
  omega
 |none=>
  rw [hf] at he
  dsimp only at he
  split at he<;>cases he
theorem pM {n j:Nat} {f:Nat→Int} {k:Int} (h:((zAZ n).map f)[j]? =some k):j<n∧f j=k:=by
 rw [zA6] at h
 by_cases hj:j<n
 ·rw [zA2 hj] at h
  exact ⟨hj,by simpa using h⟩
 ·rw [zAX (by simpa using Nat.le_of_not_lt hj)] at h
  cases h
theorem ri {cs:List (List UInt8)} {lo k:Int} {j:Nat} (hj:j<cs.length) (h:k - lo=(j:Int)):(dG cs lo k).getD []=cs[j]:=by
 unfold dG
 rw [if_neg (by omega),h,zAJ,zAI hj]
 rfl
theorem xh {l:List UInt8} {i:Int} (he:(ac aA aM l i).2.2=0):gY (ac aA aM l i).1=true∧(ac aA aM l i).2.1=(eI (ac aA aM l i).1).length∧1≤(ac aA aM l i).2.1:=by
 obtain ⟨j,hj,h1,h2⟩:=oL he
 obtain ⟨h3,h4⟩:=pM h1
 have h5:eI (ac aA aM l i).1=aA[j]:=by unfold eI;exact ri hj (by omega)
 have h6:=nu kA j hj
 rw [h5,h2]
 refine ⟨?_,rfl,by omega⟩
 unfold gY
 simp only [zAB,decide_eq_true_eq]
 omega
theorem It {l:List UInt8} {i:Int} (he:(ac aj aq l i).2.2=0):(ac aj aq l i).2.1=(cy (ac aj aq l i).1).length∧ -16≤(ac aj aq l i).1∧(ac aj aq l i).1≤15:=by
 obtain ⟨j,hj,h1,h2⟩:=oL he
 obtain ⟨h3,h4⟩:=pM h1
 have h5:cy (ac aj aq l i).1=aj[j]:=by unfold cy;exact ri hj (by omega)
 rw [h5,h2]
 exact ⟨rfl,by omega,by omega⟩
theorem Hv {l:List UInt8} {i:Int} (he:(ac bH cf l i).2.2=0):(ac bH cf l i).2.1=(i6 (ac bH cf l i).1).length∧1≤(ac bH cf l i).1∧(ac bH cf l i).1≤63:=by
 obtain ⟨j,hj,h1,h2⟩:=oL he
 obtain ⟨h3,h4⟩:=pM h1
 have h5:i6 (ac bH cf l i).1=bH[j]:=by unfold i6;exact ri hj (by omega)
 rw [h5,h2]
 exact ⟨rfl,by omega,by omega⟩
theorem Gn {fr d:Int} (h1: -16≤d) (h2:d≤15) (he:(bf fr d).2=0):aH (bf fr d).1=true∧el fr (bf fr d).1=d:=by
 have pb:∀n,aH n=true↔(-15≤n∧n≤15):=fun n=>by unfold aH;simp
 unfold bf at he⊢
 split at he
 ·cases he
 ·rename_i g0
  rw [if_neg g0]
  have hfr:aH fr=true:=by
   simp only [zAE,not_or,zAO,zAc] at g0
   exact g0.1.1
  rw [pb] at hfr
  split at he
  ·rename_i g1;rw [if_pos g1];refine ⟨g1,?_⟩;unfold el;dsimp only;omega
  ·rename_i g1;rw [if_neg g1]
   split at he
   ·rename_i g2;rw [if_pos g2];refine ⟨g2,?_⟩;unfold el;dsimp only;omega
   ·rename_i g2;rw [if_neg g2]
    split at he
    ·rename_i g3;rw [if_pos g3];refine ⟨g3,?_⟩;unfold el;dsimp only;omega
    ·cases he
theorem yH {l:List UInt8} {i pr:Int} (h0:0≤i) (h1:i≤8*(l.length:Int)) (he:(dW l i pr).2.2=0):aH (dW l i pr).1=true∧(dW l i pr).2.1=i+((fy pr (dW l i pr).1).length:Int)∧(dW l i pr).2.1≤8*(l.length:Int):=by
 unfold dW at he⊢
 dsimp only at he⊢
 by_cases h2:(ac aj aq l i).2.2=0
 ·rw [if_neg (by rw [h2];decide)] at he⊢
  obtain ⟨a,b,c⟩:=It h2
  obtain ⟨d,e⟩:=Gn b c he
  have f:=oK h0 h1 h2
  unfold fy
  dsimp only
  rw [e]
  exact ⟨d,by rw [a],f⟩
 ·rw [if_pos (by simpa using h2)] at he
  exact absurd he h2
theorem rx {l:List UInt8} {i ad:Int} {x:bD} (h0:0≤i) (h1:i≤8*(l.length:Int)) (he:(bR l i ad x).2.2=0):
  rN (bR l i ad x).1∧(bR l i ad x).1.ad=ad∧dm x ad=true∧((dI (bR l i ad x).1 x).length:Int)≤(bR l i ad x).2.1∧i+(bR l i ad x).2.1≤8*(l.length:Int)∧1≤(bR l i ad x).2.1:=by
 unfold bR at he⊢
 split at he
 ·cases he
 rename_i g0
 rw [if_neg g0]
 cases hx:dm x ad with
 |false=>rw [hx,if_pos (by decide)] at he;cases he
 |true=>
 rw [hx] at he
 simp only [zAU,zAD,if_false] at he⊢
 have hp:=pK hx
 generalize hpr:dy ad (ad - x.ad) x.had x.x x.y=pr at he hp⊢
 by_cases k0:(ac aA aM l i).2.2=0
 ·rw [k0] at he⊢
  simp only [bne_self_eq_false,zAD,if_false] at he⊢
  obtain ⟨k1,k2,k3⟩:=xh k0
  have k4:=oK h0 h1 k0
  generalize (ac aA aM l i).1=kd at he k1 k2⊢
  generalize (ac aA aM l i).2.1=kn at he k2 k3 k4⊢
  have hq:(mq l kd (i+kn)).2.2=0→(mq l kd (i+kn)).2.1=i+kn+((if pQ kd then ax (mq l kd (i+kn)).1.toNat 5 else []).length:Int)∧(mq l kd (i+kn)).2.1≤8*(l.length:Int)∧(pQ kd=true→1≤(mq l kd (i+kn)).1∧(mq l kd (i+kn)).1≤31)∧(pQ kd=false→(mq l kd (i+kn)).1=0):=by
   unfold mq
   cases hq:pQ kd with
   |true=>
    simp only [if_true]
    split
    ·intro h;cases h
    ·rename_i q1
     split
     ·intro h;cases h
     ·rename_i q2
      intro _
      have hlt:aF l (i+kn).toNat 5<32:=gm l (i+kn).toNat 5
      simp only [beq_iff_eq] at q2
      rw [aJ]
      dsimp only
      exact ⟨rfl,by omega,(fun _=>⟨by omega,by omega⟩),(fun h=>by cases h)⟩
   |false=>
    simp only [zAD,if_false]
    intro _
    exact ⟨by simp,by omega,(fun h=>by cases h),fun _=>trivial⟩
  by_cases q0:(mq l kd (i+kn)).2.2=0
  ·rw [q0] at he⊢
   simp only [bne_self_eq_false,zAD,if_false] at he⊢
   obtain ⟨q1,q2,q3,q4⟩:=hq q0
   clear hq q0
   generalize (mq l kd (i+kn)).1=qu at he q1 q3 q4⊢
   generalize (mq l kd (i+kn)).2.1=a2 at he q1 q2⊢
   have hv:(mv l kd a2 pr.1 pr.2).2.2=0→(mv l kd a2 pr.1 pr.2).2.1=a2+((if pV kd then fy pr.1 (mv l kd a2 pr.1 pr.2).1.1++fy pr.2 (mv l kd a2 pr.1 pr.2).1.2 else []).length:Int)∧(mv l kd a2 pr.1 pr.2).2.1≤8*(l.length:Int)∧aH (mv l kd a2 pr.1 pr.2).1.1=true∧aH (mv l kd a2 pr.1 pr.2).1.2=true∧(pV kd=false→(mv l kd a2 pr.1 pr.2).1.1=0∧(mv l kd a2 pr.1 pr.2).1.2=0):=by
    have ha2:0≤a2:=by omega
    unfold mv
    cases hv:pV kd with
    |true=>
     simp only [if_true]
     by_cases v0:(dW l a2 pr.1).2.2=0
     ·rw [v0]
      simp only [bne_self_eq_false,zAD,if_false]
      obtain ⟨v1,v2,v3⟩:=yH ha2 q2 v0
      by_cases w0:(dW l (dW l a2 pr.1).2.1 pr.2).2.2=0
      ·rw [w0]
       simp only [bne_self_eq_false,zAD,if_false]
       obtain ⟨w1,w2,w3⟩:=yH (by omega) v3 w0
       intro _
       refine ⟨?_,w3,v1,w1,(fun h=>by cases h)⟩
       rw [w2,zAA]
       push_cast
       omega
      ·rw [if_pos (by simpa using w0)]
       intro h;exact absurd h w0
     ·rw [if_pos (by simpa using v0)]
      intro h;exact absurd h v0
    |false=>
     simp only [zAD,if_false]
     intro _
     exact ⟨by simp,q2,by decide,by decide,by simp⟩
   by_cases v0:(mv l kd a2 pr.1 pr.2).2.2=0
   ·rw [v0] at he⊢
    simp only [bne_self_eq_false,zAD,if_false] at he⊢
    obtain ⟨v1,v2,v3,v4,v5⟩:=hv v0
    clear hv v0
    generalize (mv l kd a2 pr.1 pr.2).1=mxy at he v1 v3 v4 v5⊢
    generalize (mv l kd a2 pr.1 pr.2).2.1=a3 at he v1 v2⊢
    have ha3:0≤a3:=by omega
    have hc:(mc l kd a3).2.2=0→(mc l kd a3).2.1=a3+((if pC kd then i6 (mc l kd a3).1 else []).length:Int)∧(mc l kd a3).2.1≤8*(l.length:Int)∧(pI kd=true→(mc l kd a3).1=63)∧(pI kd=false→pC kd=true→1≤(mc l kd a3).1∧(mc l kd a3).1≤63)∧(pI kd=false→pC kd=false→(mc l kd a3).1=0):=by
     unfold mc
     cases hc:pC kd with
     |true=>
      simp only [if_true]
      by_cases c0:(ac bH cf l a3).2.2=0
      ·rw [c0]
       simp only [bne_self_eq_false,zAD,if_false]
       obtain ⟨c1,c2,c3⟩:=Hv c0
       have c4:=oK ha3 v2 c0
       intro _
       exact ⟨by rw [c1],c4,(fun h=>by rw [Jb hc] at h;cases h),(fun _ _=>⟨c2,c3⟩),(fun _ h=>by cases h)⟩
      ·rw [if_pos (by simpa using c0)]
       intro h;exact absurd h c0
     |false=>
      simp only [zAD,if_false]
      intro _
      refine ⟨by simp,v2,(fun h=>by rw [h];rfl),(fun _ h=>by cases h),(fun h _=>by rw [h];rfl)⟩
    by_cases c0:(mc l kd a3).2.2=0
    ·rw [c0] at he⊢
     simp only [bne_self_eq_false,zAD,if_false] at he⊢
     obtain ⟨c1,c2,c3,c4,c5⟩:=hc c0
     clear hc c0
     generalize (mc l kd a3).1=pa at he c1 c3 c4 c5⊢
     generalize (mc l kd a3).2.1=a4 at he c1 c2⊢
     by_cases b0:(bP l (pI kd) (cI pa) a4).2.2=0
     ·rw [b0] at he⊢
      simp only [bne_self_eq_false,zAD,if_false] at he⊢
      obtain ⟨b1,b2,b3,b4⟩:=tY (cI pa) a4 (by omega) c2 b0
      generalize (bP l (pI kd) (cI pa) a4).1=bl at b1 b2 b3⊢
      generalize (bP l (pI kd) (cI pa) a4).2.1=a5 at b3 b4⊢
      refine ⟨⟨k1,by show 1≤ad;omega,by show ad≤33;omega,v3,v4,v5,q3,q4,c3,c4,c5,b1,b2⟩,by trivial,by trivial,?_,by omega,by omega⟩
      rw [kh]
      dsimp only
      rw [hpr]
      unfold mQ mV mC mB
      dsimp only
      simp only [zAA] at*
      push_cast
      omega
     ·rw [if_pos (by simpa using b0)] at he
      exact absurd he b0
    ·rw [if_pos (by simpa using c0)] at he
     exact absurd he c0
   ·rw [if_pos (by simpa using v0)] at he
    exact absurd he v0
  ·rw [if_pos (by simpa using q0)] at he
   exact absurd he q0
 ·rw [if_pos (by simpa using k0)] at he
  exact absurd he k0
def cN (s:List UInt8):Prop:=∀c∈s,c=48∨c=49
theorem cN.app {s t:List UInt8} (h:cN s) (k:cN t):cN (s++t):=fun c hc=>by
 rcases List.mem_append.1 hc with hc|hc
 ·exact h c hc
 ·exact k c hc
theorem eN:cN []:=fun c hc=>by cases hc
theorem jJ {s:List UInt8} (h:s.all (fun b=>b==48||b==49)=true):cN s:=fun c hc=>by
 have:=zAF.1 h c hc
 simpa using this
theorem ua {cs:List (List UInt8)} (hc:cs.all dr=true) (k:Nat) (hk:k<cs.length):cN cs[k]:=by
 have:=zAF.1 hc _ (zAG hk)
 simp only [dr,zAB] at this
 exact jJ this.1.1
theorem ec (n m:Nat):cN (ax n m):=fun c hc=>by
 unfold ax at hc
 obtain ⟨j,_,rfl⟩:=List.mem_map.1 hc
 split
 ·exact .inl rfl
 ·exact .inr rfl
theorem kb {cs:List (List UInt8)} (hc:cs.all dr=true) (lo k:Int):cN ((dG cs lo k).getD []):=by
 unfold dG
 split
 ·exact eN
 ·rcases zAg (k - lo).toNat cs.length with h|h
  ·rw [zAI h];exact ua hc _ h
  ·rw [zAX h];exact eN
theorem Gg (first:Bool):(aX first).all (fun e=>e.2.all (fun b=>b==48||b==49))=true:=by cases first<;>kernel_rfl
theorem Dk (p:Int×Int) (first:Bool):cN (cH p first):=by
 unfold cH
 split
 ·unfold iL
  exact ((jJ (by decide)).app (ec _ _)).app (ec _ _)
 ·rename_i hs
  obtain ⟨k,hk,h1,_⟩:=kF _ (by simpa using hs)
  rw [h1]
  refine (jJ (zAF.1 (Gg first) _ (zAG hk))).app ?_
  split<;>exact jJ (by decide)
theorem rS:∀(L:List (Int×Int)) (first:Bool),cN (dj L first)
 |[],_=>eN
 |p::L,first=>(Dk p first).app (rS L false)
theorem Dj (x:bB) (intra:Bool):cN (bU x intra):=by
 unfold bU
 refine (cN.app ?_ (rS _ _)).app (jJ (by decide))
 split
 ·exact ec _ _
 ·exact eN
theorem Ay (intra:Bool):∀bl:List bB,cN (bl.flatMap fun b=>bU b intra)
 |[]=>eN
 |b::bl=>by rw [zAT];exact (Dj b intra).app (Ay intra bl)
theorem ug (m:aU) (x:bD):cN (dI m x):=by
 rw [kh]
 refine (kb kA _ _).app (cN.app ?_ (cN.app ?_ (cN.app ?_ (Ay _ _))))
 ·unfold mQ;split
  ·exact ec _ _
  ·exact eN
 ·unfold mV;split
  ·exact (kb vec_code _ _).app (kb vec_code _ _)
  ·exact eN
 ·unfold mC;split
  ·exact kb oy _ _
  ·exact eN
theorem GE {X s Y:List UInt8} (hs:cN s):At (aO (X++s++Y)) X.length s:=by
 have hl:(X++s++Y).length=X.length+s.length+Y.length:=by simp;omega
 refine ⟨by rw [ct,hl];omega,?_⟩
 apply List.ext_getElem (bi _ _ _)
 intro j h1 h2
 rw [bi] at h1
 have e:(aC (aO (X++s++Y)) X.length s.length)[j]'(by rw [bi];exact h1)=cW (aO (X++s++Y)) (X.length+j):=by
  unfold aC
  rw [List.getElem_map,List.getElem_range]
 rw [e]
 unfold cW
 rw [tZ _ _ (by rw [hl];omega)]
 have g:(X++s++Y)[X.length+j]? =some s[j]:=by
  rw [zAK,List.getElem?_append_right (by omega),Nat.add_sub_cancel_left,List.getElem?_append_left h1,zAI h1]
 unfold ff
 rw [g]
 rcases hs _ (zAG h1) with h|h<;>rw [h]<;>decide
def aN:List (List UInt8):=[[48,48,48,48,48,48,48,49,49,49,49],[49],[48,49,49],[48,49,48],[48,48,49,49],[48,48,49,48],[48,48,48,49,49],[48,48,48,49,48],[48,48,48,48,49,49,49],[48,48,48,48,49,49,48],
 [48,48,48,48,49,48,49,49],[48,48,48,48,49,48,49,48],[48,48,48,48,49,48,48,49],[48,48,48,48,49,48,48,48],[48,48,48,48,48,49,49,49],[48,48,48,48,48,49,49,48],
 [48,48,48,48,48,49,48,49,49,49],[48,48,48,48,48,49,48,49,49,48],[48,48,48,48,48,49,48,49,48,49],[48,48,48,48,48,49,48,49,48,48],[48,48,48,48,48,49,48,48,49,49],[48,48,48,48,48,49,48,48,49,48],
 [48,48,48,48,48,49,48,48,48,49,49],[48,48,48,48,48,49,48,48,48,49,48],[48,48,48,48,48,49,48,48,48,48,49],[48,48,48,48,48,49,48,48,48,48,48],[48,48,48,48,48,48,49,49,49,49,49],[48,48,48,48,48,48,49,49,49,49,48],
 [48,48,48,48,48,48,49,49,49,48,49],[48,48,48,48,48,48,49,49,49,48,48],[48,48,48,48,48,48,49,49,48,49,49],[48,48,48,48,48,48,49,49,48,49,48],[48,48,48,48,48,48,49,49,48,48,49],[48,48,48,48,48,48,49,49,48,48,48]]
theorem eO:aN.length=34:=rfl
def pL (d:Int):List UInt8×Int:=if d<0∨34≤d then ([],3) else (aN.getD d.toNat [],0)
def sw (a d:Int):Int×Int:=if a<0∨33<a∨d<1∨33<d then (0,3) else if 33<a+d then (0,13) else (a+d,0)
def a8:List UInt8:=List.replicate 15 48
def fC:List (List UInt8):=aN++[a8]
def ot:List Int:=(zAZ 35).map fun (k:Nat)=>(k:Int)
def mG (r:Int×Int×Int):Int×Int×Int:=if r.1=34 then (34,0,r.2.2) else r
def ca (l:List UInt8) (i:Int):Int×Int×Int:=mG (ac fC ot l i)
theorem nT:eU fC=true:=by kernel_rfl
theorem lT:fC.all dr=true:=by kernel_rfl
theorem tq:fC.length=ot.length:=by kernel_rfl
theorem nr (d:Nat) (hd:d<34):fC[d]'(by show d<35;omega)=aN.getD d []:=by
 unfold fC
 rw [List.getElem_append_left (by rw [eO];exact hd),zA5,zAI (by rw [eO];exact hd)]
 rfl
theorem ry (d:Nat) (hd:d<35):(ot[d]?).getD 0=(d:Int):=by
 unfold ot
 rw [zA6,zA2 hd]
 rfl
theorem Dc {l:List UInt8} {i d:Nat} (hd:d<34) (h:At l i (aN.getD d [])):ca l i=((d:Int),((aN.getD d []).length:Int),0):=by
 have hk:d<fC.length:=by show d<35;omega
 have h1:=nE nT lT tq d hk (l:=l) (i:=i) (by rw [nr d hd];exact h)
 unfold ca
 rw [h1,ry d (by omega),nr d hd]
 unfold mG
 rw [if_neg (by dsimp only;omega)]
theorem wF:fC[34]'(by show 34<35;omega)=a8:=by kernel_rfl
theorem Bt {l:List UInt8} {i:Nat} (h:At l i a8):ca l i=(34,0,0):=by
 have h1:=nE nT lT tq 34 (by show 34<35;omega) (l:=l) (i:=i) (by rw [wF];exact h)
 unfold ca
 rw [h1,ry 34 (by omega)]
 rfl
theorem ET {l:List UInt8} {i:Nat} (h:o5 l i a8):ca l i=(0,0,5):=by
 have h1:=Gk nT lT 34 (by show 34<35;omega) (ns:=ot) (l:=l) (i:=i) (by rw [wF];exact h)
 unfold ca
 rw [h1]
 rfl
structure nH where
 tm:Int
 ty:Int
 sp:List UInt8
structure fK where
 num:Int
 qu:Int
 sp:List UInt8
 ms:List aU
structure cS where
 hd:nH
 gs:List fK
def qJ (h:nH):Bool:=decide (0≤h.tm)&&decide (h.tm≤31)&&decide (0≤h.ty)&&decide (h.ty≤63)&&decide (h.sp.length≤32)
def fg (ty:Int):Int:=ty / 4 % 2
def aQ (f:Int):List Int:=if f=1 then [1,2,3,4,5,6,7,8,9,10,11,12] else [1,3,5]
def iC (f g a:Int):Int:=(a - 1) % 11*16+(if f=1 then (g - 1) % 2*176 else 0)
def iD (g a:Int):Int:=(a - 1) / 11*16+(g - 1) / 2*48
def nh (f:Int):Int:=if f=1 then 352 else 176
def m9 (f:Int):Int:=if f=1 then 288 else 144
def xb (f g a x y:Int):Bool:=decide (0≤iC f g a+x)&&decide (iC f g a+x+16≤nh f)&&decide (0≤iD g a+y)&&decide (iD g a+y+16≤m9 f)
def kf (f g:Int) (m:aU):Bool:= !pV m.kd||xb f g m.ad m.x m.y
def dU (f g:Int):Int→List aU→Bool
 |_,[]=>true
 |last,m::ms=>kQ m&&decide (last<m.ad)&&kf f g m&&dU f g m.ad ms
def jq (f n:Int) (g:fK):Bool:=g.num==n&&decide (1≤g.qu)&&decide (g.qu≤31)&&decide (g.sp.length≤32)&&dU f n 0 g.ms
def dT (f:Int):List Int→List fK→Bool
 |[],[]=>true
 |n::ns,g::gs=>jq f n g&&dT f ns gs
 |_,_=>false
def bX (s:cS):Bool:=qJ s.hd&&dT (fg s.hd.ty) (aQ (fg s.hd.ty)) s.gs
def dw (sp:List UInt8):List UInt8:=(sp.flatMap fun b=>49::ax b.toNat 8)++[48]
def dA (n:Int):List UInt8:=ax 1 16++ax n.toNat 4
def jE (h:nH):List UInt8:=ax h.tm.toNat 5++(ax h.ty.toNat 6++dw h.sp)
def bN:bD→List aU→List UInt8
 |_,[]=>[]
 |x,m::ms=>aN.getD (m.ad - x.ad).toNat []++(dI m x++bN (ez m) ms)
def ic (g:fK):List UInt8:=dA g.num++(ax g.qu.toNat 5++(dw g.sp++bN b9 g.ms))
def bZ:List fK→List UInt8
 |[]=>[]
 |g::gs=>ic g++bZ gs
def dC (s:cS):List UInt8:=dA 0++(jE s.hd++bZ s.gs)
def bu:List cS→List UInt8
 |[]=>[]
 |s::ss=>dC s++bu ss
def fo (l:List UInt8):Nat→Nat→Nat
 |0,_=>0
 |k+1,p=>if aP l p=0 then fo l k (p+1)+1 else 0
def cA (l:List UInt8) (p:Nat):Bool:=fo l (8*l.length - p) p==8*l.length - p
def jm (e:Int):Int:=if e=5 then 6 else e
def cB (l:List UInt8):Nat→Nat→List UInt8×Nat×Int
 |k,p=>if 8*l.length<p+1 then ([],0,5) else if aP l p=0 then ([],p+1,0) else match k with
  |0=>([],0,4)
  |k+1=>if 8*l.length<p+9 then ([],0,5) else
   let q:=cB l k (p+9)
   (UInt8.ofNat (aF l (p+1) 8)::q.1,q.2.1,q.2.2)
def eo (l:List UInt8) (p:Nat):nH×Nat×Int:=
 if 8*l.length<p+11 then (⟨0,0,[]⟩,0,5) else
 let q:=cB l 32 (p+11)
 if q.2.2=0 then (⟨aF l p 5,aF l (p+5) 6,q.1⟩,q.2.1,0) else (⟨0,0,[]⟩,0,q.2.2)
def dH (l:List UInt8) (p:Nat):(Int×List UInt8)×Nat×Int:=
 if 8*l.length<p+5 then ((0,[]),0,5) else if aF l p 5=0 then ((0,[]),0,9) else
 let q:=cB l 32 (p+5)
 if q.2.2=0 then ((aF l p 5,q.1),q.2.1,0) else ((0,[]),0,q.2.2)
def cu (l:List UInt8) (p:Nat):Int×Nat×Int:=
 let z:=fo l (8*l.length - p) p
 if 8*l.length≤p+z then (0,0,5) else if z<15 then (0,0,7) else if 8*l.length<p+z+5 then (0,0,5) else (aF l (p+z+1) 4,p+z+5,0)
def cL (l:List UInt8) (p:Nat) (n:Int):Nat×Int:=
 let s:=cu l p
 if s.2.2=0 then (if s.1=n then (s.2.1,0) else (0,8)) else (0,jm s.2.2)
def ba (l:List UInt8) (f g:Int):Nat→Nat→bD→List aU×Nat×Int
 |0,p,_=>([],p,0)
 |k+1,p,x=>
  let d:=ca l p
  if d.2.2=0 then
   if d.1=34 then ([],p,0) else
   if d.1=0 then ba l f g k (p+d.2.1.toNat) x else
   if 33<x.ad+d.1 then ([],0,13) else
   let m:=bR l ((p+d.2.1.toNat:Nat):Int) (x.ad+d.1) x
   if m.2.2=0 then
    if kf f g m.1 then
     let q:=ba l f g k (p+d.2.1.toNat+m.2.1.toNat) (ez m.1)
     (m.1::q.1,q.2.1,q.2.2)
    else ([],0,12)
   else ([],0,jm m.2.2)
  else if d.2.2=5 then (if cA l p then ([],p,0) else ([],0,6))
  else ([],0,d.2.2)
def ed (l:List UInt8) (f n:Int) (p:Nat):fK×Nat×Int:=
 let s:=cL l p n
 if s.2=0 then
  let h:=dH l s.1
  if h.2.2=0 then
   let m:=ba l f n (8*l.length+1) h.2.1 b9
   if m.2.2=0 then (⟨n,h.1.1,h.1.2,m.1⟩,m.2.1,0) else (⟨0,0,[],[]⟩,0,m.2.2)
  else (⟨0,0,[],[]⟩,0,jm h.2.2)
 else (⟨0,0,[],[]⟩,0,s.2)
def dk (l:List UInt8) (f:Int):List Int→Nat→List fK×Nat×Int
 |[],p=>([],p,0)
 |n::ns,p=>
  let g:=ed l f n p
  if g.2.2=0 then
   let q:=dk l f ns g.2.1
   (g.1::q.1,q.2.1,q.2.2)
  else ([],0,g.2.2)
def cE (l:List UInt8) (p:Nat):cS×Nat×Int:=
 let s:=cL l p 0
 if s.2=0 then
  let h:=eo l s.1
  if h.2.2=0 then
   let q:=dk l (fg h.1.ty) (aQ (fg h.1.ty)) h.2.1
   if q.2.2=0 then (⟨h.1,q.1⟩,q.2.1,0) else (⟨⟨0,0,[]⟩,[]⟩,0,q.2.2)
  else (⟨⟨0,0,[]⟩,[]⟩,0,jm h.2.2)
 else (⟨⟨0,0,[]⟩,[]⟩,0,s.2)
def bY (l:List UInt8):Nat→Nat→List cS×Int
 |0,_=>([],0)
 |k+1,p=>if cA l p then ([],0) else
  let s:=cE l p
  if s.2.2=0 then
   let q:=bY l k s.2.1
   (s.1::q.1,q.2)
  else ([],s.2.2)
def dx (l:List UInt8) (p:Nat):Bool:=decide (p+20≤8*l.length)&&aC l p 20==dA 0
def dq (l:List UInt8):Nat→Nat→Option Nat
 |0,_=>none
 |k+1,p=>if dx l p then some p else dq l k (p+1)
def aZ (l:List UInt8):List cS×Int:=
 match dq l (8*l.length) 0 with
 |none=>([],0)
 |some p=>bY l (8*l.length+1) p
theorem rX:∀(L:List (Int×Int)) (first:Bool),(dj L first).length≤20*L.length
 |[],_=>by simp [dj]
 |p::L,first=>by
  have h1:=AA p first
  have h2:=rX L false
  rw [dj,zAA,zAV]
  omega
theorem Dp {x:bB} {intra:Bool} (h:cK x intra=0):(bU x intra).length≤1300:=by
 have hs:x.l.length≤64:=by
  unfold cK at h
  split at h
  ·cases h
  ·split at h
   ·cases h
   ·have h2:(0:Int)≤eH intra∧eH intra≤64:=by cases intra<;>decide
    have:=lz x.l h2.1 h2.2 h
    omega
 have h3:=rX x.l (!intra)
 unfold bU
 rw [zAA,zAA]
 have h4:(if intra=true then ax x.dc.toNat 8 else []).length≤8:=by split<;>simp [aJ]
 have h5:bJ.length=2:=rfl
 omega
theorem Az (intra:Bool):∀(bl:List bB),(∀b∈bl,cK b intra=0)→(bl.flatMap fun b=>bU b intra).length≤1300*bl.length
 |[],_=>by simp
 |b::bl,h=>by
  have h1:=Dp (h b (by simp))
  have h2:=Az intra bl (fun c hc=>h c (zAY _ hc))
  rw [zAT,zAA,zAV]
  omega
theorem kc {cs:List (List UInt8)} (hc:cs.all dr=true) (lo k:Int):((dG cs lo k).getD []).length≤24:=by
 unfold dG
 split
 ·simp
 ·rcases zAg (k - lo).toNat cs.length with h|h
  ·rw [zAI h];exact (nu hc _ h).2
  ·rw [zAX h];simp
theorem DX {m:aU} (x:bD) (hm:rN m):(dI m x).length≤8000:=by
 have h1:(eI m.kd).length≤24:=kc kA _ _
 have h2:(mQ m).length≤5:=by unfold mQ;split<;>simp [aJ]
 have h3:∀a b,(mV m a b).length≤48:=fun a b=>by
  unfold mV
  split
  ·have k1:(fy a m.x).length≤24:=kc vec_code _ _
   have k2:(fy b m.y).length≤24:=kc vec_code _ _
   rw [zAA];omega
  ·simp
 have h4:(mC m).length≤24:=by
  unfold mC
  split
  ·exact kc oy _ _
  ·simp
 have h5:(mB m).length≤1300*m.bl.length:=Az _ _ hm.bl
 have h6:cI m.pa≤6:=by unfold cI;split<;>omega
 have h7:=hm.len
 have h8:=h3 (dy m.ad (m.ad - x.ad) x.had x.x x.y).1 (dy m.ad (m.ad - x.ad) x.had x.x x.y).2
 rw [kh]
 simp only [zAA]
 omega
end Go.Proofs.YthhijgcfbjcgiaaGreatDoor
