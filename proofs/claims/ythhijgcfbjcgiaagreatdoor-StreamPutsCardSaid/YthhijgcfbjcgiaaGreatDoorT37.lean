/- Stg, StgW, StgI, MGetL -/
import Derived.Test.YthhijgcfbjcgiaaGreatDoorT36
import Derived.Sort.CutIn
namespace Go.Proofs.YthhijgcfbjcgiaaGreatDoor
section
open Go Go.RowKit
attribute [local go_sem] Oper.semAt_some
open Go.Lib renaming hid→O
open List renaming setIfInBounds_toArray→U,set_cons_succ→Z,set_cons_zero→V,replicate→J,drop_succ_cons→OC,drop_zero→OE
open Go.Value renaming pointer→Y,int→OB,bool→OD
open Go.Proofs.YthhijgcfbjcgiaaGreatDoor.bY renaming take→X,step→OH
open Go.IntKind renaming i64→OA
open Go.World renaming size_alloc→OF
open Tryz renaming prog→OG
abbrev jq:Type:=Nat×Nat×Nat×Nat
def mE (g:Nat):jq->Value
 |(0,_)=> .func (.func 224) #[Y (some ⟨g,0,none⟩)] #[]
 |(1,_)=> .func (.func 225) #[Y (some ⟨g,0,none⟩)] #[]
 |(2,b0,b1,b2)=> .func (.func 255) #[] #[Y (some ⟨b0,0,none⟩),Y (some ⟨b1,0,none⟩),Y (some ⟨b2,0,none⟩)]
 |(3,b0,b1,b2)=> .func (.func 255) #[] #[Y (some ⟨b0,0,none⟩),Y (some ⟨b1,0,none⟩),Y (some ⟨b2,0,none⟩)]
 |(4,_)=> .func (.func 227) #[Y (some ⟨g,0,none⟩)] #[]
 |(_,_)=> .func (.func 228) #[Y (some ⟨g,0,none⟩)] #[]
def cB (pre:List jq):List Nat:=pre.map (·.1)
theorem bX (pre:List jq)(x:jq):cB (pre++[x])=cB pre++[x.1]:=by simp[cB]
structure dw (w0:World) (g:Nat) (A:Option Addr) (n c:Nat) (l:List UInt8) (s0:aY) (L:List aM) (ts:List Nat) (u:Nat) (W:World):Prop where
 ex:∃s bl v xs,br l ts s0 []=((s,bl),0)/\ii w0 g A n c {ax s u with v:=v} xs W/\xs.map (·.1)=bl
 cl:aa L W
structure kB (g:Nat) (A:Option Addr) (n c:Nat) (pt:Bool×Bool×Bool×Bool×Bool) (x y:Int) (L:List aM) (W:World):Prop where
 cl:aa L W
 ex:∃s:aY,ab W g 208 (f9 A n c s)/\s.pt=pt/\s.x=x/\s.y=y
def I1 (g:Nat) (j B:Int):jq->World->Prop
 |(2,b0,b1,b2),W=>ab W b0 206 #[Y (some ⟨g,0,none⟩)]/\ab W b1 3 #[OB OA j]/\ab W b2 250 #[Y (some ⟨g,10,none⟩)]
 |(3,b0,b1,b2),W=>ab W b0 206 #[Y (some ⟨g,0,none⟩)]/\ab W b1 3 #[OB OA B]/\ab W b2 250 #[Y (some ⟨g,11,none⟩)]
 |_,_=>True
section
variable {w0 W W':World} {g:Nat} {A:Option Addr} {n c:Nat} {l:List UInt8} {s0:aY} {L:List aM} {ts:List Nat} {u:Nat} {pt:Bool×Bool×Bool×Bool×Bool} {x y:Int}
theorem dw.below (h:dw w0 g A n c l s0 L ts u W)(j:Below W.heap.size W W'):dw w0 g A n c l s0 L ts u W':=by
 obtain⟨⟨s,bl,v,xs,B,h2,C⟩,D⟩:=h;exact⟨⟨s,bl,v,xs,B,h2.mono j,C⟩,D.below j⟩
theorem kB.below (h:kB g A n c pt x y L W)(j:Below W.heap.size W W'):kB g A n c pt x y L W':=by
 obtain⟨B,s,h2,C⟩:=h;exact⟨B.below j,s,h2.below j h2.lt,C⟩
theorem kB.c4 (h:kB g A n c pt x y L W):W.cell? ⟨g,4,none⟩=some (OD pt.2.2.1):=by
 obtain⟨_,s,h2,rfl,_⟩:=h;exact h2.cell 4
theorem kB.c14 (h:kB g A n c pt x y L W):W.cell? ⟨g,14,none⟩=some (OB OA x):=by
 obtain⟨_,s,h2,_,rfl,_⟩:=h;exact h2.cell 14
theorem kB.c15 (h:kB g A n c pt x y L W):W.cell? ⟨g,15,none⟩=some (OB OA y):=by
 obtain⟨_,s,h2,_,_,rfl⟩:=h;exact h2.cell 15
theorem dw.st (h:dw w0 g A n c l s0 L (0::ts) u W)(B:0 ∉ ts):kB g A n c (aC l s0 0).1.1.pt s0.x s0.y L W:=by
 obtain⟨⟨s,bl,v,xs,e,C,_⟩,j⟩:=h;have b:=qs l _ e;refine⟨j,_,C.cell,?_,?_,?_⟩
 ·exact(bi s u).2.2.2.1.trans (oA l e B)
 ·exact(bi s u).2.1.trans b.1
 ·exact(bi s u).2.2.1.trans b.2
theorem dw.blk (h:dw w0 g A n c l s0 L (0::ts) u W)(B:0 ∉ ts):∃s,ab W g 208 (f9 A n c s)/\s.pt=(aC l s0 0).1.1.pt:=by
 obtain⟨_,s,h2,j,_⟩:=h.st B;exact⟨s,h2,j⟩
theorem dw.low (h:dw w0 g A n c l s0 L ts u W)(I:u<4){C:Nat}(j:C<4):dw w0 g A n c l s0 L ts C W:=by
 obtain⟨⟨s,bl,v,xs,e,B,D⟩,G⟩:=h;refine⟨⟨s,bl,v,xs,e,?_,D⟩,G⟩;rw[jU s I] at B;rw[jU s j];exact B
theorem dw.four (h:dw w0 g A n c l s0 L ts 5 W):dw w0 g A n c l s0 L ts 4 W:=by
 obtain⟨⟨s,bl,v,xs,e,C,j⟩,B⟩:=h;refine⟨⟨s,bl,v,xs,e,?_,j⟩,B⟩;rw[I9 s];exact C
theorem dw.five (h:dw w0 g A n c l s0 L (0::ts) 0 W)(I:0 ∉ ts)(D:(aC l s0 0).1.1.pt.1=false):dw w0 g A n c l s0 L (0::ts) 5 W:=by
 obtain⟨⟨s,bl,v,xs,e,j,C⟩,G⟩:=h;refine⟨⟨s,bl,v,xs,e,?_,C⟩,G⟩;have:=oA l e I;have B:ax s 5=s:=by unfold ax;rw[this,D,if_neg (by simp)]
 rw[jU s (by decide)] at j;rw[B];exact j
theorem dw.set (h:dw w0 g A n c l s0 L (0::ts) 0 W)(M:0 ∉ ts)(D:(aC l s0 0).1.1.pt.1=true)(K:w0.heap.size<=g)(G:∀q∈L,q.1≠g):dw w0 g A n c l s0 L (0::ts) 5 (W.setCell ⟨g,12,none⟩ (OB OA 63)):=by
 obtain⟨⟨s,bl,v,xs,e,j,C⟩,I⟩:=h;refine⟨⟨s,bl,v,xs,e,?_,C⟩,I.far G _⟩;have:=oA l e M;have B:ax s 5={s with pa:=63}:=by unfold ax;rw[this,D,if_pos ⟨by decide,rfl⟩]
 rw[jU s (by decide)] at j;rw[B];exact j.turn K (cR (dE.refl _ W) 12 (OB OA 63)) (j.cell.set_ 12 (OB OA 63)) rfl
theorem dw.again (h:dw w0 g A n c l s0 L (ts++[5]) 0 W):dw w0 g A n c l s0 L (ts++[5]) 5 W:=by
 obtain⟨⟨s,bl,v,xs,e,j,B⟩,C⟩:=h;refine⟨⟨s,bl,v,xs,e,?_,B⟩,C⟩;rw[jU s (by decide)] at j;rw[uU l e];exact j
theorem dw.count (h:dw w0 g A n c l s0 L (0::eJ (aC l s0 0).1.1) 5 W):∃pa,W.cell? ⟨g,12,none⟩=some (OB OA pa)/\ea l s0=0::(eJ (aC l s0 0).1.1++J (cC pa) 5):=by
 obtain⟨⟨s,bl,v,xs,e,j,B⟩,C⟩:=h;exact⟨_,j.cell.cell 12,IL l e⟩
end
theorem xW (g k:Nat)(j:Int)(w:World):Calls OG 226 #[Y (some ⟨g,0,none⟩),Y (some ⟨g,k,none⟩),OB OA j] w λe w'=>∃B C D,e=.returned (.func (.func 255) #[] #[Y (some ⟨B,0,none⟩),Y (some ⟨C,0,none⟩),Y (some ⟨D,0,none⟩)])/\
  Below w.heap.size w w'/\ab w' B 206 #[Y (some ⟨g,0,none⟩)]/\ab w' C 3 #[OB OA j]/\ab w' D 250 #[Y (some ⟨g,k,none⟩)]:=by
 refine(Im g k j w).mono ?_;rintro e w' ⟨rfl,rfl⟩;refine⟨_,_,_,rfl,?_,?_,?_,?_⟩
 ·exact(((Below.refl _ w).alloc (Nat.le_refl _) _).alloc (by simp) _).alloc (by simp;omega) _
 ·(repeat (first|(refine aE (ab.new _ _ _) ?_;simp;done)|refine ab.alloc ?_ _))
 ·(repeat (first|(refine aE (ab.new _ _ _) ?_;simp[OF];done)|refine ab.alloc ?_ _))
 ·(repeat (first|(refine aE (ab.new _ _ _) ?_;simp[OF];done)|refine ab.alloc ?_ _))
theorem J0 (g j B C:Nat):mE g (2,j,B,C)= .func (.func 255) #[] #[Y (some ⟨j,0,none⟩),Y (some ⟨B,0,none⟩),Y (some ⟨C,0,none⟩)]:=rfl
theorem J1 (g j B C:Nat):mE g (3,j,B,C)= .func (.func 255) #[] #[Y (some ⟨j,0,none⟩),Y (some ⟨B,0,none⟩),Y (some ⟨C,0,none⟩)]:=rfl
set_option maxRecDepth 100000 in
set_option maxHeartbeats 8000000 in
theorem Dj (k:Nat)(hk:1<=k)(g bc:Nat)(x0 y0:Int)(i q v c:Bool)(Lm:c=true->i=false)(T1 T2 T3 TL:List Nat)(R:List Nat->Nat->World->Prop)(T:World->Prop)
  (cI:T1=0::(if q then[1] else[])) (Lh:T2=T1++(if v then[2,3] else[])) (Li:T3=T2++(if c then[4] else[]))
  (Lg:∀ts u W W',R ts u W->Below W.heap.size W W'->R ts u W') (Lj:∀W W',T W->Below W.heap.size W W'->T W')
  (jg:∀ts u W,R ts u W->ab W bc 206 #[Y (some ⟨g,0,none⟩)]) (L8:∀W,T W->ab W bc 206 #[Y (some ⟨g,0,none⟩)])
  (La:∀W,R [0] 0 W->W.cell? ⟨g,3,none⟩=some (OD q)) (Lb:∀W,T W->W.cell? ⟨g,4,none⟩=some (OD v)) (Kv:∀W,T W->W.cell? ⟨g,14,none⟩=some (OB OA x0)) (Kw:∀W,T W->W.cell? ⟨g,15,none⟩=some (OB OA y0))
  (L9:∀W,R T2 0 W->W.cell? ⟨g,2,none⟩=some (OD i)) (Lc:∀W,R T2 5 W->W.cell? ⟨g,6,none⟩=some (OD c)) (Ld:∀ts u W,R ts u W->∃C,C.size=16/\ab W g 208 C)
  (Kx:∀W,R T1 0 W->T W) (Ky:∀W,R (T1++[2]) 0 W->T W) (KA:∀ts u W,R ts 0 W->u<4->R ts u W) (h5:∀W,i=false->R T2 0 W->R T2 5 W) (L7:∀W,i=false->R T3 0 W->R T3 5 W) (KC:∀W,i=true->R T2 0 W->R T2 5 (W.setCell ⟨g,12,none⟩ (OB OA 63)))
  (h4:∀W,R T2 5 W->R T2 4 W) (Lk:∀ts W,R (ts++[5]) 0 W->R (ts++[5]) 5 W) (Kz:∀W,R T3 5 W->∃pa,W.cell? ⟨g,12,none⟩=some (OB OA pa)/\TL=T3++J (cC pa) 5) (KB:T3<+:TL):
  BA Fence.wide k OG 223 #[Y (some ⟨bc,0,none⟩)] (λx:jq=> #[mE g x])
   (λ_ W=>R [] 0 W) (λpre x W=>R (cB pre) x.1 W/\I1 g x0 y0 x W) (λpre W=>R (cB pre) 0 W) (λpre W=>R (cB pre) 5 W) (λxs=>cB xs=TL) (λpre=>cB pre<+:TL) T:=by
 intro lp K Jx W hK Lf hY L6 Lo;refine callsIn_of_wp Tryz.func223 rfl trivial ?_ rfl;simp only[Tryz.ntmps223,List.size_toArray,List.length_cons,List.length_nil,Nat.reduceAdd,Nat.reduceSub,Array.replicate_succ,Array.replicate_zero,List.push_toArray,List.append_toArray,List.nil_append,List.cons_append];have HY:=O hY;have HK:=O hK;have LJ:=O Lf;have LK:=O Lo;have H0:=O L6;have K4:=O Lg;have KY:=O Lj;have gj:=O jg;have KD:=O L8;have LB:=O La;have LC:=O Lb;have KL:=O Kv;have KM:=O Kw;have LA:=O L9;have LD:=O Lc;have LE:=O Ld;have KV:=O Kx;have KW:=O Ky;have K0:=O KA;have H5:=O h5;have Lz:=O L7;have L5:=O KC;have H4:=O h4;have LT:=O Lk;have L4:=O Kz;have av:=O KB;have K5:=O cI;have aJ:=O Lh;have cE:=O Li;have LU:=O Lm;clear hY hK Lf Lo L6 Lg Lj jg L8 La Lb Kv Kw L9 Lc Ld Kx Ky KA h5 L7 KC h4 Lk Kz KB cI Lh Li Lm
 gi_upto_region 0 with fail
 gi_cut [21] from 2 (λLw wx=>(Lw=OD true/\Hid (∃pre,cB pre<+:TL/\Jx pre wx))\/(Lw=OD false/\∃pre,Hid (cB pre=T1)/\Hid (R T1 0 wx)/\Hid (K wx)))
 case first=>
  have z0:=(gj.out _ _ _ H0.out).cell 0;(try dsimp only at z0);obtain⟨fn,tmps,N,dv,D,hR⟩:=HY.out [] (0,0,0,0) W ⟨H0.out,trivial⟩ LK.out ((show [0]<+:T3 by rw[cE.out,aJ.out,K5.out];exact⟨_,by simp;rfl⟩).trans av.out);have B:=O hR;dsimp only[mE] at D;clear hR;gi_wp2_with fail
  refine B.out.mono ?_;rintro e W1 (⟨rfl,hI,G⟩|⟨rfl,hJ⟩)
  ·have z1:=(gj.out _ _ _ hI).cell 0
   have z2:=LB.out _ hI;have HI:=O hI;have dy:=O G;(try dsimp only at z1 z2);clear hI G D B z0;have LW:cB [((0,0,0,0):jq)]=[0]:=rfl
   cases q with
   |false=>
    have cI:T1=[0]:=K5.out;gi_wp2_with (refine wpListIn_skip (by rfl) (by rfl) ?_)
    gi_meet
    case rel=>exact .inr ⟨rfl,[(0,0,0,0)],O (by rw[cI];rfl),O (by rw[cI];exact HI.out),dy⟩
   |true=>
    have cI:T1=[0,1]:=K5.out;obtain⟨fn,tmps,N,dv,D,hR⟩:=HY.out [(0,0,0,0)] (1,0,0,0) W1 ⟨K0.out _ _ _ HI.out (by decide),trivial⟩ dy.out ((show [0,1]<+:T3 by rw[cE.out,aJ.out,cI];exact⟨_,by simp;rfl⟩).trans av.out);have B:=O hR;dsimp only[mE] at D;clear hR LW;have M:=O cI;clear cI;gi_wp2_with fail
    refine B.out.mono ?_;rintro e W2 (⟨rfl,hI,G⟩|⟨rfl,hJ⟩)
    ·have LF:=O hI;have KF:=O G
     clear hI G D B z1 z2;gi_wp2_with fail
     gi_meet
     case rel=>exact .inr ⟨rfl,[(0,0,0,0),(1,0,0,0)],O (by rw[M.out];rfl),O (by rw[M.out];exact LF.out),KF⟩
    ·have KE:=O hJ
     clear hJ D B z1 z2;gi_wp2_with fail
     gi_meet
     case rel=>exact .inl ⟨rfl,O ⟨[(0,0,0,0),(1,0,0,0)],(show [0,1]<+:T3 by rw[cE.out,aJ.out,M.out];exact⟨_,by simp;rfl⟩).trans av.out,KE.out⟩⟩
  ·have KE:=O hJ
   clear hJ D B z0;gi_wp2_with (refine wpListIn_skip (by rfl) (by rfl) ?_)
   gi_meet
   case rel=>exact .inl ⟨rfl,O ⟨[(0,0,0,0)],(show [0]<+:T3 by rw[cE.out,aJ.out,K5.out];exact⟨_,by simp;rfl⟩).trans av.out,KE.out⟩⟩
 rcases hcut with⟨rfl,HS⟩|⟨rfl,pre,HT,dO,dy⟩
 ·gi_wp2_with fail
  refine bodyPost_ret (results_none rfl _ _ _) rfl ?_;exact⟨⟨_,rfl⟩,.inr HS.out⟩
 gi_upto_region 1 with fail
 gi_cut [56] from 2 (λLx wx=>(Lx=OD true/\Hid (∃pre,cB pre<+:TL/\Jx pre wx))\/(Lx=OD false/\∃pre,Hid (cB pre=T2)/\Hid (R T2 0 wx)/\Hid (K wx)))
 case first=>
  have jg:Below wc.heap.size wc wc.drew:=(Below.refl _ wc).drew;have KH:=K4.out _ _ _ _ dO.out jg;have KU:=O KH;have Hu:=O (KV.out _ KH);have Kt:=O (HK.out.below dy.out jg);have M:=O (show cB pre=T1 from HT.out);clear jg KH;refine gt (λw'=>T w') 31 (X 0 (X 1 (X 2 (X 3 (X 4 (X 5 (X 6 (X 7 (X 8 (X 9 (X 10 (X 11 (X 12 (X 13 (X 14 (X 15 (OH 16 (OH 17 (X 18 (X 19 (X 20 (X 21 (X 22 (X 23 (X 24 (X 25 (X 26 (X 27 (X 28 (X 29 (OH 30 .done))))))))))))))))))))))))))))))) rfl (by kernel_rfl) (by kernel_rfl) (λ_ _ d _ _ h=>by cases d<;>exact h) (by simp only[bY.out,Array.getD_eq_getD_getElem?,List.getElem?_toArray,List.getElem?_cons_zero,List.getElem?_cons_succ,Option.getD_some];rfl) (by simp only[List.map_cons,List.map_nil];rfl) (Hu.out) (λPE jY=>?_)
  iterate 6
   refine dz (v:=?_) rfl (by rfl) ?_ (λ_=>rfl) ?_
   rotate_left
   ·intro _ I;(try dsimp only at I);have z0:=(KD.out _ I).cell 0;have z1:=LC.out _ I;go_simp;(try with_reducible rfl)
   simp only[U,V,Z]
  cases v with
  |false=>
   iterate 10
    refine fN rfl (by rfl) (λ_=>rfl) ?_
    simp only[U,V,Z]
   refine gU (by rfl) rfl Hu.out ?_;simp only[U,V,Z];refine gU (by rfl) rfl Hu.out ?_;simp only[U,V,Z]
   iterate 12
    refine fN rfl (by rfl) (λ_=>rfl) ?_
    simp only[U,V,Z]
   refine gU (by rfl) rfl Hu.out ?_;simp only[U,V,Z];refine jY _ _ ?_;clear jY PE;simp only[OC,OE];gi_wp2_with (refine wpListIn_skip (by rfl) (by rfl) ?_)
   gi_meet
   case rel=>exact .inr ⟨rfl,pre,O (by rw[aJ.out,M.out];simp),O (by rw[aJ.out];simpa using KU.out),Kt⟩
  |true=>
   iterate 10
    refine dz (v:=?_) rfl (by rfl) ?_ (λ_=>rfl) ?_
    rotate_left
    ·intro _ I;(try dsimp only at I);have z0:=(KD.out _ I).cell 0;have z2:=KL.out _ I;go_simp;(try with_reducible rfl)
    simp only[U,V,Z]
   have C:=O (xW g 10 x0 wc.drew);refine lJ (f:=226) rfl (by rfl) (by first|(go_simp;done)|(go_simp;rfl)) C.out ?_;rintro e w2 ⟨b0,b1,b2,rfl,eE,Lp,Lq,Lr⟩;have LO:=O (K4.out _ _ _ _ KU.out eE);have LQ:=O (KY.out _ _ Hu.out eE);have KF:=O (HK.out.below Kt.out eE);refine⟨_,rfl,T,λ_ h=>h,LQ.out,?_⟩;simp only[U,V,Z];have KR:=O (show T1++[2]<+:TL from(show T1++[2]<+:T3 by rw[cE.out,aJ.out];exact⟨_,by simp;rfl⟩).trans av.out);obtain⟨fn,tmps,N,dv,D,hR⟩:=HY.out pre (2,b0,b1,b2) w2 ⟨K0.out _ 2 _ (by rw[M.out];exact LO.out) (by decide),Lp,Lq,Lr⟩ KF.out (by show cB _<+:TL;rw[bX,M.out];exact KR.out);have B:=O hR;simp only[J0] at D;clear hR eE Lp Lq Lr;refine zX rfl (by rfl) (by first|(go_simp;done)|(go_simp;rfl)) B.out ?_;rintro e W3 (⟨rfl,hI,G⟩|⟨rfl,hJ⟩)
   ·rw[bX,M.out] at hI
    have LG:=O hI;have LL:=O G;have JT:=O (KW.out _ hI);clear hI G D B;refine⟨_,rfl,T,λ_ h=>h,JT.out,?_⟩;simp only[U,V,Z]
    iterate 2
     refine dz (v:=?_) rfl (by rfl) ?_ (λ_=>rfl) ?_
     rotate_left
     ·intro _ I;(try dsimp only at I);go_simp;(try with_reducible rfl)
     simp only[U,V,Z]
    iterate 10
     refine dz (v:=?_) rfl (by rfl) ?_ (λ_=>rfl) ?_
     rotate_left
     ·intro _ I;(try dsimp only at I);have z0:=(KD.out _ I).cell 0;have z2:=KM.out _ I;go_simp;(try with_reducible rfl)
     simp only[U,V,Z]
    have C4:=O (xW g 11 y0 W3);refine lJ (f:=226) rfl (by rfl) (by first|(go_simp;done)|(go_simp;rfl)) C4.out ?_;rintro e w4 ⟨c0,c1,c2,rfl,K8,Ls,Lt,Lu⟩;have LP:=O (K4.out _ _ _ _ LG.out K8);have LR:=O (KY.out _ _ JT.out K8);have LM:=O (HK.out.below LL.out K8);refine⟨_,rfl,T,λ_ h=>h,LR.out,?_⟩;simp only[U,V,Z];have Hl:=O (show (T1++[2])++[3]<+:TL from(show (T1++[2])++[3]<+:T3 by rw[cE.out,aJ.out];exact⟨_,by simp;rfl⟩).trans av.out);obtain⟨fn,tmps,N,dv,D,hR⟩:=HY.out (pre++[(2,b0,b1,b2)]) (3,c0,c1,c2) w4 ⟨K0.out _ 3 _ (by rw[bX,M.out];exact LP.out) (by decide),Ls,Lt,Lu⟩ LM.out (by show cB _<+:TL;rw[bX,bX,M.out];exact Hl.out);have B:=O hR;simp only[J1] at D;clear hR K8 Ls Lt Lu;refine jY _ _ ?_;clear jY PE;simp only[OC,OE];gi_wp2_with fail
    refine B.out.mono ?_;rintro e W5 (⟨rfl,hI,G⟩|⟨rfl,hJ⟩)
    ·simp only[bX,M.out] at hI
     have kA:=O hI;have rG:=O G;clear hI G D B;gi_wp2_with fail
     gi_meet
     case rel=>exact .inr ⟨rfl,pre++[(2,b0,b1,b2)]++[(3,c0,c1,c2)],O (by rw[bX,bX,aJ.out,M.out];simp),O (by rw[aJ.out];simpa using kA.out),rG⟩
    ·have kU:=O hJ
     clear hJ D B;gi_wp2_with fail
     gi_meet
     case rel=>exact .inl ⟨rfl,O ⟨pre++[(2,b0,b1,b2)]++[(3,c0,c1,c2)],by show cB _<+:TL;rw[bX,bX,M.out];exact Hl.out,kU.out⟩⟩
   ·have LH:=O hJ
    have JT:=O (LJ.out _ _ hJ);clear hJ D B;refine⟨_,rfl,T,λ_ h=>h,JT.out,?_⟩;simp only[U,V,Z]
    iterate 2
     refine dz (v:=?_) rfl (by rfl) ?_ (λ_=>rfl) ?_
     rotate_left
     ·intro _ I;(try dsimp only at I);go_simp;(try with_reducible rfl)
     simp only[U,V,Z]
    iterate 10
     refine fN rfl (by rfl) (λ_=>rfl) ?_
     simp only[U,V,Z]
    refine gU (by rfl) rfl JT.out ?_;simp only[U,V,Z];refine jY _ _ ?_;clear jY PE;simp only[OC,OE];gi_wp2_with (refine wpListIn_skip (by rfl) (by rfl) ?_)
    gi_meet
    case rel=>exact .inl ⟨rfl,O ⟨pre++[(2,b0,b1,b2)],by show cB _<+:TL;rw[bX,M.out];exact KR.out,LH.out⟩⟩
 rcases hcut with⟨rfl,HS⟩|⟨rfl,pre,HT,dO,dy⟩
 ·gi_wp2_with fail
  refine bodyPost_ret (results_none rfl _ _ _) rfl ?_;exact⟨⟨_,rfl⟩,.inr HS.out⟩
 have z0:=(gj.out _ _ _ dO.out).cell 0;have z1:=LA.out _ dO.out;obtain⟨CC,LV,K9⟩:=LE.out _ _ _ dO.out;have z2:wc.cell? ⟨g,12,none⟩=some (CC[12]'(by omega)):=by rw[K9.cell 12];simp[LV]
 have z3:=K9.frozen 12;have L0:=O K9;clear K9;(try dsimp only at z0 z1 z2 z3)
 gi_upto_if 61 with fail
 gi_cut [] from 2 (λwx=>∃pre,Hid (cB pre=T2)/\Hid (R T2 5 wx)/\Hid (K wx))
 case first=>
  cases i with
  |false=>
   gi_wp2_with fail
   gi_meet
   case rel=>exact⟨pre,HT,O (H5.out _ (by trivial) dO.out),dy⟩
  |true=>
   gi_wp2_with fail
   gi_meet
   case rel=>exact⟨pre,HT,O (L5.out _ (by trivial) dO.out),O (HK.out.set (p:=⟨g,12,none⟩) dy.out L0.out)⟩
 clear z0 z1 z2 z3 L0;obtain⟨fJ,iP,K3,KO⟩:=hcut;have z0:=(gj.out _ _ _ K3.out).cell 0;have z1:=LD.out _ K3.out;(try dsimp only at z0 z1)
 gi_upto_region 4 with fail
 gi_cut [77] from 2 (λLy wx=>(Ly=OD true/\Hid (∃pre,cB pre<+:TL/\Jx pre wx))\/(Ly=OD false/\∃pre,Hid (cB pre=T3)/\Hid (R T3 5 wx)/\Hid (K wx)))
 case first=>
  cases c with
  |false=>
   gi_wp2_with (refine wpListIn_skip (by rfl) (by rfl) ?_)
   gi_meet
   case rel=>exact .inr ⟨rfl,fJ,O (by rw[iP.out,cE.out];simp),O (by rw[cE.out];simpa using K3.out),KO⟩
  |true=>
   have K6:Hid (T3=T2++[4]):=O (by rw[cE.out];simp);obtain⟨fn,tmps,N,dv,D,hR⟩:=HY.out fJ (4,0,0,0) _ ⟨by rw[iP.out];exact H4.out _ K3.out,trivial⟩ KO.out (by show cB _<+:TL;rw[bX,iP.out];have h:=av.out;rw[K6.out] at h;exact h);have B:=O hR;dsimp only[mE] at D;clear hR;gi_wp2_with fail
   refine B.out.mono ?_;rintro e W5 (⟨rfl,hI,G⟩|⟨rfl,hJ⟩)
   ·rw[bX,iP.out] at hI
    have kA:=O hI;have rG:=O G;clear hI G D B z0 z1;gi_wp2_with fail
    gi_meet
    case rel=>exact .inr ⟨rfl,fJ++[(4,0,0,0)],O (by rw[bX,iP.out,K6.out]),O (Lz.out _ (LU.out (by trivial)) (by rw[K6.out];exact kA.out)),rG⟩
   ·have kU:=O hJ
    clear hJ D B z0 z1;gi_wp2_with fail
    gi_meet
    case rel=>exact .inl ⟨rfl,O ⟨fJ++[(4,0,0,0)],by show cB _<+:TL;rw[bX,iP.out];have h:=av.out;rw[K6.out] at h;exact h,kU.out⟩⟩
 clear z0 z1;rcases hcut with⟨rfl,HS⟩|⟨rfl,Lv,Ku,KG,LN⟩
 ·gi_wp2_with fail
  refine bodyPost_ret (results_none rfl _ _ _) rfl ?_;exact⟨⟨_,rfl⟩,.inr HS.out⟩
 have z0:=(gj.out _ _ _ KG.out).cell 0;obtain⟨pa,z1,KJ⟩:=L4.out _ KG.out;obtain⟨cn,KI⟩:∃cn,cC pa=cn:=⟨_,rfl⟩;have Ll:cn<=6:=by rw[<-KI];unfold cC;split<;>omega
 have CP:=O (λW=>oT pa W);rw[KI] at KJ CP;have KX:=O KJ;have KN:=O Ll;clear KJ KI Ll;(try dsimp only at z0 z1);gi_wp2_with (refine⟨trivial,?_⟩;gi_at_call 127;refine(callsIn_wide.2 (CP.out _)).mono ?_;rintro e w2 ⟨rfl,eE⟩;have KK:=O eE;clear eE z0 z1)
 gi_loopg [84] cn (λgk i=> λwr=>∃(j:Nat),j+gk=cn/\i=OB OA (j:Int)/\∃pre,Hid (cB pre=T3++J j 5)/\Hid (R (cB pre) 5 wr)/\Hid (K wr))
 case atStart=>
  exact⟨0,by omega,rfl,Lv,O (by rw[Ku.out];simp),O (by rw[Ku.out];exact K4.out _ _ _ _ KG.out KK.out),O (HK.out.below LN.out KK.out)⟩
 case round=>
  obtain⟨j,hj,rfl,bM,KZ,Ht,KQ⟩:=hrel;have z0:=(gj.out _ _ _ Ht.out).cell 0;(try dsimp only at z0);have HJ:=O hj
  cases gk with
  |zero=>
   have LX:¬((j:Int)<(cn:Int)):=(by omega);have Ln:j=cn:=(by omega);have LI:=O Ln;clear hj Ln;gi_wp2_with fail
   refine bodyPost_end (results_none rfl _ _ _) rfl ?_;exact⟨⟨_,rfl⟩,.inl ⟨bM,by rw[KZ.out,KX.out,LI.out],Ht.out,KQ.out⟩⟩
  |succ gk=>
   have LX:((j:Int)<(cn:Int)):=(by omega);have LY:IntKind.i64.wrap ((j:Int)+1)=(j:Int)+1:=(by have:=KN.out;rw[IntKind.wrap_i64];omega);have Hl:Hid (cB (bM++[((5,0,0,0):jq)])=T3++J (j+1) 5):=O (by rw[bX,KZ.out,List.append_assoc,List.replicate_succ'])
   have KT:Hid (cB (bM++[((5,0,0,0):jq)])<+:TL):=O (by
    rw[Hl.out,KX.out];refine(List.prefix_append_right_inj _).2 ?_;refine⟨J (cn - (j+1)) 5,?_⟩;rw[List.replicate_append_replicate];congr 1;omega)
   obtain⟨fn,tmps,N,dv,D,hR⟩:=HY.out bM (5,0,0,0) _ ⟨Ht.out,trivial⟩ KQ.out KT.out;have B:=O hR;dsimp only[mE] at D;clear hR hj;gi_wp2_with fail
   refine B.out.mono ?_;rintro e W5 (⟨rfl,hI,G⟩|⟨rfl,hJ⟩)
   ·have Le:R (cB bM++[5]) 0 W5:=by rw[bX] at hI;exact hI
    have kA:=O (LT.out _ _ Le);have rG:=O G;clear hI Le G D B z0;gi_wp2_with fail
    gi_roundg gk
    case measure=>omega
    case rel=>exact⟨j+1,by have:=HJ.out;omega,rfl,bM++[(5,0,0,0)],Hl,O (by rw[bX];exact kA.out),rG⟩
   ·have kU:=O hJ
    clear hJ D B z0;gi_wp2_with fail
    refine bodyPost_ret (results_none rfl _ _ _) rfl ?_;exact⟨⟨_,rfl⟩,.inr ⟨_,KT.out,kU.out⟩⟩
end
open Go Go.RowKit
open Go.Value renaming pointer→O
open List renaming replicate→U,length→Z,eq_of_mem_replicate→V,cons_prefix_cons→Y,cons_append→J,mem_append→OA
open Tryz renaming prog→X
open Int renaming add_zero→OB
def I6 (B:World) (g:Nat) (A:Option Addr) (n c:Nat) (l:List UInt8) (j:aY) (L:List aM):List jq->World->Prop:= λ_ W=>dw B g A n c l j L [] 0 W
def I3 (B:World) (g:Nat) (A:Option Addr) (n c:Nat) (l:List UInt8) (j:aY) (L:List aM):List jq->jq->World->Prop:= λpre x W=>dw B g A n c l j L (cB pre) x.1 W/\I1 g j.x j.y x W
def I4 (B:World) (g:Nat) (A:Option Addr) (n c:Nat) (l:List UInt8) (j:aY) (L:List aM):List jq->World->Prop:= λpre W=>dw B g A n c l j L (cB pre) 0 W
def I5 (B:World) (g:Nat) (A:Option Addr) (n c:Nat) (l:List UInt8) (j:aY) (L:List aM):List jq->World->Prop:= λpre W=>dw B g A n c l j L (cB pre) 5 W
theorem kB.one {g:Nat}{A:Option Addr}{n c:Nat}{pt:Bool×Bool×Bool×Bool×Bool}{x y:Int}{p:aM}{L:List aM}{W:World}(h:kB g A n c pt x y (p::L) W):kB g A n c pt x y [p] W:=⟨aa.cons h.cl.head (ai _),h.ex⟩
theorem EW (k:Nat)(hk:1<=k)(G:World)(g B:Nat)(A:Option Addr)(n c:Nat)(l:List UInt8)(j:aY)(L:List aM)(hg:G.heap.size<=g)(hL:∀q∈(B,206,#[Value.pointer (some ⟨g,0,none⟩)])::L,q.1≠g):
  BA Fence.wide k X 223 #[O (some ⟨B,0,none⟩)] (λx:jq=> #[mE g x])
   (I6 G g A n c l j ((B,206,#[O (some ⟨g,0,none⟩)])::L)) (I3 G g A n c l j ((B,206,#[O (some ⟨g,0,none⟩)])::L)) (I4 G g A n c l j ((B,206,#[O (some ⟨g,0,none⟩)])::L)) (I5 G g A n c l j ((B,206,#[O (some ⟨g,0,none⟩)])::L))
   (λxs=>cB xs=ea l j) (λpre=>cB pre<+:ea l j) (kB g A n c (aC l j 0).1.1.pt j.x j.y [(B,206,#[O (some ⟨g,0,none⟩)])]):=by
 have e0:∀C N b3:Bool,(0:Nat) ∉ (if C then[1] else[])++(if N then[2,3] else[])++(if b3 then[4] else[]):=by decide
 have e1:∀C:Bool,(0:Nat) ∉ (if C then[1] else[]):=by decide
 have M:∀C N:Bool,(0:Nat) ∉ (if C then[1] else[])++(if N then[2,3] else[]):=by decide
 have e3:∀C:Bool,(0:Nat) ∉ (if C then[1] else[])++[2]:=by decide
 have av:(aC l j 0).1.1.pt=lg (aC l j 0).1.1.kd:=rfl
 refine Dj k hk g B j.x j.y (aC l j 0).1.1.pt.1 (aC l j 0).1.1.pt.2.1 (aC l j 0).1.1.pt.2.2.1 (aC l j 0).1.1.pt.2.2.2.2 ?_
  (0::(if (aC l j 0).1.1.pt.2.1 then[1] else[])) (0::((if (aC l j 0).1.1.pt.2.1 then[1] else[])++(if (aC l j 0).1.1.pt.2.2.1 then[2,3] else[]))) (0::eJ (aC l j 0).1.1) (ea l j)
  (dw G g A n c l j ((B,206,#[O (some ⟨g,0,none⟩)])::L)) (kB g A n c (aC l j 0).1.1.pt j.x j.y [(B,206,#[O (some ⟨g,0,none⟩)])]) rfl rfl rfl
  (λts u W W' h T=>h.below T) (λW W' h T=>h.below T) (λts u W h=>h.cl.head) (λW h=>h.cl.head) (λW h=>?_) (λW h=>h.c4) (λW h=>h.c14) (λW h=>h.c15) (λW h=>?_) (λW h=>?_) (λts u W h=>?_)
  (λW h=>(h.st (e1 _)).one) (λW h=>(h.st (e3 _)).one) (λts u W h hu=>h.low (by decide) hu) (λW D h=>h.five (M _ _) D) (λW D h=>h.five (e0 _ _ _) D) (λW D h=>h.set (M _ _) D hg hL) (λW h=>h.four) (λts W h=>h.again) (λW h=>?_) ?_
 ·intro K
  rw[av] at K⊢;unfold lg at K⊢
  split at K
  ·rename_i D
   rw[if_pos D];exact Jw K
  ·cases K
 ·obtain⟨s,h2,I⟩:=h.blk (ts:=[]) (by simp)
  have:=h2.cell 3;rw[<-I];exact this
 ·obtain⟨s,h2,I⟩:=h.blk (M _ _)
  have:=h2.cell 2;rw[<-I];exact this
 ·obtain⟨s,h2,I⟩:=h.blk (M _ _)
  have:=h2.cell 6;rw[<-I];exact this
 ·obtain⟨⟨s,bl,v,xs,e,hr,_⟩,_⟩:=h
  exact⟨_,rfl,hr.cell⟩
 ·obtain⟨pa,h1,h2⟩:=h.count
  exact⟨pa,h1,h2⟩
 ·unfold ea
  exact⟨_,rfl⟩
theorem ut:∀{cs:List (List UInt8)}{ns:List Int},(∀c∈cs,c≠[])->cy [] cs ns=none
 |[],_,_=>by rw[cy.eq_def]
 |_::_,[],_=>by rw[cy.eq_def]
 |c::cs,n::ns,h=>by
  rw[cy]
  have:c.isPrefixOf ([]:List UInt8)=false:=by
   have:=h c (by simp)
   cases c with
   |nil=>exact absurd rfl this
   |cons _ _=>rfl
  rw[this,if_neg (by decide)];exact ut (λd hd=>h d (List.mem_cons_of_mem _ hd))
theorem oF {cs:List (List UInt8)}{ns:List Int}{l:List UInt8}{i:Int}(j:∀c∈cs,c≠[]) (h:8*(Z l:Int)<i):(ac cs ns l i).2.1=0/\(ac cs ns l i).2.2≠0:=by
 unfold ac jZ;rw[if_neg (by omega)];have e:min 24 (8*Z l - i.toNat)=0:=by omega
 rw[e,show aI l i.toNat 0=[] from rfl,ut j];dsimp only
 split<;>exact⟨rfl,by decide⟩
theorem rm:∀c∈aD,c≠[]:=by decide+kernel
theorem JD (l:List UInt8)(s:aY)(v:Value)(t:Nat):aC l {s with v:=v} t=(({(aC l s t).1.1 with v:=v},(aC l s t).1.2),(aC l s t).2):=by
 match t with
 |0=>rfl
 |1=>
  show (if 8*(Z l:Int)<s.a+5 then _ else _)=((({(if 8*(Z l:Int)<s.a+5 then(({s with a:=s.a+5,qu:=0},[]),(5:Int)) else(({s with a:=s.a+5,qu:=((aB l s.a.toNat 5:Nat):Int)},([]:List bH)),if ((aB l s.a.toNat 5:Nat):Int)==0 then(9:Int) else 0)).1.1 with v:=v}:aY),(if 8*(Z l:Int)<s.a+5 then(({s with a:=s.a+5,qu:=0},[]),(5:Int)) else(({s with a:=s.a+5,qu:=((aB l s.a.toNat 5:Nat):Int)},([]:List bH)),if ((aB l s.a.toNat 5:Nat):Int)==0 then(9:Int) else 0)).1.2),(if 8*(Z l:Int)<s.a+5 then(({s with a:=s.a+5,qu:=0},[]),(5:Int)) else(({s with a:=s.a+5,qu:=((aB l s.a.toNat 5:Nat):Int)},([]:List bH)),if ((aB l s.a.toNat 5:Nat):Int)==0 then(9:Int) else 0)).2)
  split<;>rfl
 |2=>
  show (if (ac ao au l s.a).2.2 !=0 then _ else _)=((({(if (ac ao au l s.a).2.2 !=0 then((s,[]),(ac ao au l s.a).2.2) else(({s with a:=s.a+(ac ao au l s.a).2.1,mx:=(aW s.x (ac ao au l s.a).1).1},([]:List bH)),(aW s.x (ac ao au l s.a).1).2)).1.1 with v:=v}:aY),(if (ac ao au l s.a).2.2 !=0 then((s,[]),(ac ao au l s.a).2.2) else(({s with a:=s.a+(ac ao au l s.a).2.1,mx:=(aW s.x (ac ao au l s.a).1).1},([]:List bH)),(aW s.x (ac ao au l s.a).1).2)).1.2),(if (ac ao au l s.a).2.2 !=0 then((s,[]),(ac ao au l s.a).2.2) else(({s with a:=s.a+(ac ao au l s.a).2.1,mx:=(aW s.x (ac ao au l s.a).1).1},([]:List bH)),(aW s.x (ac ao au l s.a).1).2)).2)
  split<;>rfl
 |3=>
  show (if (ac ao au l s.a).2.2 !=0 then _ else _)=((({(if (ac ao au l s.a).2.2 !=0 then((s,[]),(ac ao au l s.a).2.2) else(({s with a:=s.a+(ac ao au l s.a).2.1,my:=(aW s.y (ac ao au l s.a).1).1},([]:List bH)),(aW s.y (ac ao au l s.a).1).2)).1.1 with v:=v}:aY),(if (ac ao au l s.a).2.2 !=0 then((s,[]),(ac ao au l s.a).2.2) else(({s with a:=s.a+(ac ao au l s.a).2.1,my:=(aW s.y (ac ao au l s.a).1).1},([]:List bH)),(aW s.y (ac ao au l s.a).1).2)).1.2),(if (ac ao au l s.a).2.2 !=0 then((s,[]),(ac ao au l s.a).2.2) else(({s with a:=s.a+(ac ao au l s.a).2.1,my:=(aW s.y (ac ao au l s.a).1).1},([]:List bH)),(aW s.y (ac ao au l s.a).1).2)).2)
  split<;>rfl
 |4=>rfl
 |_+5=>rfl
theorem Jj (l:List UInt8){j s:aY}{bl:List bH}(h:br l (ea l j) j []=((s,bl),0)):ax s 5=s:=by
 cases M:s.pt.1 with
 |false=>unfold ax;rw[M,if_neg (by simp)]
 |true=>
  have I:=h;unfold ea at I;obtain⟨k0,K⟩:=jI l I
  have N:∀k:Nat,0 ∉ eJ (aC l j 0).1.1++U k 5:= λk B=>by
   rcases OA.1 B with B|B
   ·revert B
    unfold eJ
    cases (aC l j 0).1.1.pt.2.1<;>cases (aC l j 0).1.1.pt.2.2.1<;>cases (aC l j 0).1.1.pt.2.2.2.2<;>simp
   ·have:=V B;cases this
  have G:=qr l _ K (N _);have h2:=K;rw[iA] at h2
  split at h2
  ·rename_i he
   rw[h2] at he
   cases he
  ·rename_i he
   have he:(br l (eJ (aC l j 0).1.1) (aC l j 0).1.1 []).2=0:=(by simpa using he);have h3:br l (eJ (aC l j 0).1.1) (aC l j 0).1.1 []=(((br l (eJ (aC l j 0).1.1) (aC l j 0).1.1 []).1.1,(br l (eJ (aC l j 0).1.1) (aC l j 0).1.1 []).1.2),0):=(by rw[<-he]);have D:=qr l _ h3 (λB=>N 0 (by simpa using B))
   have C:(ax (br l (eJ (aC l j 0).1.1) (aC l j 0).1.1 []).1.1 5).pa=63:=by
    unfold ax;rw[D,<-G,M,if_pos ⟨by decide,rfl⟩]
   have T:ea l j=(0::(eJ (aC l j 0).1.1++U 5 5))++[5]:=by
    unfold ea;rw[C,show cC 63=6 from by decide,J,List.append_assoc];rfl
   rw[T] at h;exact uU l h
theorem yA (l:List UInt8)(j:aY){ts:List Nat}{t:Nat}(h:ts++[t]<+:ea l j):(ts=[]/\t=0)\/(∃us,ts=0::us/\0 ∉ us/\t≠0/\t<=5):=by
 have C:∀m∈eJ (aC l j 0).1.1++U (cC (ax (br l (eJ (aC l j 0).1.1) (aC l j 0).1.1 []).1.1 5).pa) 5,m≠0/\m<=5:= λm B=>by
  rcases OA.1 B with B|B
  ·revert B
   unfold eJ
   cases (aC l j 0).1.1.pt.2.1<;>cases (aC l j 0).1.1.pt.2.2.1<;>cases (aC l j 0).1.1.pt.2.2.2.2<;>simp<;>omega
  ·have:=V B;omega
 unfold ea at h;generalize eJ (aC l j 0).1.1++U (cC (ax (br l (eJ (aC l j 0).1.1) (aC l j 0).1.1 []).1.1 5).pa) 5=R at h C
 cases ts with
 |nil=>
  rw[List.nil_append] at h;exact .inl ⟨rfl,(Y.1 h).1⟩
 |cons u us=>
  rw[J] at h;obtain⟨rfl,h2⟩:=Y.1 h;have ht:=C t (h2.subset (by simp));exact .inr ⟨us,rfl,λB=>(C 0 (h2.subset (by simp[B]))).1 rfl,ht.1,ht.2⟩
theorem EY {j W:World}{g:Nat}{A:Option Addr}{n c:Nat}{l:List UInt8}{s:aY}{xs:List dB}(h:ii j g A n c s xs W)(C:j.heap.size<=g)(B:Sl j A (l.map ag))(D:Z l=n)(hsz:n<=2 ^ 47)(I:0<=s.a)(h1:s.a<=9223372036854775807):
  Calls X 224 #[O (some ⟨g,0,none⟩)] W (iF j g A n c l s xs 0 W):=by
 by_cases K:s.a<=8*(Z l:Int)
 ·exact Gz h C B D hsz I K
 ·have e:=(oF (ns:=aN) (l:=l) (i:=s.a) rm (by omega)).1
  refine(Bl g A n c l s W h.cell (B.below h.below) D hsz (by omega) s.a (by rw[e,OB,IntKind.wrap_i64];omega)).mono ?_;rintro T N ⟨rfl,M,ht⟩;refine gT h C ht rfl ?_ rfl rfl;have G:(aC l s 0).1.1={s with a:=s.a+(ac aD aN l s.a).2.1,kd:=(ac aD aN l s.a).1,pt:=lg (ac aD aN l s.a).1}:=rfl;rw[G,e,OB] at*;exact M
theorem qp {β:Type}{G:World}{g:Nat}{A:Option Addr}{n c:Nat}{l:List UInt8}{s0:aY}{L:List aM}{B:Nat}(M:G.heap.size<=B)(f:β->List Nat)(u:Nat):OwnFrom B (λpre W=>dw G g A n c l s0 L (f pre) u W):=by
 rintro pre W W' row ⟨⟨s,bl,v,xs,I,D,K⟩,N⟩ C j;refine⟨⟨s,bl,v,xs,I,⟨?_,?_,?_,λp T=>?_⟩,K⟩,?_⟩
 ·exact js D.below C (λr e=>Nat.le_trans M (j r e).1) D.below.size
 ·exact dk D.cell C (λr e=>(j r e).2)
 ·exact lF D.row C (λr e=>(j r e).2)
 ·exact lF (D.bl p T) C (λr e=>(j r e).2)
 ·exact N.grown C (λr e=>(j r e).2)
theorem Il {β:Type}{g:Nat}{D G:Int}{B:Nat}(x:jq):OwnFrom B (λ(_:β) W=>I1 g D G x W):=by
 rintro pre W I row h C j;obtain⟨t,K,M,N⟩:=x
 match t with
 |0=>trivial
 |1=>trivial
 |2=>exact⟨dk h.1 C (λr e=>(j r e).2),dk h.2.1 C (λr e=>(j r e).2),dk h.2.2 C (λr e=>(j r e).2)⟩
 |3=>exact⟨dk h.1 C (λr e=>(j r e).2),dk h.2.1 C (λr e=>(j r e).2),dk h.2.2 C (λr e=>(j r e).2)⟩
 |4=>trivial
 |_+5=>trivial
structure tU (w0:World) (g:Nat) (A:Option Addr) (n c:Nat) (l:List UInt8) (s0:aY) (L:List aM) (ts:List Nat) (t:Nat) (er:Int) (W':World):Prop where
 below:Below w0.heap.size w0 W'
 cl:aa L W'
 st:∃s:aY,ab W' g 208 (f9 A n c s)/\s.pt=(aC l s0 0).1.1.pt/\s.x=s0.x/\s.y=s0.y
 ok:er=0->dw w0 g A n c l s0 L (ts++[t]) 0 W'
 no:er≠0->(jF l s0).2=er
theorem kf {w0 W:World}{g:Nat}{A:Option Addr}{n c:Nat}{l:List UInt8}{M:aY}{L:List aM}{ts:List Nat}{t f:Nat}{args:Array Value}(hI:dw w0 g A n c l M L ts t W)(av:ts++[t]<+:ea l M)(hL:∀q∈L,q.2.1≠93/\q.1≠g)
  (hc:∀s v bl xs,br l ts M []=((s,bl),0)->ii w0 g A n c {ax s t with v:=v} xs W->xs.map (·.1)=bl->Calls X f args W (iF w0 g A n c l {ax s t with v:=v} xs t W)):
  Calls X f args W λe W'=>∃er,e=.returned (.int .i64 er)/\(∀B,KeepsFrom B W W')/\tU w0 g A n c l M L ts t er W':=by
 obtain⟨⟨s,bl,v,xs,G,hr,h3⟩,N⟩:=hI;refine(hc s v bl xs G hr h3).mono ?_;rintro e W' ⟨D,⟨v',cE,C,K⟩,j,aJ⟩;have ev:=JD l (ax s t) v t;rw[ev] at D C K;dsimp only at D C K;have T:=uV l (t:=t) G;refine⟨_,D,aJ,C.below,λq I=>j _ _ _ (N q I) (hL q I).1 (hL q I).2,⟨_,C.cell,?_,?_,?_⟩,λhe=>?_,λhe=>?_⟩
 ·show (aC l (ax s t) t).1.1.pt=_
  rcases yA l M av with⟨rfl,rfl⟩|⟨us,rfl,bM,ht,_⟩
  ·simp only[br,Prod.mk.injEq,and_true] at G
   obtain⟨rfl,rfl⟩:=G;rw[jU M (by decide)]
  ·rw[(ki l (ax s t) t).2.2.1 ht,(bi s t).2.2.2.1,oA l G bM]
 ·show (aC l (ax s t) t).1.1.x=_
  rw[(ki l (ax s t) t).1,(bi s t).2.1,(qs l _ G).1]
 ·show (aC l (ax s t) t).1.1.y=_
  rw[(ki l (ax s t) t).2.1,(bi s t).2.2.1,(qs l _ G).2]
 ·rw[he] at T
  refine⟨⟨_,_,v',cE,T,?_,by rw[K,h3]⟩,λq I=>j _ _ _ (N q I) (hL q I).1 (hL q I).2⟩;rw[jU _ (by decide)];exact C
 ·rw[uN]
  exact Gw l G av he
end Go.Proofs.YthhijgcfbjcgiaaGreatDoor
