/- Stg, StgW, StgI, MGetL -/
import Derived.Test.YthhijgcfbjcgiaaGreatDoorQ35
import Derived.Sort.CutIn
namespace Go.Proofs.YthhijgcfbjcgiaaGreatDoor
section
open Go Go.RowKit
attribute [local go_sem] Oper.semAt_some
open Go.Lib renaming hid→O
open List renaming setIfInBounds_toArray→U,set_cons_succ→Z,set_cons_zero→V,replicate→J,drop_succ_cons→OC,drop_zero→OE
open Go.Value renaming pointer→Y,int→OB,bool→OD
open Go.Proofs.YthhijgcfbjcgiaaGreatDoor.cb renaming take→X,step→OH
open Go.IntKind renaming i64→OA
open Go.World renaming size_alloc→OF
open Tryz renaming prog→OG
abbrev jo:Type:=Nat×Nat×Nat×Nat
def mu (g:Nat):jo->Value
 |(0,_)=> .func (.func 224) #[Y (some ⟨g,0,none⟩)] #[]
 |(1,_)=> .func (.func 225) #[Y (some ⟨g,0,none⟩)] #[]
 |(2,b0,b1,b2)=> .func (.func 255) #[] #[Y (some ⟨b0,0,none⟩),Y (some ⟨b1,0,none⟩),Y (some ⟨b2,0,none⟩)]
 |(3,b0,b1,b2)=> .func (.func 255) #[] #[Y (some ⟨b0,0,none⟩),Y (some ⟨b1,0,none⟩),Y (some ⟨b2,0,none⟩)]
 |(4,_)=> .func (.func 227) #[Y (some ⟨g,0,none⟩)] #[]
 |(_,_)=> .func (.func 228) #[Y (some ⟨g,0,none⟩)] #[]
def cE (pre:List jo):List Nat:=pre.map (·.1)
theorem bY (pre:List jo)(x:jo):cE (pre++[x])=cE pre++[x.1]:=by simp[cE]
structure dG (w0:World) (g:Nat) (A:Option Addr) (n c:Nat) (l:List UInt8) (s0:aZ) (L:List aL) (ts:List Nat) (u:Nat) (W:World):Prop where
 ex:∃s bl v xs,bz l ts s0 []=((s,bl),0)/\ip w0 g A n c {ax s u with v:=v} xs W/\xs.map (·.1)=bl
 cl:aa L W
structure kA (g:Nat) (A:Option Addr) (n c:Nat) (pt:Bool×Bool×Bool×Bool×Bool) (x y:Int) (L:List aL) (W:World):Prop where
 cl:aa L W
 ex:∃s:aZ,ab W g 208 (gj A n c s)/\s.pt=pt/\s.x=x/\s.y=y
def Jf (g:Nat) (j B:Int):jo->World->Prop
 |(2,b0,b1,b2),W=>ab W b0 206 #[Y (some ⟨g,0,none⟩)]/\ab W b1 3 #[OB OA j]/\ab W b2 250 #[Y (some ⟨g,10,none⟩)]
 |(3,b0,b1,b2),W=>ab W b0 206 #[Y (some ⟨g,0,none⟩)]/\ab W b1 3 #[OB OA B]/\ab W b2 250 #[Y (some ⟨g,11,none⟩)]
 |_,_=>True
section
variable {w0 W W':World} {g:Nat} {A:Option Addr} {n c:Nat} {l:List UInt8} {s0:aZ} {L:List aL} {ts:List Nat} {u:Nat} {pt:Bool×Bool×Bool×Bool×Bool} {x y:Int}
theorem dG.below (h:dG w0 g A n c l s0 L ts u W)(j:Below W.heap.size W W'):dG w0 g A n c l s0 L ts u W':=by
 obtain⟨⟨s,bl,v,xs,B,h2,C⟩,D⟩:=h;exact⟨⟨s,bl,v,xs,B,h2.mono j,C⟩,D.below j⟩
theorem kA.below (h:kA g A n c pt x y L W)(j:Below W.heap.size W W'):kA g A n c pt x y L W':=by
 obtain⟨B,s,h2,C⟩:=h;exact⟨B.below j,s,h2.below j h2.lt,C⟩
theorem kA.c4 (h:kA g A n c pt x y L W):W.cell? ⟨g,4,none⟩=some (OD pt.2.2.1):=by
 obtain⟨_,s,h2,rfl,_⟩:=h;exact h2.cell 4
theorem kA.c14 (h:kA g A n c pt x y L W):W.cell? ⟨g,14,none⟩=some (OB OA x):=by
 obtain⟨_,s,h2,_,rfl,_⟩:=h;exact h2.cell 14
theorem kA.c15 (h:kA g A n c pt x y L W):W.cell? ⟨g,15,none⟩=some (OB OA y):=by
 obtain⟨_,s,h2,_,_,rfl⟩:=h;exact h2.cell 15
theorem dG.st (h:dG w0 g A n c l s0 L (0::ts) u W)(B:0 ∉ ts):kA g A n c (aF l s0 0).1.1.pt s0.x s0.y L W:=by
 obtain⟨⟨s,bl,v,xs,e,C,_⟩,j⟩:=h;have b:=qB l _ e;refine⟨j,_,C.cell,?_,?_,?_⟩
 ·exact(bp s u).2.2.2.1.trans (oF l e B)
 ·exact(bp s u).2.1.trans b.1
 ·exact(bp s u).2.2.1.trans b.2
theorem dG.blk (h:dG w0 g A n c l s0 L (0::ts) u W)(B:0 ∉ ts):∃s,ab W g 208 (gj A n c s)/\s.pt=(aF l s0 0).1.1.pt:=by
 obtain⟨_,s,h2,j,_⟩:=h.st B;exact⟨s,h2,j⟩
theorem dG.low (h:dG w0 g A n c l s0 L ts u W)(I:u<4){C:Nat}(j:C<4):dG w0 g A n c l s0 L ts C W:=by
 obtain⟨⟨s,bl,v,xs,e,B,D⟩,G⟩:=h;refine⟨⟨s,bl,v,xs,e,?_,D⟩,G⟩;rw[jO s I] at B;rw[jO s j];exact B
theorem dG.four (h:dG w0 g A n c l s0 L ts 5 W):dG w0 g A n c l s0 L ts 4 W:=by
 obtain⟨⟨s,bl,v,xs,e,C,j⟩,B⟩:=h;refine⟨⟨s,bl,v,xs,e,?_,j⟩,B⟩;rw[Jl s];exact C
theorem dG.five (h:dG w0 g A n c l s0 L (0::ts) 0 W)(I:0 ∉ ts)(D:(aF l s0 0).1.1.pt.1=false):dG w0 g A n c l s0 L (0::ts) 5 W:=by
 obtain⟨⟨s,bl,v,xs,e,j,C⟩,G⟩:=h;refine⟨⟨s,bl,v,xs,e,?_,C⟩,G⟩;have:=oF l e I;have B:ax s 5=s:=by unfold ax;rw[this,D,if_neg (by simp)]
 rw[jO s (by decide)] at j;rw[B];exact j
theorem dG.set (h:dG w0 g A n c l s0 L (0::ts) 0 W)(M:0 ∉ ts)(D:(aF l s0 0).1.1.pt.1=true)(K:w0.heap.size<=g)(G:∀q∈L,q.1≠g):dG w0 g A n c l s0 L (0::ts) 5 (W.setCell ⟨g,12,none⟩ (OB OA 63)):=by
 obtain⟨⟨s,bl,v,xs,e,j,C⟩,I⟩:=h;refine⟨⟨s,bl,v,xs,e,?_,C⟩,I.far G _⟩;have:=oF l e M;have B:ax s 5={s with pa:=63}:=by unfold ax;rw[this,D,if_pos ⟨by decide,rfl⟩]
 rw[jO s (by decide)] at j;rw[B];exact j.turn K (cX (dP.refl _ W) 12 (OB OA 63)) (j.cell.set_ 12 (OB OA 63)) rfl
theorem dG.again (h:dG w0 g A n c l s0 L (ts++[5]) 0 W):dG w0 g A n c l s0 L (ts++[5]) 5 W:=by
 obtain⟨⟨s,bl,v,xs,e,j,B⟩,C⟩:=h;refine⟨⟨s,bl,v,xs,e,?_,B⟩,C⟩;rw[jO s (by decide)] at j;rw[vC l e];exact j
theorem dG.count (h:dG w0 g A n c l s0 L (0::eL (aF l s0 0).1.1) 5 W):∃pa,W.cell? ⟨g,12,none⟩=some (OB OA pa)/\ej l s0=0::(eL (aF l s0 0).1.1++J (bO pa) 5):=by
 obtain⟨⟨s,bl,v,xs,e,j,B⟩,C⟩:=h;exact⟨_,j.cell.cell 12,I3 l e⟩
end
theorem ym (g k:Nat)(j:Int)(w:World):Calls OG 226 #[Y (some ⟨g,0,none⟩),Y (some ⟨g,k,none⟩),OB OA j] w λe w'=>∃B C D,e=.returned (.func (.func 255) #[] #[Y (some ⟨B,0,none⟩),Y (some ⟨C,0,none⟩),Y (some ⟨D,0,none⟩)])/\
  Below w.heap.size w w'/\ab w' B 206 #[Y (some ⟨g,0,none⟩)]/\ab w' C 3 #[OB OA j]/\ab w' D 250 #[Y (some ⟨g,k,none⟩)]:=by
 refine(IG g k j w).mono ?_;rintro e w' ⟨rfl,rfl⟩;refine⟨_,_,_,rfl,?_,?_,?_,?_⟩
 ·exact(((Below.refl _ w).alloc (Nat.le_refl _) _).alloc (by simp) _).alloc (by simp;omega) _
 ·(repeat (first|(refine aH (ab.new _ _ _) ?_;simp;done)|refine ab.alloc ?_ _))
 ·(repeat (first|(refine aH (ab.new _ _ _) ?_;simp[OF];done)|refine ab.alloc ?_ _))
 ·(repeat (first|(refine aH (ab.new _ _ _) ?_;simp[OF];done)|refine ab.alloc ?_ _))
theorem J9 (g j B C:Nat):mu g (2,j,B,C)= .func (.func 255) #[] #[Y (some ⟨j,0,none⟩),Y (some ⟨B,0,none⟩),Y (some ⟨C,0,none⟩)]:=rfl
theorem Ka (g j B C:Nat):mu g (3,j,B,C)= .func (.func 255) #[] #[Y (some ⟨j,0,none⟩),Y (some ⟨B,0,none⟩),Y (some ⟨C,0,none⟩)]:=rfl
set_option maxRecDepth 100000 in
set_option maxHeartbeats 8000000 in
theorem Dy (k:Nat)(hk:1<=k)(g bc:Nat)(x0 y0:Int)(i q v c:Bool)(Lr:c=true->i=false)(T1 T2 T3 TL:List Nat)(R:List Nat->Nat->World->Prop)(T:World->Prop)
  (dt:T1=0::(if q then[1] else[])) (Lm:T2=T1++(if v then[2,3] else[])) (Ln:T3=T2++(if c then[4] else[]))
  (Ll:∀ts u W W',R ts u W->Below W.heap.size W W'->R ts u W') (Lo:∀W W',T W->Below W.heap.size W W'->T W')
  (gJ:∀ts u W,R ts u W->ab W bc 206 #[Y (some ⟨g,0,none⟩)]) (Ld:∀W,T W->ab W bc 206 #[Y (some ⟨g,0,none⟩)])
  (Lf:∀W,R [0] 0 W->W.cell? ⟨g,3,none⟩=some (OD q)) (Lg:∀W,T W->W.cell? ⟨g,4,none⟩=some (OD v)) (K8:∀W,T W->W.cell? ⟨g,14,none⟩=some (OB OA x0)) (K9:∀W,T W->W.cell? ⟨g,15,none⟩=some (OB OA y0))
  (Le:∀W,R T2 0 W->W.cell? ⟨g,2,none⟩=some (OD i)) (Lh:∀W,R T2 5 W->W.cell? ⟨g,6,none⟩=some (OD c)) (Li:∀ts u W,R ts u W->∃C,C.size=16/\ab W g 208 C)
  (Kr:∀W,R T1 0 W->T W) (KC:∀W,R (T1++[2]) 0 W->T W) (KF:∀ts u W,R ts 0 W->u<4->R ts u W) (h5:∀W,i=false->R T2 0 W->R T2 5 W) (Lc:∀W,i=false->R T3 0 W->R T3 5 W) (KH:∀W,i=true->R T2 0 W->R T2 5 (W.setCell ⟨g,12,none⟩ (OB OA 63)))
  (h4:∀W,R T2 5 W->R T2 4 W) (Lp:∀ts W,R (ts++[5]) 0 W->R (ts++[5]) 5 W) (KE:∀W,R T3 5 W->∃pa,W.cell? ⟨g,12,none⟩=some (OB OA pa)/\TL=T3++J (bO pa) 5) (KG:T3<+:TL):
  BR Fence.wide k OG 223 #[Y (some ⟨bc,0,none⟩)] (λx:jo=> #[mu g x])
   (λ_ W=>R [] 0 W) (λpre x W=>R (cE pre) x.1 W/\Jf g x0 y0 x W) (λpre W=>R (cE pre) 0 W) (λpre W=>R (cE pre) 5 W) (λxs=>cE xs=TL) (λpre=>cE pre<+:TL) T:=by
 intro lp K Jx W hK Lk hY Lb Lt;refine callsIn_of_wp Tryz.func223 rfl trivial ?_ rfl;simp only[Tryz.ntmps223,List.size_toArray,List.length_cons,List.length_nil,Nat.reduceAdd,Nat.reduceSub,Array.replicate_succ,Array.replicate_zero,List.push_toArray,List.append_toArray,List.nil_append,List.cons_append];have HY:=O hY;have HK:=O hK;have LO:=O Lk;have LP:=O Lt;have H0:=O Lb;have K0:=O Ll;have L6:=O Lo;have fW:=O gJ;have KI:=O Ld;have LG:=O Lf;have LH:=O Lg;have KR:=O K8;have KT:=O K9;have LF:=O Le;have LI:=O Lh;have LJ:=O Li;have L0:=O Kr;have L4:=O KC;have Iq:=O KF;have H5:=O h5;have LE:=O Lc;have La:=O KH;have H4:=O h4;have LY:=O Lp;have L9:=O KE;have aB:=O KG;have K1:=O dt;have aC:=O Lm;have cz:=O Ln;have LZ:=O Lr;clear hY hK Lk Lt Lb Ll Lo gJ Ld Lf Lg K8 K9 Le Lh Li Kr KC KF h5 Lc KH h4 Lp KE KG dt Lm Ln Lr
 gi_upto_region 0 with fail
 gi_cut [21] from 2 (λLB wx=>(LB=OD true/\Hid (∃pre,cE pre<+:TL/\Jx pre wx))\/(LB=OD false/\∃pre,Hid (cE pre=T1)/\Hid (R T1 0 wx)/\Hid (K wx)))
 case first=>
  have z0:=(fW.out _ _ _ H0.out).cell 0;(try dsimp only at z0);obtain⟨fn,tmps,N,body,D,hR⟩:=HY.out [] (0,0,0,0) W ⟨H0.out,trivial⟩ LP.out ((show [0]<+:T3 by rw[cz.out,aC.out,K1.out];exact⟨_,by simp;rfl⟩).trans aB.out);have B:=O hR;dsimp only[mu] at D;clear hR;gi_wp2_with fail
  refine B.out.mono ?_;rintro e W1 (⟨rfl,hI,G⟩|⟨rfl,hJ⟩)
  ·have z1:=(fW.out _ _ _ hI).cell 0
   have z2:=LG.out _ hI;have HI:=O hI;have dD:=O G;(try dsimp only at z1 z2);clear hI G D B z0;have M4:cE [((0,0,0,0):jo)]=[0]:=rfl
   cases q with
   |false=>
    have dt:T1=[0]:=K1.out;gi_wp2_with (refine wpListIn_skip (by rfl) (by rfl) ?_)
    gi_meet
    case rel=>exact .inr ⟨rfl,[(0,0,0,0)],O (by rw[dt];rfl),O (by rw[dt];exact HI.out),dD⟩
   |true=>
    have dt:T1=[0,1]:=K1.out;obtain⟨fn,tmps,N,body,D,hR⟩:=HY.out [(0,0,0,0)] (1,0,0,0) W1 ⟨Iq.out _ _ _ HI.out (by decide),trivial⟩ dD.out ((show [0,1]<+:T3 by rw[cz.out,aC.out,dt];exact⟨_,by simp;rfl⟩).trans aB.out);have B:=O hR;dsimp only[mu] at D;clear hR M4;have M:=O dt;clear dt;gi_wp2_with fail
    refine B.out.mono ?_;rintro e W2 (⟨rfl,hI,G⟩|⟨rfl,hJ⟩)
    ·have LK:=O hI;have KK:=O G
     clear hI G D B z1 z2;gi_wp2_with fail
     gi_meet
     case rel=>exact .inr ⟨rfl,[(0,0,0,0),(1,0,0,0)],O (by rw[M.out];rfl),O (by rw[M.out];exact LK.out),KK⟩
    ·have KJ:=O hJ
     clear hJ D B z1 z2;gi_wp2_with fail
     gi_meet
     case rel=>exact .inl ⟨rfl,O ⟨[(0,0,0,0),(1,0,0,0)],(show [0,1]<+:T3 by rw[cz.out,aC.out,M.out];exact⟨_,by simp;rfl⟩).trans aB.out,KJ.out⟩⟩
  ·have KJ:=O hJ
   clear hJ D B z0;gi_wp2_with (refine wpListIn_skip (by rfl) (by rfl) ?_)
   gi_meet
   case rel=>exact .inl ⟨rfl,O ⟨[(0,0,0,0)],(show [0]<+:T3 by rw[cz.out,aC.out,K1.out];exact⟨_,by simp;rfl⟩).trans aB.out,KJ.out⟩⟩
 rcases hcut with⟨rfl,HS⟩|⟨rfl,pre,HT,dE,dD⟩
 ·gi_wp2_with fail
  refine bodyPost_ret (results_none rfl _ _ _) rfl ?_;exact⟨⟨_,rfl⟩,.inr HS.out⟩
 gi_upto_region 1 with fail
 gi_cut [56] from 2 (λLC wx=>(LC=OD true/\Hid (∃pre,cE pre<+:TL/\Jx pre wx))\/(LC=OD false/\∃pre,Hid (cE pre=T2)/\Hid (R T2 0 wx)/\Hid (K wx)))
 case first=>
  have gJ:Below wc.heap.size wc wc.drew:=(Below.refl _ wc).drew;have KM:=K0.out _ _ _ _ dE.out gJ;have KZ:=O KM;have Io:=O (L0.out _ KM);have K5:=O (HK.out.below dD.out gJ);have M:=O (show cE pre=T1 from HT.out);clear gJ KM;refine ln (λw'=>T w') 31 (X 0 (X 1 (X 2 (X 3 (X 4 (X 5 (X 6 (X 7 (X 8 (X 9 (X 10 (X 11 (X 12 (X 13 (X 14 (X 15 (OH 16 (OH 17 (X 18 (X 19 (X 20 (X 21 (X 22 (X 23 (X 24 (X 25 (X 26 (X 27 (X 28 (X 29 (OH 30 .done))))))))))))))))))))))))))))))) rfl (by kernel_rfl) (by kernel_rfl) (λ_ _ d _ _ h=>by cases d<;>exact h) (by simp only[cb.out,Array.getD_eq_getD_getElem?,List.getElem?_toArray,List.getElem?_cons_zero,List.getElem?_cons_succ,Option.getD_some];rfl) (by simp only[List.map_cons,List.map_nil];rfl) (Io.out) (λPE hU=>?_)
  iterate 6
   refine fS (v:=?_) rfl (by rfl) ?_ (λ_=>rfl) ?_
   rotate_left
   ·intro _ I;(try dsimp only at I);have z0:=(KI.out _ I).cell 0;have z1:=LH.out _ I;go_simp;(try with_reducible rfl)
   simp only[U,V,Z]
  cases v with
  |false=>
   iterate 10
    refine lH rfl (by rfl) (λ_=>rfl) ?_
    simp only[U,V,Z]
   refine jH (by rfl) rfl Io.out ?_;simp only[U,V,Z];refine jH (by rfl) rfl Io.out ?_;simp only[U,V,Z]
   iterate 12
    refine lH rfl (by rfl) (λ_=>rfl) ?_
    simp only[U,V,Z]
   refine jH (by rfl) rfl Io.out ?_;simp only[U,V,Z];refine hU _ _ ?_;clear hU PE;simp only[OC,OE];gi_wp2_with (refine wpListIn_skip (by rfl) (by rfl) ?_)
   gi_meet
   case rel=>exact .inr ⟨rfl,pre,O (by rw[aC.out,M.out];simp),O (by rw[aC.out];simpa using KZ.out),K5⟩
  |true=>
   iterate 10
    refine fS (v:=?_) rfl (by rfl) ?_ (λ_=>rfl) ?_
    rotate_left
    ·intro _ I;(try dsimp only at I);have z0:=(KI.out _ I).cell 0;have z2:=KR.out _ I;go_simp;(try with_reducible rfl)
    simp only[U,V,Z]
   have C:=O (ym g 10 x0 wc.drew);refine lG (f:=226) rfl (by rfl) (by first|(go_simp;done)|(go_simp;rfl)) C.out ?_;rintro e w2 ⟨b0,b1,b2,rfl,dY,Lu,Lv,Lw⟩;have LU:=O (K0.out _ _ _ _ KZ.out dY);have LW:=O (L6.out _ _ Io.out dY);have KK:=O (HK.out.below K5.out dY);refine⟨_,rfl,T,λ_ h=>h,LW.out,?_⟩;simp only[U,V,Z];have KX:=O (show T1++[2]<+:TL from(show T1++[2]<+:T3 by rw[cz.out,aC.out];exact⟨_,by simp;rfl⟩).trans aB.out);obtain⟨fn,tmps,N,body,D,hR⟩:=HY.out pre (2,b0,b1,b2) w2 ⟨Iq.out _ 2 _ (by rw[M.out];exact LU.out) (by decide),Lu,Lv,Lw⟩ KK.out (by show cE _<+:TL;rw[bY,M.out];exact KX.out);have B:=O hR;simp only[J9] at D;clear hR dY Lu Lv Lw;refine Ae rfl (by rfl) (by first|(go_simp;done)|(go_simp;rfl)) B.out ?_;rintro e W3 (⟨rfl,hI,G⟩|⟨rfl,hJ⟩)
   ·rw[bY,M.out] at hI
    have LL:=O hI;have LQ:=O G;have Ip:=O (L4.out _ hI);clear hI G D B;refine⟨_,rfl,T,λ_ h=>h,Ip.out,?_⟩;simp only[U,V,Z]
    iterate 2
     refine fS (v:=?_) rfl (by rfl) ?_ (λ_=>rfl) ?_
     rotate_left
     ·intro _ I;(try dsimp only at I);go_simp;(try with_reducible rfl)
     simp only[U,V,Z]
    iterate 10
     refine fS (v:=?_) rfl (by rfl) ?_ (λ_=>rfl) ?_
     rotate_left
     ·intro _ I;(try dsimp only at I);have z0:=(KI.out _ I).cell 0;have z2:=KT.out _ I;go_simp;(try with_reducible rfl)
     simp only[U,V,Z]
    have C4:=O (ym g 11 y0 W3);refine lG (f:=226) rfl (by rfl) (by first|(go_simp;done)|(go_simp;rfl)) C4.out ?_;rintro e w4 ⟨c0,c1,c2,rfl,K3,Lx,Ly,Lz⟩;have LV:=O (K0.out _ _ _ _ LL.out K3);have LX:=O (L6.out _ _ Ip.out K3);have LR:=O (HK.out.below LQ.out K3);refine⟨_,rfl,T,λ_ h=>h,LX.out,?_⟩;simp only[U,V,Z];have rX:=O (show (T1++[2])++[3]<+:TL from(show (T1++[2])++[3]<+:T3 by rw[cz.out,aC.out];exact⟨_,by simp;rfl⟩).trans aB.out);obtain⟨fn,tmps,N,body,D,hR⟩:=HY.out (pre++[(2,b0,b1,b2)]) (3,c0,c1,c2) w4 ⟨Iq.out _ 3 _ (by rw[bY,M.out];exact LV.out) (by decide),Lx,Ly,Lz⟩ LR.out (by show cE _<+:TL;rw[bY,bY,M.out];exact rX.out);have B:=O hR;simp only[Ka] at D;clear hR K3 Lx Ly Lz;refine hU _ _ ?_;clear hU PE;simp only[OC,OE];gi_wp2_with fail
    refine B.out.mono ?_;rintro e W5 (⟨rfl,hI,G⟩|⟨rfl,hJ⟩)
    ·simp only[bY,M.out] at hI
     have ja:=O hI;have kz:=O G;clear hI G D B;gi_wp2_with fail
     gi_meet
     case rel=>exact .inr ⟨rfl,pre++[(2,b0,b1,b2)]++[(3,c0,c1,c2)],O (by rw[bY,bY,aC.out,M.out];simp),O (by rw[aC.out];simpa using ja.out),kz⟩
    ·have jT:=O hJ
     clear hJ D B;gi_wp2_with fail
     gi_meet
     case rel=>exact .inl ⟨rfl,O ⟨pre++[(2,b0,b1,b2)]++[(3,c0,c1,c2)],by show cE _<+:TL;rw[bY,bY,M.out];exact rX.out,jT.out⟩⟩
   ·have LM:=O hJ
    have Ip:=O (LO.out _ _ hJ);clear hJ D B;refine⟨_,rfl,T,λ_ h=>h,Ip.out,?_⟩;simp only[U,V,Z]
    iterate 2
     refine fS (v:=?_) rfl (by rfl) ?_ (λ_=>rfl) ?_
     rotate_left
     ·intro _ I;(try dsimp only at I);go_simp;(try with_reducible rfl)
     simp only[U,V,Z]
    iterate 10
     refine lH rfl (by rfl) (λ_=>rfl) ?_
     simp only[U,V,Z]
    refine jH (by rfl) rfl Ip.out ?_;simp only[U,V,Z];refine hU _ _ ?_;clear hU PE;simp only[OC,OE];gi_wp2_with (refine wpListIn_skip (by rfl) (by rfl) ?_)
    gi_meet
    case rel=>exact .inl ⟨rfl,O ⟨pre++[(2,b0,b1,b2)],by show cE _<+:TL;rw[bY,M.out];exact KX.out,LM.out⟩⟩
 rcases hcut with⟨rfl,HS⟩|⟨rfl,pre,HT,dE,dD⟩
 ·gi_wp2_with fail
  refine bodyPost_ret (results_none rfl _ _ _) rfl ?_;exact⟨⟨_,rfl⟩,.inr HS.out⟩
 have z0:=(fW.out _ _ _ dE.out).cell 0;have z1:=LF.out _ dE.out;obtain⟨CC,M0,K4⟩:=LJ.out _ _ _ dE.out;have z2:wc.cell? ⟨g,12,none⟩=some (CC[12]'(by omega)):=by rw[K4.cell 12];simp[M0]
 have z3:=K4.frozen 12;have L8:=O K4;clear K4;(try dsimp only at z0 z1 z2 z3)
 gi_upto_if 61 with fail
 gi_cut [] from 2 (λwx=>∃pre,Hid (cE pre=T2)/\Hid (R T2 5 wx)/\Hid (K wx))
 case first=>
  cases i with
  |false=>
   gi_wp2_with fail
   gi_meet
   case rel=>exact⟨pre,HT,O (H5.out _ (by trivial) dE.out),dD⟩
  |true=>
   gi_wp2_with fail
   gi_meet
   case rel=>exact⟨pre,HT,O (La.out _ (by trivial) dE.out),O (HK.out.set (p:=⟨g,12,none⟩) dD.out L8.out)⟩
 clear z0 z1 z2 z3 L8;obtain⟨eE,gy,J2,KV⟩:=hcut;have z0:=(fW.out _ _ _ J2.out).cell 0;have z1:=LI.out _ J2.out;(try dsimp only at z0 z1)
 gi_upto_region 4 with fail
 gi_cut [77] from 2 (λLD wx=>(LD=OD true/\Hid (∃pre,cE pre<+:TL/\Jx pre wx))\/(LD=OD false/\∃pre,Hid (cE pre=T3)/\Hid (R T3 5 wx)/\Hid (K wx)))
 case first=>
  cases c with
  |false=>
   gi_wp2_with (refine wpListIn_skip (by rfl) (by rfl) ?_)
   gi_meet
   case rel=>exact .inr ⟨rfl,eE,O (by rw[gy.out,cz.out];simp),O (by rw[cz.out];simpa using J2.out),KV⟩
  |true=>
   have K2:Hid (T3=T2++[4]):=O (by rw[cz.out];simp);obtain⟨fn,tmps,N,body,D,hR⟩:=HY.out eE (4,0,0,0) _ ⟨by rw[gy.out];exact H4.out _ J2.out,trivial⟩ KV.out (by show cE _<+:TL;rw[bY,gy.out];have h:=aB.out;rw[K2.out] at h;exact h);have B:=O hR;dsimp only[mu] at D;clear hR;gi_wp2_with fail
   refine B.out.mono ?_;rintro e W5 (⟨rfl,hI,G⟩|⟨rfl,hJ⟩)
   ·rw[bY,gy.out] at hI
    have ja:=O hI;have kz:=O G;clear hI G D B z0 z1;gi_wp2_with fail
    gi_meet
    case rel=>exact .inr ⟨rfl,eE++[(4,0,0,0)],O (by rw[bY,gy.out,K2.out]),O (LE.out _ (LZ.out (by trivial)) (by rw[K2.out];exact ja.out)),kz⟩
   ·have jT:=O hJ
    clear hJ D B z0 z1;gi_wp2_with fail
    gi_meet
    case rel=>exact .inl ⟨rfl,O ⟨eE++[(4,0,0,0)],by show cE _<+:TL;rw[bY,gy.out];have h:=aB.out;rw[K2.out] at h;exact h,jT.out⟩⟩
 clear z0 z1;rcases hcut with⟨rfl,HS⟩|⟨rfl,LA,K6,KL,LT⟩
 ·gi_wp2_with fail
  refine bodyPost_ret (results_none rfl _ _ _) rfl ?_;exact⟨⟨_,rfl⟩,.inr HS.out⟩
 have z0:=(fW.out _ _ _ KL.out).cell 0;obtain⟨pa,z1,KO⟩:=L9.out _ KL.out;obtain⟨cn,KN⟩:∃cn,bO pa=cn:=⟨_,rfl⟩;have Lq:cn<=6:=by rw[<-KN];unfold bO;split<;>omega
 have CP:=O (λW=>oW pa W);rw[KN] at KO CP;have L5:=O KO;have KU:=O Lq;clear KO KN Lq;(try dsimp only at z0 z1);gi_wp2_with (refine⟨trivial,?_⟩;gi_at_call 127;refine(callsIn_wide.2 (CP.out _)).mono ?_;rintro e w2 ⟨rfl,dY⟩;have KQ:=O dY;clear dY z0 z1)
 gi_loopg [84] cn (λgk i=> λwr=>∃(j:Nat),j+gk=cn/\i=OB OA (j:Int)/\∃pre,Hid (cE pre=T3++J j 5)/\Hid (R (cE pre) 5 wr)/\Hid (K wr))
 case atStart=>
  exact⟨0,by omega,rfl,LA,O (by rw[K6.out];simp),O (by rw[K6.out];exact K0.out _ _ _ _ KL.out KQ.out),O (HK.out.below LT.out KQ.out)⟩
 case round=>
  obtain⟨j,hj,rfl,bE,L7,wj,KW⟩:=hrel;have z0:=(fW.out _ _ _ wj.out).cell 0;(try dsimp only at z0);have HJ:=O hj
  cases gk with
  |zero=>
   have M5:¬((j:Int)<(cn:Int)):=(by omega);have Ls:j=cn:=(by omega);have LN:=O Ls;clear hj Ls;gi_wp2_with fail
   refine bodyPost_end (results_none rfl _ _ _) rfl ?_;exact⟨⟨_,rfl⟩,.inl ⟨bE,by rw[L7.out,L5.out,LN.out],wj.out,KW.out⟩⟩
  |succ gk=>
   have M5:((j:Int)<(cn:Int)):=(by omega);have M6:IntKind.i64.wrap ((j:Int)+1)=(j:Int)+1:=(by have:=KU.out;rw[IntKind.wrap_i64];omega);have rX:Hid (cE (bE++[((5,0,0,0):jo)])=T3++J (j+1) 5):=O (by rw[bY,L7.out,List.append_assoc,List.replicate_succ'])
   have KY:Hid (cE (bE++[((5,0,0,0):jo)])<+:TL):=O (by
    rw[rX.out,L5.out];refine(List.prefix_append_right_inj _).2 ?_;refine⟨J (cn - (j+1)) 5,?_⟩;rw[List.replicate_append_replicate];congr 1;omega)
   obtain⟨fn,tmps,N,body,D,hR⟩:=HY.out bE (5,0,0,0) _ ⟨wj.out,trivial⟩ KW.out KY.out;have B:=O hR;dsimp only[mu] at D;clear hR hj;gi_wp2_with fail
   refine B.out.mono ?_;rintro e W5 (⟨rfl,hI,G⟩|⟨rfl,hJ⟩)
   ·have Lj:R (cE bE++[5]) 0 W5:=by rw[bY] at hI;exact hI
    have ja:=O (LY.out _ _ Lj);have kz:=O G;clear hI Lj G D B z0;gi_wp2_with fail
    gi_roundg gk
    case measure=>omega
    case rel=>exact⟨j+1,by have:=HJ.out;omega,rfl,bE++[(5,0,0,0)],rX,O (by rw[bY];exact ja.out),kz⟩
   ·have jT:=O hJ
    clear hJ D B z0;gi_wp2_with fail
    refine bodyPost_ret (results_none rfl _ _ _) rfl ?_;exact⟨⟨_,rfl⟩,.inr ⟨_,KY.out,jT.out⟩⟩
end
open Go Go.RowKit
open Go.Value renaming pointer→O
open List renaming replicate→U,length→Z,eq_of_mem_replicate→V,cons_prefix_cons→Y,cons_append→J,mem_append→OA
open Tryz renaming prog→X
open Int renaming add_zero→OB
def Jj (B:World) (g:Nat) (A:Option Addr) (n c:Nat) (l:List UInt8) (j:aZ) (L:List aL):List jo->World->Prop:= λ_ W=>dG B g A n c l j L [] 0 W
def Jg (B:World) (g:Nat) (A:Option Addr) (n c:Nat) (l:List UInt8) (j:aZ) (L:List aL):List jo->jo->World->Prop:= λpre x W=>dG B g A n c l j L (cE pre) x.1 W/\Jf g j.x j.y x W
def Jh (B:World) (g:Nat) (A:Option Addr) (n c:Nat) (l:List UInt8) (j:aZ) (L:List aL):List jo->World->Prop:= λpre W=>dG B g A n c l j L (cE pre) 0 W
def Ji (B:World) (g:Nat) (A:Option Addr) (n c:Nat) (l:List UInt8) (j:aZ) (L:List aL):List jo->World->Prop:= λpre W=>dG B g A n c l j L (cE pre) 5 W
theorem kA.one {g:Nat}{A:Option Addr}{n c:Nat}{pt:Bool×Bool×Bool×Bool×Bool}{x y:Int}{p:aL}{L:List aL}{W:World}(h:kA g A n c pt x y (p::L) W):kA g A n c pt x y [p] W:=⟨aa.cons h.cl.head (ag _),h.ex⟩
theorem Fe (k:Nat)(hk:1<=k)(G:World)(g B:Nat)(A:Option Addr)(n c:Nat)(l:List UInt8)(j:aZ)(L:List aL)(hg:G.heap.size<=g)(hL:∀q∈(B,206,#[Value.pointer (some ⟨g,0,none⟩)])::L,q.1≠g):
  BR Fence.wide k X 223 #[O (some ⟨B,0,none⟩)] (λx:jo=> #[mu g x])
   (Jj G g A n c l j ((B,206,#[O (some ⟨g,0,none⟩)])::L)) (Jg G g A n c l j ((B,206,#[O (some ⟨g,0,none⟩)])::L)) (Jh G g A n c l j ((B,206,#[O (some ⟨g,0,none⟩)])::L)) (Ji G g A n c l j ((B,206,#[O (some ⟨g,0,none⟩)])::L))
   (λxs=>cE xs=ej l j) (λpre=>cE pre<+:ej l j) (kA g A n c (aF l j 0).1.1.pt j.x j.y [(B,206,#[O (some ⟨g,0,none⟩)])]):=by
 have e0:∀C N b3:Bool,(0:Nat) ∉ (if C then[1] else[])++(if N then[2,3] else[])++(if b3 then[4] else[]):=by decide
 have e1:∀C:Bool,(0:Nat) ∉ (if C then[1] else[]):=by decide
 have M:∀C N:Bool,(0:Nat) ∉ (if C then[1] else[])++(if N then[2,3] else[]):=by decide
 have e3:∀C:Bool,(0:Nat) ∉ (if C then[1] else[])++[2]:=by decide
 have aB:(aF l j 0).1.1.pt=ll (aF l j 0).1.1.kd:=rfl
 refine Dy k hk g B j.x j.y (aF l j 0).1.1.pt.1 (aF l j 0).1.1.pt.2.1 (aF l j 0).1.1.pt.2.2.1 (aF l j 0).1.1.pt.2.2.2.2 ?_
  (0::(if (aF l j 0).1.1.pt.2.1 then[1] else[])) (0::((if (aF l j 0).1.1.pt.2.1 then[1] else[])++(if (aF l j 0).1.1.pt.2.2.1 then[2,3] else[]))) (0::eL (aF l j 0).1.1) (ej l j)
  (dG G g A n c l j ((B,206,#[O (some ⟨g,0,none⟩)])::L)) (kA g A n c (aF l j 0).1.1.pt j.x j.y [(B,206,#[O (some ⟨g,0,none⟩)])]) rfl rfl rfl
  (λts u W W' h T=>h.below T) (λW W' h T=>h.below T) (λts u W h=>h.cl.head) (λW h=>h.cl.head) (λW h=>?_) (λW h=>h.c4) (λW h=>h.c14) (λW h=>h.c15) (λW h=>?_) (λW h=>?_) (λts u W h=>?_)
  (λW h=>(h.st (e1 _)).one) (λW h=>(h.st (e3 _)).one) (λts u W h hu=>h.low (by decide) hu) (λW D h=>h.five (M _ _) D) (λW D h=>h.five (e0 _ _ _) D) (λW D h=>h.set (M _ _) D hg hL) (λW h=>h.four) (λts W h=>h.again) (λW h=>?_) ?_
 ·intro K
  rw[aB] at K⊢;unfold ll at K⊢
  split at K
  ·rename_i D
   rw[if_pos D];exact JH K
  ·cases K
 ·obtain⟨s,h2,I⟩:=h.blk (ts:=[]) (by simp)
  have:=h2.cell 3;rw[<-I];exact this
 ·obtain⟨s,h2,I⟩:=h.blk (M _ _)
  have:=h2.cell 2;rw[<-I];exact this
 ·obtain⟨s,h2,I⟩:=h.blk (M _ _)
  have:=h2.cell 6;rw[<-I];exact this
 ·obtain⟨⟨s,bl,v,xs,e,hr,_⟩,_⟩:=h
  exact⟨_,rfl,hr.cell⟩
 ·obtain⟨pa,h1,h2⟩:=h.count
  exact⟨pa,h1,h2⟩
 ·unfold ej
  exact⟨_,rfl⟩
theorem uP:∀{cs:List (List UInt8)}{ns:List Int},(∀c∈cs,c≠[])->bK [] cs ns=none
 |[],_,_=>by rw[bK.eq_def]
 |_::_,[],_=>by rw[bK.eq_def]
 |c::cs,n::ns,h=>by
  rw[bK]
  have:c.isPrefixOf ([]:List UInt8)=false:=by
   have:=h c (by simp)
   cases c with
   |nil=>exact absurd rfl this
   |cons _ _=>rfl
  rw[this,if_neg (by decide)];exact uP (λd hd=>h d (List.mem_cons_of_mem _ hd))
theorem oK {cs:List (List UInt8)}{ns:List Int}{l:List UInt8}{i:Int}(j:∀c∈cs,c≠[]) (h:8*(Z l:Int)<i):(ac cs ns l i).2.1=0/\(ac cs ns l i).2.2≠0:=by
 unfold ac gQ;rw[if_neg (by omega)];have e:min 24 (8*Z l - i.toNat)=0:=by omega
 rw[e,show aI l i.toNat 0=[] from rfl,uP j];dsimp only
 split<;>exact⟨rfl,by decide⟩
theorem rz:∀c∈ay,c≠[]:=by decide+kernel
theorem JQ (l:List UInt8)(s:aZ)(v:Value)(t:Nat):aF l {s with v:=v} t=(({(aF l s t).1.1 with v:=v},(aF l s t).1.2),(aF l s t).2):=by
 match t with
 |0=>rfl
 |1=>
  show (if 8*(Z l:Int)<s.a+5 then _ else _)=((({(if 8*(Z l:Int)<s.a+5 then(({s with a:=s.a+5,qu:=0},[]),(5:Int)) else(({s with a:=s.a+5,qu:=((au l s.a.toNat 5:Nat):Int)},([]:List bH)),if ((au l s.a.toNat 5:Nat):Int)==0 then(9:Int) else 0)).1.1 with v:=v}:aZ),(if 8*(Z l:Int)<s.a+5 then(({s with a:=s.a+5,qu:=0},[]),(5:Int)) else(({s with a:=s.a+5,qu:=((au l s.a.toNat 5:Nat):Int)},([]:List bH)),if ((au l s.a.toNat 5:Nat):Int)==0 then(9:Int) else 0)).1.2),(if 8*(Z l:Int)<s.a+5 then(({s with a:=s.a+5,qu:=0},[]),(5:Int)) else(({s with a:=s.a+5,qu:=((au l s.a.toNat 5:Nat):Int)},([]:List bH)),if ((au l s.a.toNat 5:Nat):Int)==0 then(9:Int) else 0)).2)
  split<;>rfl
 |2=>
  show (if (ac ak ap l s.a).2.2 !=0 then _ else _)=((({(if (ac ak ap l s.a).2.2 !=0 then((s,[]),(ac ak ap l s.a).2.2) else(({s with a:=s.a+(ac ak ap l s.a).2.1,mx:=(aY s.x (ac ak ap l s.a).1).1},([]:List bH)),(aY s.x (ac ak ap l s.a).1).2)).1.1 with v:=v}:aZ),(if (ac ak ap l s.a).2.2 !=0 then((s,[]),(ac ak ap l s.a).2.2) else(({s with a:=s.a+(ac ak ap l s.a).2.1,mx:=(aY s.x (ac ak ap l s.a).1).1},([]:List bH)),(aY s.x (ac ak ap l s.a).1).2)).1.2),(if (ac ak ap l s.a).2.2 !=0 then((s,[]),(ac ak ap l s.a).2.2) else(({s with a:=s.a+(ac ak ap l s.a).2.1,mx:=(aY s.x (ac ak ap l s.a).1).1},([]:List bH)),(aY s.x (ac ak ap l s.a).1).2)).2)
  split<;>rfl
 |3=>
  show (if (ac ak ap l s.a).2.2 !=0 then _ else _)=((({(if (ac ak ap l s.a).2.2 !=0 then((s,[]),(ac ak ap l s.a).2.2) else(({s with a:=s.a+(ac ak ap l s.a).2.1,my:=(aY s.y (ac ak ap l s.a).1).1},([]:List bH)),(aY s.y (ac ak ap l s.a).1).2)).1.1 with v:=v}:aZ),(if (ac ak ap l s.a).2.2 !=0 then((s,[]),(ac ak ap l s.a).2.2) else(({s with a:=s.a+(ac ak ap l s.a).2.1,my:=(aY s.y (ac ak ap l s.a).1).1},([]:List bH)),(aY s.y (ac ak ap l s.a).1).2)).1.2),(if (ac ak ap l s.a).2.2 !=0 then((s,[]),(ac ak ap l s.a).2.2) else(({s with a:=s.a+(ac ak ap l s.a).2.1,my:=(aY s.y (ac ak ap l s.a).1).1},([]:List bH)),(aY s.y (ac ak ap l s.a).1).2)).2)
  split<;>rfl
 |4=>rfl
 |_+5=>rfl
theorem Jw (l:List UInt8){j s:aZ}{bl:List bH}(h:bz l (ej l j) j []=((s,bl),0)):ax s 5=s:=by
 cases M:s.pt.1 with
 |false=>unfold ax;rw[M,if_neg (by simp)]
 |true=>
  have I:=h;unfold ej at I;obtain⟨k0,K⟩:=jD l I
  have N:∀k:Nat,0 ∉ eL (aF l j 0).1.1++U k 5:= λk B=>by
   rcases OA.1 B with B|B
   ·revert B
    unfold eL
    cases (aF l j 0).1.1.pt.2.1<;>cases (aF l j 0).1.1.pt.2.2.1<;>cases (aF l j 0).1.1.pt.2.2.2.2<;>simp
   ·have:=V B;cases this
  have G:=qA l _ K (N _);have h2:=K;rw[iE] at h2
  split at h2
  ·rename_i he
   rw[h2] at he
   cases he
  ·rename_i he
   have he:(bz l (eL (aF l j 0).1.1) (aF l j 0).1.1 []).2=0:=(by simpa using he);have h3:bz l (eL (aF l j 0).1.1) (aF l j 0).1.1 []=(((bz l (eL (aF l j 0).1.1) (aF l j 0).1.1 []).1.1,(bz l (eL (aF l j 0).1.1) (aF l j 0).1.1 []).1.2),0):=(by rw[<-he]);have D:=qA l _ h3 (λB=>N 0 (by simpa using B))
   have C:(ax (bz l (eL (aF l j 0).1.1) (aF l j 0).1.1 []).1.1 5).pa=63:=by
    unfold ax;rw[D,<-G,M,if_pos ⟨by decide,rfl⟩]
   have T:ej l j=(0::(eL (aF l j 0).1.1++U 5 5))++[5]:=by
    unfold ej;rw[C,show bO 63=6 from by decide,J,List.append_assoc];rfl
   rw[T] at h;exact vC l h
theorem yM (l:List UInt8)(j:aZ){ts:List Nat}{t:Nat}(h:ts++[t]<+:ej l j):(ts=[]/\t=0)\/(∃us,ts=0::us/\0 ∉ us/\t≠0/\t<=5):=by
 have C:∀m∈eL (aF l j 0).1.1++U (bO (ax (bz l (eL (aF l j 0).1.1) (aF l j 0).1.1 []).1.1 5).pa) 5,m≠0/\m<=5:= λm B=>by
  rcases OA.1 B with B|B
  ·revert B
   unfold eL
   cases (aF l j 0).1.1.pt.2.1<;>cases (aF l j 0).1.1.pt.2.2.1<;>cases (aF l j 0).1.1.pt.2.2.2.2<;>simp<;>omega
  ·have:=V B;omega
 unfold ej at h;generalize eL (aF l j 0).1.1++U (bO (ax (bz l (eL (aF l j 0).1.1) (aF l j 0).1.1 []).1.1 5).pa) 5=R at h C
 cases ts with
 |nil=>
  rw[List.nil_append] at h;exact .inl ⟨rfl,(Y.1 h).1⟩
 |cons u us=>
  rw[J] at h;obtain⟨rfl,h2⟩:=Y.1 h;have ht:=C t (h2.subset (by simp));exact .inr ⟨us,rfl,λB=>(C 0 (h2.subset (by simp[B]))).1 rfl,ht.1,ht.2⟩
theorem Fg {j W:World}{g:Nat}{A:Option Addr}{n c:Nat}{l:List UInt8}{s:aZ}{xs:List ew}(h:ip j g A n c s xs W)(C:j.heap.size<=g)(B:Sl j A (l.map af))(D:Z l=n)(hsz:n<=2 ^ 47)(I:0<=s.a)(h1:s.a<=9223372036854775807):
  Calls X 224 #[O (some ⟨g,0,none⟩)] W (iI j g A n c l s xs 0 W):=by
 by_cases K:s.a<=8*(Z l:Int)
 ·exact GR h C B D hsz I K
 ·have e:=(oK (ns:=aG) (l:=l) (i:=s.a) rz (by omega)).1
  refine(By g A n c l s W h.cell (B.below h.below) D hsz (by omega) s.a (by rw[e,OB,IntKind.wrap_i64];omega)).mono ?_;rintro T N ⟨rfl,M,ht⟩;refine gZ h C ht rfl ?_ rfl rfl;have G:(aF l s 0).1.1={s with a:=s.a+(ac ay aG l s.a).2.1,kd:=(ac ay aG l s.a).1,pt:=ll (ac ay aG l s.a).1}:=rfl;rw[G,e,OB] at*;exact M
theorem qz {β:Type}{G:World}{g:Nat}{A:Option Addr}{n c:Nat}{l:List UInt8}{s0:aZ}{L:List aL}{B:Nat}(M:G.heap.size<=B)(f:β->List Nat)(u:Nat):OwnFrom B (λpre W=>dG G g A n c l s0 L (f pre) u W):=by
 rintro pre W W' row ⟨⟨s,bl,v,xs,I,D,K⟩,N⟩ C j;refine⟨⟨s,bl,v,xs,I,⟨?_,?_,?_,λp T=>?_⟩,K⟩,?_⟩
 ·exact js D.below C (λr e=>Nat.le_trans M (j r e).1) D.below.size
 ·exact dr D.cell C (λr e=>(j r e).2)
 ·exact lD D.row C (λr e=>(j r e).2)
 ·exact lD (D.bl p T) C (λr e=>(j r e).2)
 ·exact N.grown C (λr e=>(j r e).2)
theorem ID {β:Type}{g:Nat}{D G:Int}{B:Nat}(x:jo):OwnFrom B (λ(_:β) W=>Jf g D G x W):=by
 rintro pre W I row h C j;obtain⟨t,K,M,N⟩:=x
 match t with
 |0=>trivial
 |1=>trivial
 |2=>exact⟨dr h.1 C (λr e=>(j r e).2),dr h.2.1 C (λr e=>(j r e).2),dr h.2.2 C (λr e=>(j r e).2)⟩
 |3=>exact⟨dr h.1 C (λr e=>(j r e).2),dr h.2.1 C (λr e=>(j r e).2),dr h.2.2 C (λr e=>(j r e).2)⟩
 |4=>trivial
 |_+5=>trivial
structure uv (w0:World) (g:Nat) (A:Option Addr) (n c:Nat) (l:List UInt8) (s0:aZ) (L:List aL) (ts:List Nat) (t:Nat) (er:Int) (W':World):Prop where
 below:Below w0.heap.size w0 W'
 cl:aa L W'
 st:∃s:aZ,ab W' g 208 (gj A n c s)/\s.pt=(aF l s0 0).1.1.pt/\s.x=s0.x/\s.y=s0.y
 ok:er=0->dG w0 g A n c l s0 L (ts++[t]) 0 W'
 no:er≠0->(jB l s0).2=er
theorem j7 {w0 W:World}{g:Nat}{A:Option Addr}{n c:Nat}{l:List UInt8}{M:aZ}{L:List aL}{ts:List Nat}{t f:Nat}{args:Array Value}(hI:dG w0 g A n c l M L ts t W)(aB:ts++[t]<+:ej l M)(hL:∀q∈L,q.2.1≠93/\q.1≠g)
  (hc:∀s v bl xs,bz l ts M []=((s,bl),0)->ip w0 g A n c {ax s t with v:=v} xs W->xs.map (·.1)=bl->Calls X f args W (iI w0 g A n c l {ax s t with v:=v} xs t W)):
  Calls X f args W λe W'=>∃er,e=.returned (.int .i64 er)/\(∀B,KeepsFrom B W W')/\uv w0 g A n c l M L ts t er W':=by
 obtain⟨⟨s,bl,v,xs,G,hr,h3⟩,N⟩:=hI;refine(hc s v bl xs G hr h3).mono ?_;rintro e W' ⟨D,⟨v',cz,C,K⟩,j,aC⟩;have ev:=JQ l (ax s t) v t;rw[ev] at D C K;dsimp only at D C K;have T:=vD l (t:=t) G;refine⟨_,D,aC,C.below,λq I=>j _ _ _ (N q I) (hL q I).1 (hL q I).2,⟨_,C.cell,?_,?_,?_⟩,λhe=>?_,λhe=>?_⟩
 ·show (aF l (ax s t) t).1.1.pt=_
  rcases yM l M aB with⟨rfl,rfl⟩|⟨us,rfl,bE,ht,_⟩
  ·simp only[bz,Prod.mk.injEq,and_true] at G
   obtain⟨rfl,rfl⟩:=G;rw[jO M (by decide)]
  ·rw[(kc l (ax s t) t).2.2.1 ht,(bp s t).2.2.2.1,oF l G bE]
 ·show (aF l (ax s t) t).1.1.x=_
  rw[(kc l (ax s t) t).1,(bp s t).2.1,(qB l _ G).1]
 ·show (aF l (ax s t) t).1.1.y=_
  rw[(kc l (ax s t) t).2.1,(bp s t).2.2.1,(qB l _ G).2]
 ·rw[he] at T
  refine⟨⟨_,_,v',cz,T,?_,by rw[K,h3]⟩,λq I=>j _ _ _ (N q I) (hL q I).1 (hL q I).2⟩;rw[jO _ (by decide)];exact C
 ·rw[vt]
  exact GO l G aB he
end Go.Proofs.YthhijgcfbjcgiaaGreatDoor
