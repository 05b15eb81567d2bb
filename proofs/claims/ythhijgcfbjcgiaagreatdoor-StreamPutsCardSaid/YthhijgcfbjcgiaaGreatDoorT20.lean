/- KindO, KindT, Mac1, MBk, ShoW -/
import Derived.Test.YthhijgcfbjcgiaaGreatDoorT19
import Derived.Test.YthhijgcfbjcgiaaGreatDoorT03
namespace Go.Proofs.YthhijgcfbjcgiaaGreatDoor
section
open Go Go.RowKit
attribute [local go_sem] Oper.semAt_some
set_option maxHeartbeats 16000000
set_option maxRecDepth 100000
open Go.Lib renaming hid→O
open Go.Value renaming bool→U,slice→OA,int→OK,tuple→OU
open Go.Obj renaming cells→Z
open Nat renaming le_refl→V,reduceAdd→OW,reduceSub→OX
open List renaming length→Y,getElem?_cons_succ→X,getElem?_cons_zero→J,getElem?_toArray→OD,drop_succ_cons→OE,length_append→OF,range→OG,drop_zero→OH,append_toArray→OI,push_toArray→OL,size_toArray→OM,cons_append→OP,length_nil→OQ,nil_append→OR
open Go.World renaming size_alloc→OB,ownsRow_nil→ON,drew→OT
open Go.IntKind renaming i64→OC,i64→Oa
open Tryz renaming prog→OJ,results106→OS,func199→OZ
open Bool renaming and_eq_true→OO
open Go.Ending renaming returned→OV
open Go.Proofs.YthhijgcfbjcgiaaGreatDoor.bY renaming take→OY,step→Ob
def IX (k:Int) (pre:List Nat) (_:Unit):Prop:=∀j∈pre,(j:Int)+1≠k
def wj (h:Nat) (k:Int):List aM:=[(h,3,#[OK OC k]),(h+1,110,Gi.toArray),(h+2,26,#[OK OC 0])]
def ld (k:Int):List Value:=if eT k then qo k else Gi
def mR (k:Int):Int:=if eT k then 0 else 18
theorem Ei (k:Int):∃a b c d e,ld k=[U a,U b,U c,U d,U e]:=by
 unfold ld
 split
 ·exact⟨_,_,_,_,_,rfl⟩
 ·exact⟨_,_,_,_,_,rfl⟩
theorem nE (k:Int)(w:World):Calls OJ 106 #[OK OC k] w λe w'=>e=OV (OU #[.agg (ld k).toArray,OK OC (mR k)])/\Below w.heap.size w w':=by
 refine(callsIn_wide (n:=5)).1 ?_;refine callsIn_of_wp_marks Tryz.func106 rfl trivial ?_ rfl;simp only[Tryz.ntmps106,OM,List.length_cons,OQ,OW,OX,Array.replicate_succ,Array.replicate_zero,OL,OI,OR,OP];refine wpIn_wide.2 ?_;go_wp2_with (go_at_call 156;refine(xr _).mono ?_;rintro e w' ⟨rfl,rfl⟩)
 simp only[Nat.add_assoc,OW];refine(wpIn_wide (n:=5)).1 ?_
 refine sY (α:=Nat) (enc:=tq) (I:=cS w (IX k) (λ_ _=>wj w.heap.size k) (λ_ _=>[])) (I2:=cS w (IX k) (λ_ _=>wj w.heap.size k) (λ_ _=>[])) (S:= λxs=>xs=OG 10) (Sp:= λpre=>pre<+:OG 10)
  rfl (by decide) (gf:=199) (lb:= #[]) rfl trivial (enters_of OZ (by kernel_rfl) rfl)
  (xq 4 (by decide) _ gP) (λ_=>rfl)
  (λcd _ W=>m9 w [(w.heap.size+1,110,(ld k).toArray),(w.heap.size+2,26,#[OK OC (mR k)])] cd W)
  (λpre x g W=>cS w (IX k) (λ_ _=>(g,184,(fB x).toArray)::wj w.heap.size k) (λ_ _=>[]) pre W)
  (bq (by simp;omega) _ _ _) (bq (by simp;omega) _ _ _) (λcd=>iu (by simp;omega) _ _) (λx g=>bq (by simp;omega) _ _ _) ?start ?round ?done ?stop
 case start=>
  refine⟨⟨(),(λj hj=>by cases hj),?_,?_,aF _⟩⟩
  ·exact(((Below.refl _ _).alloc (V _) _).alloc (by simp) _).alloc (by simp;omega) _
  ·unfold wj
   refine aa.cons ?_ (aa.cons ?_ (aa.cons ?_ (ai _)))
   all_goals (repeat (first|(refine aE (ab.new _ _ _) ?_;simp[OB];done)|refine ab.alloc ?_ _))
 case round=>
  apply Exists.intro;refine And.intro ?_ ?_
  ·rintro lp pre x W ⟨⟨u,hu,M⟩⟩ aJ
   have HU:=O hu;have HC:=O M;clear hu M;rw[AW];gi_wp2
   obtain⟨g0,iP⟩:∃g0,W.heap.size=g0:=⟨_,rfl⟩;have Ht:=dQ (ap HC.out (Z (fB x).toArray 184)) (aE (ab.new W 184 (fB x).toArray) iP);rw[iP];exact⟨⟨g0,rfl,⟨u,HU.out,Ht⟩⟩,co (KeepsFrom.refl _ _) _⟩
  ·rintro lp pre x g W ⟨⟨u,hu,M⟩⟩ aJ
   obtain⟨JT,hx,jg⟩:=uM aJ;obtain⟨B0,T⟩:ab W g 184 (fB x).toArray/\aa (wj w.heap.size k) W:=⟨M.2.1.head,M.2.1.tail⟩;unfold wj at T;have x0:=T.head.cell 0;have d1:W.cell? ⟨g,1,none⟩=some (U (pI ((x:Int)+1))):=(by rw[B0.cell];rfl);have d2:W.cell? ⟨g,2,none⟩=some (U (pQ ((x:Int)+1))):=(by rw[B0.cell];rfl);have d3:W.cell? ⟨g,3,none⟩=some (U (pV ((x:Int)+1))):=(by rw[B0.cell];rfl);have d4:W.cell? ⟨g,4,none⟩=some (U (pF ((x:Int)+1))):=(by rw[B0.cell];rfl);have d5:W.cell? ⟨g,5,none⟩=some (U (pC ((x:Int)+1))):=(by rw[B0.cell];rfl);have C:=T.tail.head;have N:=T.tail.tail.head;dsimp only at C N;have e0:W.cell? ⟨w.heap.size+1,0,none⟩=some (U false):=(by rw[C.cell];rfl);have e1:W.cell? ⟨w.heap.size+1,1,none⟩=some (U false):=(by rw[C.cell];rfl);have e2:W.cell? ⟨w.heap.size+1,2,none⟩=some (U false):=(by rw[C.cell];rfl);have e3:W.cell? ⟨w.heap.size+1,3,none⟩=some (U false):=(by rw[C.cell];rfl);have e4:W.cell? ⟨w.heap.size+1,4,none⟩=some (U false):=(by rw[C.cell];rfl);have f0:=C.frozen 0;have f1:=C.frozen 1;have f2:=C.frozen 2;have f3:=C.frozen 3;have f4:=C.frozen 4;have h0:=N.cell 0;have h1:=N.frozen 0;have HC:=O M;have HU:=O hu;have dv:=O C;have dy:=O N;have kU:=O jg;have HX:=O hx;clear M hu T C N B0 JT hx jg aJ
   by_cases hk:(x:Int)+1=k
   ·have Hu:((x:Int)+1==k)=true:=by simpa using hk
    have bM:=O hk;clear hk;gi_wp2_with fail
    have av:eT k=true:=(by have:=kU.out;have:=bM.out;have:=HX.out;simp[eT];omega);have M:=HC.out;refine⟨?_,rfl,?_,?_,aF _⟩
    ·exact aq (aq (aq (aq (aq (aq (KeepsFrom.refl _ _) _ _) _ _) _ _) _ _) _ _) _ _
    ·exact(((((M.1.setCell (p:=⟨w.heap.size+1,0,none⟩) (by show w.heap.size<=_;simp) _).setCell (p:=⟨w.heap.size+1,1,none⟩) (by show w.heap.size<=_;simp) _).setCell (p:=⟨w.heap.size+1,2,none⟩) (by show w.heap.size<=_;simp) _).setCell (p:=⟨w.heap.size+1,3,none⟩) (by show w.heap.size<=_;simp) _).setCell (p:=⟨w.heap.size+1,4,none⟩) (by show w.heap.size<=_;simp) _).setCell (p:=⟨w.heap.size+2,0,none⟩) (by show w.heap.size<=_;simp) _
    ·unfold ld mR
     rw[if_pos av,if_pos av,<-bM.out];refine aa.cons ?_ (aa.cons ?_ (ai _))
     ·exact(((((dv.out.set_ 0 _).set_ 1 _).set_ 2 _).set_ 3 _).set_ 4 _).far (p:=⟨w.heap.size+2,0,none⟩) (by simp) _
     ·exact(((((dy.out.far (p:=⟨w.heap.size+1,0,none⟩) (by simp) _).far (p:=⟨w.heap.size+1,1,none⟩) (by simp) _).far (p:=⟨w.heap.size+1,2,none⟩) (by simp) _).far (p:=⟨w.heap.size+1,3,none⟩) (by simp) _).far (p:=⟨w.heap.size+1,4,none⟩) (by simp) _).set_ 0 _
   ·have Hu:((x:Int)+1==k)=false:=by simpa using hk
    have bM:=O hk;clear hk;gi_wp2_with fail
    refine⟨KeepsFrom.refl _ _,trivial,⟨(),?_,aw HC.out⟩⟩;intro j hj;rcases List.mem_append.1 hj with hj|hj
    ·exact HU.out j hj
    ·rw[List.mem_singleton] at hj;rw[hj];exact bM.out
 case done=>
  rintro D xs W hD rfl ⟨u,hu,M⟩ hK
  have av:eT k=false:=by
   cases h:eT k with
   |false=>rfl
   |true=>
    simp[eT] at h;exact absurd (by omega) (hu (k - 1).toNat (List.mem_range.2 (by omega)))
  have G:=M.2.1;unfold wj at G;have C:=G.tail.head;have N:=G.tail.tail.head;dsimp only at C N;have e0:W.cell? ⟨w.heap.size+1,0,none⟩=some (U false):=(by rw[C.cell];rfl);have e1:W.cell? ⟨w.heap.size+1,1,none⟩=some (U false):=(by rw[C.cell];rfl);have e2:W.cell? ⟨w.heap.size+1,2,none⟩=some (U false):=(by rw[C.cell];rfl);have e3:W.cell? ⟨w.heap.size+1,3,none⟩=some (U false):=(by rw[C.cell];rfl);have e4:W.cell? ⟨w.heap.size+1,4,none⟩=some (U false):=(by rw[C.cell];rfl);have f0:=C.frozen 0;have f1:=C.frozen 1;have f2:=C.frozen 2;have f3:=C.frozen 3;have f4:=C.frozen 4;have h0:=N.cell 0;have h1:=N.frozen 0;have fJ:=O av;have HK:=O hK;have dv:=O C;have dy:=O N;have jY:=O M.1;clear av hK C N G M hu;gi_wp2_with fail
  go_wp2_with fail
  have K:D≠w.heap.size+1/\D≠w.heap.size+2:=(by simp at hD;omega);generalize cE:((((((W.setCell ⟨w.heap.size+1,0,none⟩ (U false)).setCell ⟨w.heap.size+1,1,none⟩ (U false)).setCell ⟨w.heap.size+1,2,none⟩ (U false)).setCell ⟨w.heap.size+1,3,none⟩ (U false)).setCell ⟨w.heap.size+1,4,none⟩ (U false)).setCell ⟨w.heap.size+2,0,none⟩ (OK OC 18))=W2
  have gj:W2.heap[D]? =some (.deferred (some [])):=by
   rw[<-cE,Below.heap_setCell _ ⟨w.heap.size+2,0,none⟩ _ D K.2,Below.heap_setCell _ ⟨w.heap.size+1,4,none⟩ _ D K.1,Below.heap_setCell _ ⟨w.heap.size+1,3,none⟩ _ D K.1,Below.heap_setCell _ ⟨w.heap.size+1,2,none⟩ _ D K.1,Below.heap_setCell _ ⟨w.heap.size+1,1,none⟩ _ D K.1,Below.heap_setCell _ ⟨w.heap.size+1,0,none⟩ _ D K.1];exact HK.out
  have Hl:aa [(w.heap.size+1,110,(ld k).toArray),(w.heap.size+2,26,#[OK OC (mR k)])] W2:=by
   rw[<-cE];unfold ld mR;rw[if_neg (by rw[fJ.out];decide),if_neg (by rw[fJ.out];decide)];refine aa.cons ?_ (aa.cons ?_ (ai _))
   ·exact(((((dv.out.set_ 0 _).set_ 1 _).set_ 2 _).set_ 3 _).set_ 4 _).far (p:=⟨w.heap.size+2,0,none⟩) (by simp) _
   ·exact(((((dy.out.far (p:=⟨w.heap.size+1,0,none⟩) (by simp) _).far (p:=⟨w.heap.size+1,1,none⟩) (by simp) _).far (p:=⟨w.heap.size+1,2,none⟩) (by simp) _).far (p:=⟨w.heap.size+1,3,none⟩) (by simp) _).far (p:=⟨w.heap.size+1,4,none⟩) (by simp) _).set_ 0 _
  have rG:Below w.heap.size w W2:=by
   rw[<-cE];exact(((((jY.out.setCell (p:=⟨w.heap.size+1,0,none⟩) (by show w.heap.size<=_;simp) _).setCell (p:=⟨w.heap.size+1,1,none⟩) (by show w.heap.size<=_;simp) _).setCell (p:=⟨w.heap.size+1,2,none⟩) (by show w.heap.size<=_;simp) _).setCell (p:=⟨w.heap.size+1,3,none⟩) (by show w.heap.size<=_;simp) _).setCell (p:=⟨w.heap.size+1,4,none⟩) (by show w.heap.size<=_;simp) _).setCell (p:=⟨w.heap.size+2,0,none⟩) (by show w.heap.size<=_;simp) _
  clear cE;have B:=cL (o':= .deferred none) Hl gj rfl;have dO:=cu (o:= .deferred none) rG (D:=D) (by simp at hD;omega);obtain⟨a,b,c,d,e,hv⟩:=Ei k;rw[hv] at B⊢;have q0:=B.head.cell 0;have q1:=B.head.cell 1;have q2:=B.head.cell 2;have q3:=B.head.cell 3;have q4:=B.head.cell 4;have q5:=B.tail.head.cell 0;simp only[OD,J,X] at q0 q1 q2 q3 q4 q5;refine eo gj (v:=OU #[.agg #[U a,U b,U c,U d,U e],OK OC (mR k)]) ?_ ?_
  ·simp[results,OS,go_sem,q0,q1,q2,q3,q4,q5]
  ·exact⟨rfl,dO⟩
 case stop=>
  rintro D cd pre W hD aJ ⟨rfl,cI,G,_⟩ hK;have eE:=O cI;have kA:=O G;have HK:=O hK;clear cI G hK aJ;gi_wp2_with fail
  have B:=cL (o':= .deferred none) kA.out HK.out rfl;have dO:=cu (o:= .deferred none) eE.out (D:=D) (by simp at hD;omega);obtain⟨a,b,c,d,e,hv⟩:=Ei k;rw[hv] at B⊢;have q0:=B.head.cell 0;have q1:=B.head.cell 1;have q2:=B.head.cell 2;have q3:=B.head.cell 3;have q4:=B.head.cell 4;have q5:=B.tail.head.cell 0;simp only[OD,J,X] at q0 q1 q2 q3 q4 q5;refine eo HK.out (v:=OU #[.agg #[U a,U b,U c,U d,U e],OK OC (mR k)]) ?_ ?_
  ·simp[results,OS,go_sem,q0,q1,q2,q3,q4,q5]
  ·exact⟨rfl,dO⟩
theorem Ey {w:World}{base T D j:Nat}{N:List Nd}{I:DataW Value}{o o':Obj}(h:ey w base T N I j)(K:w.heap[D]? =some o)(hm:∀C c,o≠ .map C c) (hc:o.isCells=false):ey (w.putObj D o') base T N I j:=by
 obtain⟨v,mb,h1,h2,h3,h4,h5⟩:=h;have M:=grownBy_putObj' w D o';have hr:∀r,some D=some r->∃o:Obj,w.heap[r]? =some o/\o.isCells=false:= λr e=>by cases e;exact⟨o,K,hc⟩
 refine⟨v,mb,dk h1 M hr,lF h2 M hr,?_,h4,h5⟩;obtain⟨C,B,G,r⟩:=h3;refine⟨C,B,(World.putObj_heap_other (λe=>?_)).trans G,r⟩;rw[e,K] at G
 cases G
 exact hm _ _ rfl
theorem n9 (j:Nat)(h:j<10):aD.take (j+1)=aD.take j++[aD.getD j []]:=by revert j;decide+kernel
theorem oa (j:Nat)(h:j<10):aN.take (j+1)=aN.take j++[(j:Int)+1]:=by revert j;decide+kernel
theorem uA (w:World):Calls OJ 157 #[] w (rc aD aN w):=by
 refine(callsIn_wide (n:=5)).1 ?_;refine callsIn_of_wp_marks Tryz.func157 rfl trivial ?_ rfl;simp only[Tryz.ntmps157,OM,OQ,OX,Array.replicate_succ,Array.replicate_zero,OL,OI,OR,OP];refine wpIn_wide.2 ?_;go_wp2_with (go_at_call 156;refine(xr _).mono ?_;rintro e w' ⟨rfl,rfl⟩)
 refine(wpIn_wide (n:=5)).1 ?_
 refine sY (α:=Nat) (enc:=tq) (I:=cS w (λ_ (v:Value×Value)=>Bv v.1/\Bv v.2) (λ_ v=>mZ w.heap.size v.1 v.2) (λpre v=>m7 w.heap.size aD aN (Y pre) v.1 v.2)) (I2:=cS w (λ_ (v:Value×Value)=>Bv v.1/\Bv v.2) (λ_ v=>mZ w.heap.size v.1 v.2) (λpre v=>m7 w.heap.size aD aN (Y pre) v.1 v.2)) (S:= λxs=>xs=OG 10) (Sp:= λpre=>pre<+:OG 10)
  rfl (by decide) (gf:=199) (lb:= #[]) rfl trivial (enters_of OZ (by kernel_rfl) rfl)
  (xq 4 (by decide) _ gP) (λ_=>rfl)
  (λ_ _ _=>False)
  (λpre x g W=>cS w (λ_ (v:Value×Value)=>Bv v.1/\Bv v.2) (λ_ v=>(g,184,(fB x).toArray)::mZ w.heap.size v.1 v.2) (λpre v=>m7 w.heap.size aD aN (Y pre) v.1 v.2) pre W)
  (bq (by simp;omega) _ _ _) (bq (by simp;omega) _ _ _) (λ_ _ _ _ _ h _ _=>h) (λx g=>bq (by simp;omega) _ _ _) ?start ?round ?done ?stop
 case start=>
  refine⟨⟨(OA none 0 0,OA none 0 0),⟨⟨_,_,_,rfl⟩,⟨_,_,_,rfl⟩⟩,?_,?_,?_⟩⟩
  ·exact((Below.refl _ _).alloc (V _) _).alloc (by simp) _
  ·refine aa.cons ?_ (aa.cons ?_ (ai _))
   all_goals (repeat (first|(refine aE (ab.new _ _ _) ?_;simp[OB];done)|refine ab.alloc ?_ _))
  ·exact ar.cons (ON _ _ _ _) (ar.cons (ON _ _ _ _) (aF _))
 case round=>
  apply Exists.intro;refine And.intro ?_ ?_
  ·rintro lp pre x W ⟨⟨u,hu,N⟩⟩ fJ
   have HU:=O hu;have HC:=O N;clear hu N;rw[AW];gi_wp2
   obtain⟨g0,jg⟩:∃g0,W.heap.size=g0:=⟨_,rfl⟩;have Hl:=dQ (ap HC.out (Z (fB x).toArray 184)) (aE (ab.new W 184 (fB x).toArray) jg);rw[jg];exact⟨⟨g0,rfl,⟨u,HU.out,Hl⟩⟩,co (KeepsFrom.refl _ _) _⟩
  ·rintro lp pre x g W ⟨⟨⟨v1,v2⟩,⟨⟨A1,n1,c1,rfl⟩,⟨A2,n2,c2,rfl⟩⟩,N⟩⟩ fJ
   obtain⟨Ht,hx,kA⟩:=uM fJ;unfold mZ m7 at N;dsimp only at N;have HC:=O N;have K0:=O kA;have HX:=O hx;have JT:Y pre<=9:=(by omega);clear N Ht hx kA fJ;obtain⟨sc,K4⟩:∃sc,aD.getD x []=sc:=⟨_,rfl⟩;gi_wp2_with fail
   refine fm (λw'=>aa [(g,184,(fB x).toArray),(w.heap.size,138,#[OA A1 n1 c1]),(w.heap.size+1,61,#[OA A2 n2 c2])] w') 8 (OY 0 (OY 1 (OY 2 (OY 5 (OY 6 (.fork 3 (.fork 4 (Ob 7 (.done)) 7 (Ob 4 (.done))) 7 (Ob 3 (Ob 4 (.done))))))))) (by kernel_rfl) (by kernel_rfl) (by simp only[bY.out,Array.getD_eq_getD_getElem?,OD,J,X,Option.getD_some];rfl) (by simp only[List.map_cons,List.map_nil];rfl) (HC.out.2.1) (λPE av=>?_)
   iterate 5
    refine af (v:=?_) rfl (by rfl) ?_ ?_
    rotate_left
    ·intro _ dO;(try dsimp only at dO);have z1:=dO.tail.head.cell 0;have z2:=dO.tail.tail.head.cell 0;have z3:_=some (Value.string (bs (aD.getD x []))):=dO.head.cell 0;go_simp;(try with_reducible rfl)
    simp only[List.setIfInBounds_toArray,List.set_cons_zero,List.set_cons_succ]
   have HW:=O (bB HC.out);refine⟨?_,?_⟩
   ·refine aj (v:=?_) (w':=?_) rfl (by rfl) ?_ ?_ ?_
    rotate_left 2
    ·go_simp;(try (constructor<;>with_reducible rfl))
    ·exact(ap HW.out _).2.1
    refine⟨?_,?_⟩
    ·refine jo jy rfl rfl rfl rfl (ap HW.out (Z #[aR (aD.getD x [])] 9)) rfl (ab.new _ _ _) (m:=1) (news:=[aR (aD.getD x [])]) rfl (mY _) (by omega) ⟨V _,(ap HW.out (Z #[aR (aD.getD x [])] 9)).1.size⟩ (by simp) (by simp) (λv' W5 C eE dy=>⟨C.2.1,?_⟩)
     obtain⟨A5,c5,e5,_⟩:=cO C.2.2.head;dsimp only at e5;subst e5;refine aj (v:=?_) (w':=?_) rfl (by rfl) ?_ ?_ ?_;rotate_left 2
     ·go_simp;(try (constructor<;>with_reducible rfl))
     ·exact C.2.1.alloc _
     have G:=O (ap C (Z #[aH ((x:Int)+1)] 3));have aJ:=O (ab.new W5 3 #[aH ((x:Int)+1)]);have cI:=O (λB=>co (dt (co (ff (KeepsFrom.refl B W)) (Z #[aR (aD.getD x [])] 9)) (dy B)) (Z #[aH ((x:Int)+1)] 3));refine av _ _ ?_;clear av PE;simp only[OE,OH];go_wp2_with (refine hU jx rfl rfl rfl (dR G.out) rfl aJ.out (m:=1) (news:=[aH ((x:Int)+1)]) rfl (n8 _) (by omega) ⟨V _,G.out.1.size⟩ (by simp) (by simp) ?_;intro v2 W9 j dv K;obtain⟨A8,c8,e8,_⟩:=cO j.2.2.head;dsimp only at e8;subst e8;have bM:=O (aw j);have cE:=O (λB=>dt (cI.out B) (K B));have y1:=j.2.1.tail.head.cell 0;have y2:=j.2.1.tail.tail.head.cell 0;have kU:=j.2.1.tail.head.frozen 0;have rG:=j.2.1.tail.tail.head.frozen 0;clear j dv K)
     refine⟨rfl,?_⟩;gi_wp2_with fail
     have M:= λB=>oI bM.out cE.out B (by rw[HX.out];exact n9 _ (by omega)) (by rw[HX.out];exact oa _ (by omega)) rfl;refine⟨(M _).1,trivial,⟨⟨(OA A5 (Y pre+1) c5,OA A8 (Y pre+1) c8),⟨⟨_,_,_,rfl⟩,⟨_,_,_,rfl⟩⟩,?_⟩⟩⟩;rw[OF];exact(M 0).2
    ·refine aj (v:=?_) (w':=?_) rfl (by rfl) ?_ ?_ ?_
     rotate_left 2
     ·go_simp;(try (constructor<;>with_reducible rfl))
     ·exact((ap HW.out (Z #[aR (aD.getD x [])] 9)).2.1).alloc _
     refine jo jy rfl rfl rfl rfl (ap (ap HW.out (Z #[aR (aD.getD x [])] 9)) (Z #[aH ((x:Int)+1)] 3)) rfl ((ab.new _ _ _).alloc _) (m:=1) (news:=[aR (aD.getD x [])]) rfl (mY _) (by omega) ⟨V _,(ap (ap HW.out (Z #[aR (aD.getD x [])] 9)) (Z #[aH ((x:Int)+1)] 3)).1.size⟩ (by simp) (by simp) (λv' W5 C eE dy=>⟨C.2.1,?_⟩);obtain⟨A5,c5,e5,_⟩:=cO C.2.2.head;dsimp only at e5;subst e5;have G:=O C;have aJ:=O (aE (g':=W.heap.size+1) (eE _ _ _ (ab.new ((OT W).alloc (Z #[aR (aD.getD x [])] 9)) 3 #[aH ((x:Int)+1)]) (by decide)) (OB _ _));have cI:=O (λB=>dt (co (co (ff (KeepsFrom.refl B W)) (Z #[aR (aD.getD x [])] 9)) (Z #[aH ((x:Int)+1)] 3)) (dy B));refine av _ _ ?_;clear av PE;simp only[OE,OH];go_wp2_with (refine hU jx rfl rfl rfl (dR G.out) rfl aJ.out (m:=1) (news:=[aH ((x:Int)+1)]) rfl (n8 _) (by omega) ⟨V _,G.out.1.size⟩ (by simp) (by simp) ?_;intro v2 W9 j dv K;obtain⟨A8,c8,e8,_⟩:=cO j.2.2.head;dsimp only at e8;subst e8;have bM:=O (aw j);have cE:=O (λB=>dt (cI.out B) (K B));have y1:=j.2.1.tail.head.cell 0;have y2:=j.2.1.tail.tail.head.cell 0;have kU:=j.2.1.tail.head.frozen 0;have rG:=j.2.1.tail.tail.head.frozen 0;clear j dv K)
     refine⟨rfl,?_⟩;gi_wp2_with fail
     have M:= λB=>oI bM.out cE.out B (by rw[HX.out];exact n9 _ (by omega)) (by rw[HX.out];exact oa _ (by omega)) rfl;refine⟨(M _).1,trivial,⟨⟨(OA A5 (Y pre+1) c5,OA A8 (Y pre+1) c8),⟨⟨_,_,_,rfl⟩,⟨_,_,_,rfl⟩⟩,?_⟩⟩⟩;rw[OF];exact(M 0).2
   ·refine aj (v:=?_) (w':=?_) rfl (by rfl) ?_ ?_ ?_
    rotate_left 2
    ·go_simp;(try (constructor<;>with_reducible rfl))
    ·exact(ap HW.out _).2.1
    refine aj (v:=?_) (w':=?_) rfl (by rfl) ?_ ?_ ?_;rotate_left 2
    ·go_simp;(try (constructor<;>with_reducible rfl))
    ·exact((ap HW.out (Z #[aH ((x:Int)+1)] 3)).2.1).alloc _
    refine jo jy rfl rfl rfl rfl (ap (ap HW.out (Z #[aH ((x:Int)+1)] 3)) (Z #[aR (aD.getD x [])] 9)) rfl (aE (ab.new ((OT W).alloc (Z #[aH ((x:Int)+1)] 3)) _ _) (OB _ _)) (m:=1) (news:=[aR (aD.getD x [])]) rfl (mY _) (by omega) ⟨V _,(ap (ap HW.out (Z #[aH ((x:Int)+1)] 3)) (Z #[aR (aD.getD x [])] 9)).1.size⟩ (by simp) (by simp) (λv' W5 C eE dy=>⟨C.2.1,?_⟩);obtain⟨A5,c5,e5,_⟩:=cO C.2.2.head;dsimp only at e5;subst e5;have G:=O C;have aJ:=O (aE (g':=W.heap.size) (eE _ _ _ ((ab.new (OT W) 3 #[aH ((x:Int)+1)]).alloc (Z #[aR (aD.getD x [])] 9)) (by decide)) rfl);have cI:=O (λB=>dt (co (co (ff (KeepsFrom.refl B W)) (Z #[aH ((x:Int)+1)] 3)) (Z #[aR (aD.getD x [])] 9)) (dy B));refine av _ _ ?_;clear av PE;simp only[OE,OH];go_wp2_with (refine hU jx rfl rfl rfl (dR G.out) rfl aJ.out (m:=1) (news:=[aH ((x:Int)+1)]) rfl (n8 _) (by omega) ⟨V _,G.out.1.size⟩ (by simp) (by simp) ?_;intro v2 W9 j dv K;obtain⟨A8,c8,e8,_⟩:=cO j.2.2.head;dsimp only at e8;subst e8;have bM:=O (aw j);have cE:=O (λB=>dt (cI.out B) (K B));have y1:=j.2.1.tail.head.cell 0;have y2:=j.2.1.tail.tail.head.cell 0;have kU:=j.2.1.tail.head.frozen 0;have rG:=j.2.1.tail.tail.head.frozen 0;clear j dv K)
    refine⟨rfl,?_⟩;gi_wp2_with fail
    have M:= λB=>oI bM.out cE.out B (by rw[HX.out];exact n9 _ (by omega)) (by rw[HX.out];exact oa _ (by omega)) rfl;refine⟨(M _).1,trivial,⟨⟨(OA A5 (Y pre+1) c5,OA A8 (Y pre+1) c8),⟨⟨_,_,_,rfl⟩,⟨_,_,_,rfl⟩⟩,?_⟩⟩⟩;rw[OF];exact(M 0).2
 case done=>
  rintro D xs W hD Hu ⟨⟨⟨v1,v2⟩,_,N⟩⟩ hK;subst Hu;unfold mZ m7 at N;dsimp only at N;rw[List.length_range,show aD.take 10=aD by kernel_rfl,show aN.take 10=aN by kernel_rfl] at N;obtain⟨A,B,c,d,rfl,rfl,hA,hB,hb⟩:=Bw (W:=W) (cs:=aD) (ns:=aN) ⟨N.1,ai _,N.2.2⟩ (by decide) (by kernel_rfl);have CM:=O (pq ob A B c d W hA hB);have HB:=O hb;have y1:=N.2.1.head.cell 0;have y2:=N.2.1.tail.head.cell 0;have HK:=O hK;rw[pi] at CM y1 y2;clear N hA hB hb hK;gi_wp2_with fail
  go_wp2_with (go_at_call 201;refine CM.out.mono ?_;rintro e w' ⟨T,rfl,jY⟩;have gj:=O jY;clear jY)
  have iP:w'.heap[D]? =some (.deferred (some [])):=(gj.out.2.block D (Array.getElem?_eq_some_iff.1 HK.out).1).trans HK.out;refine eo iP (v:=.pointer (some ⟨T,0,none⟩)) (by simp[results,Tryz.results157,go_sem]) ?_;have hs:=HB.out.size;have K3:=(Array.getElem?_eq_some_iff.1 HK.out).1;refine⟨W.heap.size,T,rfl,Ey gj.out.1 iP (λ_ _ h=>by cases h) rfl,cu (HB.out.trans (gj.out.2.mono hs)) (by simp at hD;omega)⟩
 case stop=>
  rintro D cd pre W hD fJ h hK;exact h.elim
theorem FS (A:Option Addr)(n c:Nat)(l:List UInt8)(i:Int)(w:World)(K:Sl w A (l.map ag))(M:Y l=n)(hsz:n<=2 ^ 47)(hi: -9223372036854775808<=i/\i<=9223372036854775807):
  Calls OJ 254 #[OA A n c,.int OC i] w λe w'=>e=OV (OU #[.int OC (ac aD aN l i).1,.int OC (ac aD aN l i).2.1,.int OC (ac aD aN l i).2.2])/\Below w.heap.size w w':=by
 have N:=O K;have Hn:=O M;clear K M
 go_enter Tryz.func254,Tryz.ntmps254
 go_wp2_with (first
  |(go_at_call 157;refine(uA _).mono ?_;rintro e w1 ⟨base,T,rfl,D,B⟩;have I:=O D;have j:=O B;clear D B)
  |(go_at_call 275;refine(ri ob _ base T I.out A n c l i (N.out.below j.out) Hn.out hsz hi).mono ?_;rintro e w2 ⟨rfl,C⟩;have G:=O C;clear C))
 go_ret3;exact⟨rfl,j.out.trans (G.out.mono j.out.size)⟩
theorem D8:aN=(OG (Y aD)).map λi:Nat=>1+(i:Int):=by
 unfold aN;rw[pi];apply List.map_congr_left;intro j _;omega
theorem yR {k:Int}(C: -1000000<=k)(h2:k<=1000000):(Lit.int OC k).wf=true:=by
 have j:Oa.min= -9223372036854775808:=by kernel_rfl
 have B:Oa.max=9223372036854775807:=by kernel_rfl
 simp[Lit.wf,j,B];omega
theorem Ca {k:Int}(h:eT k=true):(cK aD aN k).getD []=eM k/\(cK aD aN k).isSome=true:=by
 simp only[eT,OO,decide_eq_true_eq] at h;rw[D8,o8];unfold eM eh;refine⟨rfl,?_⟩;rw[if_neg (by omega),List.getElem?_eq_getElem (by rw[pi];omega)];rfl
theorem FT (k:Int)(w:World)(h:eT k=true):Calls OJ 107 #[.int OC k] w λe w'=>e=OV (OU #[.string (bs (eM k)),.int OC 0])/\Below w.heap.size w w':=by
 have K:=Ca h;simp only[eT,OO,decide_eq_true_eq] at h;obtain⟨h1,h2⟩:=h;have M:=O (λW base T N=>xV ob W base T N k (yR (by omega) (by omega)));rw[K.1,K.2] at M;clear K
 go_enter Tryz.func107,Tryz.ntmps107
 go_wp2_with (first
  |(go_at_call 157;refine(uA _).mono ?_;rintro e w1 ⟨base,T,rfl,D,B⟩;have I:=O D;have j:=O B;clear D B)
  |(go_at_call 158;refine(M.out _ base T I.out).mono ?_;rintro e w2 ⟨rfl,C⟩;have G:=O C;clear C))
 go_ret2;exact⟨rfl,j.out.trans (G.out.mono j.out.size)⟩
end
section
open Go Go.RowKit
set_option maxHeartbeats 16000000
open Go.IntKind renaming i64→O
open Go.Value renaming int→U,bool→Z,slice→OM
open Go.Obj renaming cells→V
open Go.Lib renaming hid→Y
open Nat renaming le_refl→X,le_trans→OO
open Tryz renaming ntmps105→J,func105→OA,prog→OE,ntmps126→OH,func126→OK,underlying102→OL,ntmps64→OP,func64→OQ
open Bool renaming false_and→OB,and_false→OC,true_and→OG
open List renaming setIfInBounds_toArray→OD,set_cons_succ→OI,set_cons_zero→OJ
open Go.Ending renaming returned→OF
open Go.Proofs.YthhijgcfbjcgiaaGreatDoor.bY renaming take→ON
def dY (x:bA):Value:=.agg #[U O x.ad,Z x.had,U O x.x,U O x.y]
def dU (m:aX) (A:Option Addr) (n c:Nat):Value:=.agg #[U O m.ad,U O m.kd,U O m.qu,U O m.x,U O m.y,U O m.pa,OM A n c]
theorem eB (n:Int)(w:World):Calls OE 126 #[U O n] w λe w'=>e=OF (Z (aA n))/\w=w':=by
 by_cases a: -15<=n
 ·have a1:decide (-15<=n)=true:=decide_eq_true a
  by_cases b:n<=15
  ·have B:decide (n<=15)=true:=decide_eq_true b
   have j:aA n=true:=(by simp[aA,a,b]);rw[j];clear j
   go_enter OK,OH
   go_wp2
   go_ret;exact⟨rfl,rfl⟩
  ·have B:decide (n<=15)=false:=decide_eq_false b
   have j:aA n=false:=(by simp[aA];omega);rw[j];clear j
   go_enter OK,OH
   go_wp2
   go_ret;exact⟨rfl,rfl⟩
 ·have a1:decide (-15<=n)=false:=decide_eq_false a
  have j:aA n=false:=(by simp[aA];omega);rw[j];clear j
  go_enter OK,OH
  go_wp2
  go_ret;exact⟨rfl,rfl⟩
theorem qK (x:bA)(ad:Int)(w:World):Calls OE 105 #[dY x,U O ad] w λe w'=>e=OF (Z (da x ad))/\Below w.heap.size w w':=by
 obtain⟨a,had,p,q⟩:=x;unfold da dY;dsimp only
 cases j:decide (0<=a) with
 |false=>
  simp only[OB]
  go_enter OA,J
  go_wp2_with (go_at_call 126;refine(eB _ _).mono ?_;rintro e w' ⟨rfl,rfl⟩)
  go_ret;exact⟨rfl,(Below.refl _ _).alloc (X _) _⟩
 |true=>
  cases B:decide (a<ad) with
  |false=>
   simp only[OB,OC]
   go_enter OA,J
   go_wp2_with (go_at_call 126;refine(eB _ _).mono ?_;rintro e w' ⟨rfl,rfl⟩)
   go_ret;exact⟨rfl,(Below.refl _ _).alloc (X _) _⟩
  |true=>
   cases C:aA p with
   |false=>
    simp only[OB,OC,OG]
    go_enter OA,J
    go_wp2_with (go_at_call 126;refine(eB _ _).mono ?_;rintro e w' ⟨rfl,rfl⟩)
    go_ret;exact⟨rfl,(Below.refl _ _).alloc (X _) _⟩
   |true=>
    cases D:aA q with
    |false=>
     simp only[OB,OC,OG]
     go_enter OA,J
     go_wp2_with (go_at_call 126;refine(eB _ _).mono ?_;rintro e w' ⟨rfl,rfl⟩)
     go_ret;exact⟨rfl,(Below.refl _ _).alloc (X _) _⟩
    |true=>
     simp only[OG]
     cases had with
     |true=>
      simp only[Bool.true_or]
      go_enter OA,J
      go_wp2_with (go_at_call 126;refine(eB _ _).mono ?_;rintro e w' ⟨rfl,rfl⟩)
      go_ret;exact⟨rfl,(Below.refl _ _).alloc (X _) _⟩
     |false=>
      simp only[Bool.false_or]
      cases G:(p==0) with
      |false=>
       simp only[OB]
       go_enter OA,J
       go_wp2_with (go_at_call 126;refine(eB _ _).mono ?_;rintro e w' ⟨rfl,rfl⟩)
       go_ret;exact⟨rfl,(Below.refl _ _).alloc (X _) _⟩
      |true=>
       cases I:(q==0) with
       |false=>
        simp only[OC]
        go_enter OA,J
        go_wp2_with (go_at_call 126;refine(eB _ _).mono ?_;rintro e w' ⟨rfl,rfl⟩)
        go_ret;exact⟨rfl,(Below.refl _ _).alloc (X _) _⟩
       |true=>
        simp only[Bool.and_self]
        go_enter OA,J
        go_wp2_with (go_at_call 126;refine(eB _ _).mono ?_;rintro e w' ⟨rfl,rfl⟩)
        go_ret;exact⟨rfl,(Below.refl _ _).alloc (X _) _⟩
theorem mP (x:bA)(ad:Int)(w:World)(h:0<=x.ad)(h2:x.ad<ad)(j:ad<=100):Calls OE 108 #[dY x,U O ad] w λe w'=>e=OF (.tuple #[U O (cZ ad (ad - x.ad) x.had x.x x.y).1,U O (cZ ad (ad - x.ad) x.had x.x x.y).2])/\Below w.heap.size w w':=by
 obtain⟨a,had,p,q⟩:=x;unfold dY;dsimp only at h h2⊢
 go_enter Tryz.func108,Tryz.ntmps108
 go_wp2_with (go_at_call 159;refine(tP _ _ _ _ _ _).mono ?_;rintro e w' ⟨rfl,rfl⟩)
 go_ret2;exact⟨rfl,(Below.refl _ _).alloc (X _) _⟩
theorem qL (j to:Int)(w:World)(B:aA j=true)(h2:aA to=true):Calls OE 110 #[U O j,U O to] w λe w'=>e=OF (.string (bs (fA j to)))/\w=w':=by
 have C:=Y (λW=>Ay j to W B h2);have hd:=fU j to;have D:=Y (λW=>Dp (cY j to) W hd.1 hd.2);unfold fA;clear B h2 hd
 go_enter Tryz.func110,Tryz.ntmps110
 go_wp2_with (first
  |(go_at_call 161;refine(C.out _).mono ?_;rintro e w' ⟨rfl,rfl⟩)
  |(go_at_call 162;refine(D.out _).mono ?_;rintro e w' ⟨rfl,rfl⟩))
 go_ret;exact⟨rfl,rfl⟩
theorem JV (k:Int):∃a b d e,ld k=[Z a,Z b,Z (pV k),Z d,Z e]:=by
 unfold ld
 split
 ·exact⟨pI k,pQ k,pF k,pC k,rfl⟩
 ·rename_i h
  have:pV k=false:=by
   cases j:pV k with
   |false=>rfl
   |true=>
    simp[pV,eT] at j h;omega
  rw[this];exact⟨false,false,false,false,rfl⟩
set_option maxRecDepth 100000 in
theorem qI (m:aX)(A:Option Addr)(n c:Nat)(w:World):Calls OE 64 #[dU m A n c] w λe w'=>e=OF (dY (dT m))/\Below w.heap.size w w':=by
 obtain⟨a,b,d,e,hv⟩:=JV m.kd;have CO:=Y (λW=>nE m.kd W);rw[hv] at CO;obtain⟨ee,bM⟩:∃ee,mR m.kd=ee:=⟨_,rfl⟩;rw[bM] at CO;unfold dU dY dT;obtain⟨ad,kd,qu,x,y,pa,bl⟩:=m;dsimp only at CO⊢;clear hv bM;have hM:ab (((w.alloc (V #[U O ad,U O kd,U O qu,U O x,U O y,U O pa,OM A n c] 55)).alloc (V #[U O 0,Z false,U O 0,U O 0] 102)).alloc (V #[U O ad,Z false,U O 0,U O 0] 102)) w.heap.size 55 #[U O ad,U O kd,U O qu,U O x,U O y,U O pa,OM A n c]:=((ab.new w _ _).alloc _).alloc _;have hR:ab (((w.alloc (V #[U O ad,U O kd,U O qu,U O x,U O y,U O pa,OM A n c] 55)).alloc (V #[U O 0,Z false,U O 0,U O 0] 102)).alloc (V #[U O ad,Z false,U O 0,U O 0] 102)) (w.heap.size+1) 102 #[U O 0,Z false,U O 0,U O 0]:=(aE (ab.new _ _ _) (by simp)).alloc _;have hL:ab (((w.alloc (V #[U O ad,U O kd,U O qu,U O x,U O y,U O pa,OM A n c] 55)).alloc (V #[U O 0,Z false,U O 0,U O 0] 102)).alloc (V #[U O ad,Z false,U O 0,U O 0] 102)) (w.heap.size+1+1) 102 #[U O ad,Z false,U O 0,U O 0]:=aE (ab.new _ _ _) (by simp);have aJ:Below w.heap.size w (((w.alloc (V #[U O ad,U O kd,U O qu,U O x,U O y,U O pa,OM A n c] 55)).alloc (V #[U O 0,Z false,U O 0,U O 0] 102)).alloc (V #[U O ad,Z false,U O 0,U O 0] 102)):=(((Below.refl _ _).alloc (X _) _).alloc (by simp) _).alloc (by simp;omega) _;have HM:=Y hM;have HR:=Y hR;have HL:=Y hL;have G:=Y aJ;clear hM hR hL aJ
 cases hp:pV kd with
 |false=>
  rw[hp] at CO;simp only[Bool.false_eq_true,if_false]
  go_enter OQ,OP
  go_wp2_with (go_at_call 106;refine(CO.out _).mono ?_;rintro e1 w2 ⟨rfl,j⟩;have M:Below w.heap.size w (w2.alloc (V #[Z a,Z b,Z false,Z d,Z e] 110)):=(G.out.trans (j.mono G.out.size)).alloc (OO G.out.size j.size) _;have zm:=(HM.out.below j HM.out.lt).alloc (V #[Z a,Z b,Z false,Z d,Z e] 110);have C:=(HR.out.below j HR.out.lt).alloc (V #[Z a,Z b,Z false,Z d,Z e] 110);have D:=(HL.out.below j HL.out.lt).alloc (V #[Z a,Z b,Z false,Z d,Z e] 110);have m3:=zm.cell 3;have m4:=zm.cell 4;have l0:=D.cell 0;have l1:=D.cell 1;have l2:=D.cell 2;have l3:=D.cell 3;have k1:=D.frozen 1;have k2:=D.frozen 2;have k3:=D.frozen 3;have r0:=C.cell 0;have r1:=C.cell 1;have r2:=C.cell 2;have r3:=C.cell 3;have q0:=C.frozen 0;have q1:=C.frozen 1;have q2:=C.frozen 2;have q3:=C.frozen 3;have ZL:=Y D;have ZR:=Y C;have N:=Y M;clear j zm C D M)
  have zf:=(((ZR.out.set_ 0 (U O ad)).set_ 1 (Z false)).set_ 2 (U O 0)).set_ 3 (U O 0);refine bodyPost_ret (results_cell_row (cs:= #[U O ad,Z false,U O 0,U O 0]) rfl _ _ (w.heap.size+1) 102 (0,0) _ rfl zf OL rfl (by kernel_rfl)) rfl ?_;exact⟨rfl,(((N.out.setCell (p:=⟨w.heap.size+1,0,none⟩) (by show w.heap.size<=_;simp) _).setCell (p:=⟨w.heap.size+1,1,none⟩) (by show w.heap.size<=_;simp) _).setCell (p:=⟨w.heap.size+1,2,none⟩) (by show w.heap.size<=_;simp) _).setCell (p:=⟨w.heap.size+1,3,none⟩) (by show w.heap.size<=_;simp) _⟩
 |true=>
  rw[hp] at CO;simp only[if_true]
  go_enter OQ,OP
  go_wp2_with (go_at_call 106;refine(CO.out _).mono ?_;rintro e1 w2 ⟨rfl,j⟩;have M:Below w.heap.size w (w2.alloc (V #[Z a,Z b,Z true,Z d,Z e] 110)):=(G.out.trans (j.mono G.out.size)).alloc (OO G.out.size j.size) _;have zm:=(HM.out.below j HM.out.lt).alloc (V #[Z a,Z b,Z true,Z d,Z e] 110);have C:=(HR.out.below j HR.out.lt).alloc (V #[Z a,Z b,Z true,Z d,Z e] 110);have D:=(HL.out.below j HL.out.lt).alloc (V #[Z a,Z b,Z true,Z d,Z e] 110);have m3:=zm.cell 3;have m4:=zm.cell 4;have l0:=D.cell 0;have l1:=D.cell 1;have l2:=D.cell 2;have l3:=D.cell 3;have k1:=D.frozen 1;have k2:=D.frozen 2;have k3:=D.frozen 3;have r0:=C.cell 0;have r1:=C.cell 1;have r2:=C.cell 2;have r3:=C.cell 3;have q0:=C.frozen 0;have q1:=C.frozen 1;have q2:=C.frozen 2;have q3:=C.frozen 3;have ZL:=Y D;have ZR:=Y C;have N:=Y M;clear j zm C D M)
  generalize w2.alloc (V #[Z a,Z b,Z true,Z d,Z e] 110)=W3 at m3 m4 l0 l1 l2 l3 k1 k2 k3 r0 r1 r2 r3 q0 q1 q2 q3 ZL ZR N⊢;refine aP (λw'=>w'.cell? ⟨w.heap.size,3,none⟩=some (U O x)/\w'.cell? ⟨w.heap.size,4,none⟩=some (U O y)) 8 (ON 0 (ON 1 (ON 2 (ON 3 (ON 4 (.step 5 (ON 6 (.step 7 .done)))))))) (⟨m3,m4⟩) (λPE av=>?_)
  iterate 5
   refine af (v:=?_) rfl (by rfl) ?_ ?_
   rotate_left
   ·intro _ K;(try dsimp only at K);obtain⟨s0,s1⟩:=K;go_simp;(try with_reducible rfl)
   simp only[OD,OJ,OI]
  refine bD _ (w':=?_) rfl (by rfl) ?_ ?_ ?_;rotate_left 1
  ·go_simp;(first|(with_reducible rfl)|(constructor<;>with_reducible rfl)|skip)
  ·constructor<;>go_simp
  refine af (v:=?_) rfl (by rfl) ?_ ?_;rotate_left
  ·intro _ K;(try dsimp only at K);obtain⟨s0,s1⟩:=K;go_simp;(try with_reducible rfl)
  simp only[OD,OJ,OI];refine bD _ (w':=?_) rfl (by rfl) ?_ ?_ ?_;rotate_left 1
  ·go_simp;(first|(with_reducible rfl)|(constructor<;>with_reducible rfl)|skip)
  ·constructor<;>go_simp
  refine av _ _ ?_;clear av PE;simp only[List.drop_succ_cons,List.drop_zero];go_wp2_with fail
  refine⟨rfl,?_⟩;have I:=Y (((ZL.out.set_ 1 (Z true)).set_ 2 (U O x)).set_ 3 (U O y)).drew1;have B:=Y (((ZR.out.far (p:=⟨w.heap.size+1+1,1,none⟩) (by simp) (Z true)).far (p:=⟨w.heap.size+1+1,2,none⟩) (by simp) (U O x)).far (p:=⟨w.heap.size+1+1,3,none⟩) (by simp) (U O y)).drew1;have T:=Y (((N.out.setCell (p:=⟨w.heap.size+1+1,1,none⟩) (by show w.heap.size<=_;simp;omega) (Z true)).setCell (p:=⟨w.heap.size+1+1,2,none⟩) (by show w.heap.size<=_;simp;omega) (U O x)).setCell (p:=⟨w.heap.size+1+1,3,none⟩) (by show w.heap.size<=_;simp;omega) (U O y)).drew;generalize (((W3.setCell ⟨w.heap.size+1+1,1,none⟩ (Z true)).setCell ⟨w.heap.size+1+1,2,none⟩ (U O x)).setCell ⟨w.heap.size+1+1,3,none⟩ (U O y)).drew=W4 at I B T⊢;clear m3 m4 l0 l1 l2 l3 k1 k2 k3 r0 r1 r2 r3 q0 q1 q2 q3;have l0:W4.cell? ⟨w.heap.size+1+1,0,none⟩=some (U O ad):=(by rw[I.out.cell];rfl);have l1:W4.cell? ⟨w.heap.size+1+1,1,none⟩=some (Z true):=(by rw[I.out.cell];rfl);have l2:W4.cell? ⟨w.heap.size+1+1,2,none⟩=some (U O x):=(by rw[I.out.cell];rfl);have l3:W4.cell? ⟨w.heap.size+1+1,3,none⟩=some (U O y):=(by rw[I.out.cell];rfl);have r0:=B.out.cell 0;have r1:=B.out.cell 1;have r2:=B.out.cell 2;have r3:=B.out.cell 3;have q0:=B.out.frozen 0;have q1:=B.out.frozen 1;have q2:=B.out.frozen 2;have q3:=B.out.frozen 3;go_wp2_with fail
  have zf:=(((B.out.set_ 0 (U O ad)).set_ 1 (Z true)).set_ 2 (U O x)).set_ 3 (U O y);refine bodyPost_ret (results_cell_row (cs:= #[U O ad,Z true,U O x,U O y]) rfl _ _ (w.heap.size+1) 102 (0,0) _ rfl zf OL rfl (by kernel_rfl)) rfl ?_;exact⟨rfl,(((T.out.setCell (p:=⟨w.heap.size+1,0,none⟩) (by show w.heap.size<=_;simp) _).setCell (p:=⟨w.heap.size+1,1,none⟩) (by show w.heap.size<=_;simp) _).setCell (p:=⟨w.heap.size+1,2,none⟩) (by show w.heap.size<=_;simp) _).setCell (p:=⟨w.heap.size+1,3,none⟩) (by show w.heap.size<=_;simp) _⟩
end
section
open Go Go.RowKit
attribute [local go_sem] Oper.semAt_some
set_option maxRecDepth 100000
open Go.Lib renaming hid→O
open Go.Value renaming bool→U,slice→Y,int→OA,pointer→OF
open List renaming length→Z,getElem_mem→V,any_eq_true→X
open Go.IntKind renaming i64→J
open Tryz renaming prog→OB,ntmps128→OD,func128→OE
open Go.Ending renaming returned→OC
abbrev dB:Type:=bH×Option Addr×Nat
def ia (p:dB):List Value:=[OA J p.1.dc,Y p.2.1 p.1.l.length p.2.2]
theorem th (p:dB):(ia p).length=2:=rfl
structure ja (W:World) (A:Option Addr) (xs:List dB):Prop where
 row:Sl W A (az ia xs)
 bl:∀p∈xs,Sl W p.2.1 (az bd p.1.l)
 len:Z xs<=64
 lens:∀p∈xs,p.1.l.length<=1000
theorem ja.below {W j:World}{A:Option Addr}{xs:List dB}(h:ja W A xs){B:Nat}(D:Below B W j)(C:W.heap.size<=B):ja j A xs:=
 ⟨h.row.below (D.mono C),λp G=>(h.bl p G).below (D.mono C),h.len,h.lens⟩
theorem jL {w:World}{A:Option Addr}{xs:List dB}(h:Sl w A (az ia xs))(i:Nat)(B:i<Z xs):∃ad,A=some ad/\ad.block<w.heap.size/\w.cell? (ad.add (i*2))=some (OA J xs[i].1.dc)/\w.cell? ⟨(ad.add (i*2)).block,(ad.add (i*2)).off+1,none⟩=some (Y xs[i].2.1 xs[i].1.l.length xs[i].2.2):=by
 have j:=iz th xs i B 0 (by decide);have D:=iz th xs i B 1 (by decide);rw[Nat.add_zero] at j;obtain⟨ad,rfl,hl,c0⟩:=h _ _ (j.trans rfl);obtain⟨C,e,_,c1⟩:=h _ _ (D.trans rfl)
 cases e
 rw[<-ij] at c1;exact⟨ad,rfl,hl,c0,c1⟩
def kS (intra:Bool) (p:dB):Bool:=bP p.1 intra !=0
theorem y9 (g:Nat)(x:bH)(A:Option Addr)(n c:Nat)(G b1 b2 b3 b4:Bool)(w:World)(M:ab w g 110 #[U G,U b1,U b2,U b3,U b4])(K:Sl w A (az bd x.l))(N:Z x.l=n)(hsz:n<=1000):
  Calls OB 129 #[.agg #[OA J x.dc,Y A n c],OF (some ⟨g,0,none⟩)] w λe w'=>e=OC (U (bP x G !=0))/\Below w.heap.size w w':=by
 have j:Below w.heap.size w (w.alloc (.cells #[OA J x.dc,Y A n c] 93)):=(Below.refl _ _).alloc (Nat.le_refl _) _;have C:=O (λW hW=>qB x A n c G W hW N (by omega));have HS:=O (K.below j);have B:=O j;have hz:=M.alloc (.cells #[OA J x.dc,Y A n c] 93);have z0:=hz.cell 0;obtain⟨r,T⟩:∃r,bP x G=r:=⟨_,rfl⟩;rw[T] at C⊢;clear M K N j T hz
 go_enter Tryz.func129,Tryz.ntmps129
 go_wp2_with (go_at_call 130;refine(C.out _ HS.out).mono ?_;rintro e w2 ⟨rfl,D⟩;have I:=O D;clear D)
 go_ret;exact⟨rfl,B.out.trans (I.out.mono B.out.size)⟩
theorem zk (A:Option Addr)(c:Nat)(xs:List dB)(g:Nat)(C b1 b2 b3 b4:Bool)(w:World)(hA:ja w A xs)(hg:ab w g 110 #[U C,U b1,U b2,U b3,U b4]):
  Calls OB 175 #[Y A (Z xs) c,.func (.func 129) #[] #[OF (some ⟨g,0,none⟩)]] w λe w'=>e=OC (OA J (if xs.any (kS C) then((xs.findIdx (kS C):Nat):Int) else -1))/\Below w.heap.size w w':=by
 have HA:=O hA;have HG:=O hg;have bM:=hA.len;clear hA hg;obtain⟨n,hn⟩:∃n,Z xs=n:=⟨_,rfl⟩;rw[hn] at bM⊢;have HN:=O hn;obtain⟨K,I⟩:∃K:Int,(if xs.any (kS C) then((xs.findIdx (kS C):Nat):Int) else -1)=K:=⟨_,rfl⟩;rw[I];have N:=O I;clear hn I
 go_enter Tryz.func175,Tryz.ntmps175
 go_wp2_with fail
 go_loopg [8] n (λg i=> λwr=>∃(j:Nat),j+g=n/\i=OA J (j:Int)/\Hid (∀k (h:k<Z xs),k<j->kS C xs[k]=false)/\Hid (Below w.heap.size w wr))
 case atStart=>exact⟨0,by omega,rfl,O (λk h h2=>by omega),O (Below.refl _ _)⟩
 case round=>
  obtain⟨j,hj,rfl,HJ,M⟩:=hrel
  cases gk with
  |zero=>
   have cI:¬((j:Int)<(n:Int)):=by omega
   have av:K= -1:=by
    rw[<-N.out,if_neg];rw[X];rintro⟨p,hp,hb⟩;obtain⟨k,hk,rfl⟩:=List.getElem_of_mem hp;rw[HJ.out k hk (by have:=HN.out;omega)] at hb
    cases hb
   subst av;go_wp2_with fail
   go_ret;exact⟨rfl,M.out⟩
  |succ g=>
   have cI:((j:Int)<(n:Int)):=(by omega);have G:j<(Z xs):=(by rw[HN.out];omega);obtain⟨ad,rfl,_,c0,c1⟩:=jL (HA.out.row.below M.out) j G;have hC:=y9 _ xs[j].1 xs[j].2.1 xs[j].1.l.length xs[j].2.2 C b1 b2 b3 b4 wr (HG.out.below M.out HG.out.lt) ((HA.out.bl _ (V G)).below M.out) rfl (HA.out.lens _ (V G));have B:kS C xs[j]=(bP xs[j].1 C !=0):=rfl;have dv:IntKind.i64.wrap ((j:Int)+1)=(j:Int)+1:=by rw[IntKind.wrap_i64];omega
   cases hb:(bP xs[j].1 C !=0) with
   |true=>
    rw[hb] at hC B
    have av:K=(j:Int):=by
     rw[<-N.out,if_pos]
     ·congr 1
      have h1:xs.findIdx (kS C)=j:=by
       rw[List.findIdx_eq G];exact⟨B,λk hk=>HJ.out k (by omega) hk⟩
      rw[h1]
     ·rw[X];exact⟨xs[j],V G,B⟩
    subst av;have HC:=O hC;clear hC B hb hj;go_wp2_with (go_at_call 129;refine HC.out.mono ?_;rintro e w2 ⟨rfl,D⟩;have T:=O D;clear D)
    go_ret;exact⟨rfl,M.out.trans (T.out.mono M.out.size)⟩
   |false=>
    rw[hb] at hC B;have HC:=O hC;have aJ:=O B;have cE:=O hj;clear hC B hb hj;go_wp2_with (go_at_call 129;refine HC.out.mono ?_;rintro e w2 ⟨rfl,D⟩;have T:=O D;clear D)
    go_roundg g
    case measure=>omega
    case rel=>
     refine⟨j+1,by have:=cE.out;omega,rfl,O λk h hk=>?_,O (M.out.trans (T.out.mono M.out.size))⟩;rcases Nat.lt_or_ge k j with h1|h1
     ·exact HJ.out k h h1
     ·obtain rfl:k=j:=by omega
      exact aJ.out
theorem tj (A:Option Addr)(c:Nat)(xs:List dB)(g:Nat)(D I K M N:Bool)(w:World)(T:ja w A xs)(hg:ab w g 110 #[U D,U I,U K,U M,U N]):
  Calls OB 128 #[Y A (Z xs) c,.func (.func 129) #[] #[OF (some ⟨g,0,none⟩)]] w λe w'=>e=OC (U (xs.any (kS D)))/\Below w.heap.size w w':=by
 have C:=O (zk A c xs g D I K M N w T hg);clear T hg;generalize (Z xs)=n at C⊢;generalize xs.findIdx (kS D)=k at C
 cases G:xs.any (kS D) with
 |true=>
  rw[G,if_pos rfl] at C;have hk:(0:Int)<=(k:Int):=(by omega);clear G
  go_enter OE,OD
  go_wp2_with (go_at_call 175;refine C.out.mono ?_;rintro e w2 ⟨rfl,j⟩;have B:=O j;clear j)
  go_ret;exact⟨rfl,B.out⟩
 |false=>
  rw[G,if_neg (by decide)] at C;clear G
  go_enter OE,OD
  go_wp2_with (go_at_call 175;refine C.out.mono ?_;rintro e w2 ⟨rfl,j⟩;have B:=O j;clear j)
  go_ret;exact⟨rfl,B.out⟩
end
open Go Go.RowKit
open List renaming length→O
open Go.IntKind renaming i64→U
open Go.Value renaming int→Z,slice→V
open Nat renaming le_refl→Y
theorem dr {B g:Nat}{w w':World}(h:Below B w w')(j:w.heap.size<=B):w.grownBy w' (some g):=⟨h.os,h.tape,h.output,h.size,λk C _=>h.block k (by omega)⟩
theorem tr (w:World)(g:Nat):w.grownBy w (some g):=dr (Below.refl _ _) (Y _)
theorem gY (w:World)(g i:Nat)(v:Value):w.grownBy (w.setCell ⟨g,i,none⟩ v) (some g):=⟨rfl,rfl,rfl,by simp[World.setCell],λk _ j=>Below.heap_setCell w ⟨g,i,none⟩ v k (λe=>j (by rw[e]))⟩
theorem FM (w:World)(g:Nat)(o:Obj):w.grownBy (w.alloc o) (some g):=dr ((Below.refl _ _).alloc (Y _) o) (Y _)
theorem rU {B g:Nat}{a w w':World}(h:Below B a w)(D:w.grownBy w' (some g))(j:B<=w.heap.size)(C:B<=g):Below B a w':=h.grown D j (λk e=>by cases e;exact C)
theorem rT {g:Nat}{t:TypeId}{cs:Array Value}{w w':World}{base e size n:Nat}{v:Value}{xs:List Value}(h:w.ownsRow base e size v n xs)(C:w.grownBy w' (some g))(B:ab w g t cs)(j:e≠t):w'.ownsRow base e size v n xs:=
 h.kept C (.inr (ba h B j))
structure ei where
 m:aX
 xs:List dB
 A:Option Addr
 c:Nat
def eX (p:ei):List Value:=[Z U p.m.ad,Z U p.m.kd,Z U p.m.qu,Z U p.m.x,Z U p.m.y,Z U p.m.pa,V p.A (O p.xs) p.c]
theorem xy (p:ei):(eX p).length=7:=rfl
structure lk (W:World) (p:ei):Prop where
 e:p.m.bl=p.xs.map (·.1)
 row:Sl W p.A (az ia p.xs)
 bl:∀b∈p.xs,Sl W b.2.1 (az bd b.1.l)
def wi (p:ei):Prop:=O p.xs<=64/\∀b∈p.xs,b.1.l.length<=1000
theorem lk.below {W j:World}{p:ei}(h:lk W p)(B:Below W.heap.size W j):lk j p:=⟨h.e,h.row.below B,λb C=>(h.bl b C).below B⟩
theorem lk.bks {W:World}{p:ei}(h:lk W p)(j:wi p):ja W p.A p.xs:=⟨h.row,h.bl,j.1,j.2⟩
structure cQ where
 num:Int
 qu:Int
 sp:List UInt8
 sA:Option Addr
 sc:Nat
 ms:List ei
 A:Option Addr
 c:Nat
def cQ.g (p:cQ):hZ:=⟨p.num,p.qu,p.sp,p.ms.map (·.m)⟩
def fV (p:cQ):List Value:=[Z U p.num,Z U p.qu,V p.sA (O p.sp) p.sc,V p.A (O p.ms) p.c]
theorem xd (p:cQ):(fV p).length=4:=rfl
structure km (W:World) (p:cQ):Prop where
 sp:Sl W p.sA (p.sp.map ag)
 row:Sl W p.A (az eX p.ms)
 ms:∀m∈p.ms,lk W m
def ra (p:cQ):Prop:=O p.sp<=1000/\O p.ms<=9223372036854775807/\∀m∈p.ms,wi m
theorem km.below {W B:World}{p:cQ}(h:km W p)(j:Below W.heap.size W B):km B p:=⟨h.sp.below j,h.row.below j,λm C=>(h.ms m C).below j⟩
structure a8 where
 tm:Int
 ty:Int
 sp:List UInt8
 sA:Option Addr
 sc:Nat
 gs:List cQ
 A:Option Addr
 c:Nat
def a8.s (p:a8):ez:=⟨⟨p.tm,p.ty,p.sp⟩,p.gs.map (·.g)⟩
def eu (p:a8):List Value:=[Z U p.tm,Z U p.ty,V p.sA (O p.sp) p.sc,V p.A (O p.gs) p.c]
theorem yj (p:a8):(eu p).length=4:=rfl
structure fo (W:World) (p:a8):Prop where
 sp:Sl W p.sA (p.sp.map ag)
 row:Sl W p.A (az fV p.gs)
 gs:∀g∈p.gs,km W g
def eF (p:a8):Prop:=O p.sp<=1000/\O p.gs<=100/\∀g∈p.gs,ra g
theorem fo.below {W B:World}{p:a8}(h:fo W p)(j:Below W.heap.size W B):fo B p:=⟨h.sp.below j,h.row.below j,λm C=>(h.gs m C).below j⟩
structure eV (W:World) (A:Option Addr) (ss:List a8):Prop where
 row:Sl W A (az eu ss)
 sh:∀s∈ss,fo W s
theorem eV.below {W j:World}{A:Option Addr}{C:List a8}(h:eV W A C)(B:Below W.heap.size W j):eV j A C:=⟨h.row.below B,λm D=>(h.sh m D).below B⟩
theorem tM {α:Type}{f:α->List Value}{k:Nat}(B:∀x,(f x).length=k) {w:World} {A:Option Addr} {xs:List α} (h:Sl w A (az f xs)) (i:Nat) (D:i<O xs) (G:0<k):
  ∃ad,A=some ad/\ad.block<w.heap.size/\∀j v,(f xs[i])[j]? =some v->w.cell? ((ad.add (i*k)).add j)=some v:=by
 have M:=iz B xs i D 0 G;obtain⟨v0,C⟩:∃v,(f xs[i])[0]? =some v:=⟨_,List.getElem?_eq_getElem (by rw[B xs[i]];exact G)⟩;obtain⟨ad,rfl,hl,_⟩:=h _ _ (M.trans C);refine⟨ad,rfl,hl,λj v I=>?_⟩
 have T:j<k:=by
  have:=(List.getElem?_eq_some_iff.1 I).1
  rwa [B] at this
 obtain⟨K,e,_,N⟩:=h _ _ ((iz B xs i D j T).trans I)
 cases e
 rw[ij];exact N
theorem iC {w:World}{A:Option Addr}{xs:List a8}(h:Sl w A (az eu xs))(i:Nat)(B:i<O xs):∃ad,A=some ad/\ad.block<w.heap.size/\w.cell? (ad.add (i*4))=some (Z U xs[i].tm)/\w.cell? ⟨(ad.add (i*4)).block,(ad.add (i*4)).off+1,none⟩=some (Z U xs[i].ty)/\
  w.cell? ⟨(ad.add (i*4)).block,(ad.add (i*4)).off+2,none⟩=some (V xs[i].sA xs[i].sp.length xs[i].sc)/\w.cell? ⟨(ad.add (i*4)).block,(ad.add (i*4)).off+3,none⟩=some (V xs[i].A xs[i].gs.length xs[i].c):=by
 obtain⟨ad,rfl,hl,j⟩:=tM yj h i B (by decide);exact⟨ad,rfl,hl,j 0 _ rfl,j 1 _ rfl,j 2 _ rfl,j 3 _ rfl⟩
theorem jM {w:World}{A:Option Addr}{xs:List cQ}(h:Sl w A (az fV xs))(i:Nat)(B:i<O xs):∃ad,A=some ad/\ad.block<w.heap.size/\w.cell? (ad.add (i*4))=some (Z U xs[i].num)/\w.cell? ⟨(ad.add (i*4)).block,(ad.add (i*4)).off+1,none⟩=some (Z U xs[i].qu)/\
  w.cell? ⟨(ad.add (i*4)).block,(ad.add (i*4)).off+2,none⟩=some (V xs[i].sA xs[i].sp.length xs[i].sc)/\w.cell? ⟨(ad.add (i*4)).block,(ad.add (i*4)).off+3,none⟩=some (V xs[i].A xs[i].ms.length xs[i].c):=by
 obtain⟨ad,rfl,hl,j⟩:=tM xd h i B (by decide);exact⟨ad,rfl,hl,j 0 _ rfl,j 1 _ rfl,j 2 _ rfl,j 3 _ rfl⟩
theorem iB {w:World}{A:Option Addr}{xs:List ei}(h:Sl w A (az eX xs))(i:Nat)(B:i<O xs):∃ad,A=some ad/\ad.block<w.heap.size/\w.cell? (ad.add (i*7))=some (Z U xs[i].m.ad)/\w.cell? ⟨(ad.add (i*7)).block,(ad.add (i*7)).off+1,none⟩=some (Z U xs[i].m.kd)/\
  w.cell? ⟨(ad.add (i*7)).block,(ad.add (i*7)).off+2,none⟩=some (Z U xs[i].m.qu)/\w.cell? ⟨(ad.add (i*7)).block,(ad.add (i*7)).off+3,none⟩=some (Z U xs[i].m.x)/\w.cell? ⟨(ad.add (i*7)).block,(ad.add (i*7)).off+4,none⟩=some (Z U xs[i].m.y)/\
  w.cell? ⟨(ad.add (i*7)).block,(ad.add (i*7)).off+5,none⟩=some (Z U xs[i].m.pa)/\w.cell? ⟨(ad.add (i*7)).block,(ad.add (i*7)).off+6,none⟩=some (V xs[i].A xs[i].xs.length xs[i].c):=by
 obtain⟨ad,rfl,hl,j⟩:=tM xy h i B (by decide);exact⟨ad,rfl,hl,j 0 _ rfl,j 1 _ rfl,j 2 _ rfl,j 3 _ rfl,j 4 _ rfl,j 5 _ rfl,j 6 _ rfl⟩
def fY (p:a8):Value:=.agg #[Z U p.tm,Z U p.ty,V p.sA (O p.sp) p.sc,V p.A (O p.gs) p.c]
def pg (p:cQ):Value:=.agg #[Z U p.num,Z U p.qu,V p.sA (O p.sp) p.sc,V p.A (O p.ms) p.c]
end Go.Proofs.YthhijgcfbjcgiaaGreatDoor
