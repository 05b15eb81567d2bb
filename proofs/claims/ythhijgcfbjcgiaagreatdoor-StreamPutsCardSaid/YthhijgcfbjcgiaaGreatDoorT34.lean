/- Pat -/
import Derived.Test.YthhijgcfbjcgiaaGreatDoorT22
import Derived.Test.YthhijgcfbjcgiaaGreatDoorT20
namespace Go.Proofs.YthhijgcfbjcgiaaGreatDoor
open Go Go.RowKit
attribute [local go_sem] Oper.semAt_some
set_option maxRecDepth 100000
open List renaming length→O,length_append→Y,drop_succ_cons→X,prefix_iff_eq_take→OC,drop_zero→OD,map_append→OG
open Go.Lib renaming hid→U,fields→ON
open Go.Obj renaming cells→Z
open Go.Value renaming slice→V,string→J,int→OK,pointer→OL
open Go.World renaming drew→OA,size_alloc→OB,ownsRow_nil→OF
open Tryz renaming prog→OE
open Go.Proofs.YthhijgcfbjcgiaaGreatDoor.bY renaming take→OH,step→OO
open Go.Ending renaming returned→OI
open Go.IntKind renaming i64→OJ
open Nat renaming le_refl→OM
def kG:List UInt8:=[10,48,49,48,49,49,32,48,49,48,48,49,32,48,48,49,49,48,49,32,49,49,48,49,32,48,48,49,48,49,49,49,32,48,48,49,48,48,49,49,32,48,48,48,49,49,49,49,49,32,49,49,48,48,10,48,48,49,48,49,49,48,32,48,48,49,48,48,49,48,32,48,48,48,49,49,49,49,48,32,49,48,48,49,49,32,48,48,48,49,49,48,49,49,32,48,48,48,49,48,49,49,49,32,48,48,48,49,48,48,49,49,32,49,48,49,49,10,48,48,49,48,49,48,49,32,48,48,49,48,48,48,49,32,48,48,48,49,49,49,48,49,32,49,48,48,48,49,32,48,48,48,49,49,48,48,49,32,48,48,48,49,48,49,48,49,32,48,48,48,49,48,48,48,49,32,48,48,49,49,49,49,10,48,48,48,48,49,49,49,49,32,48,48,48,48,49,49,48,49,32,48,48,48,48,48,48,48,49,49,32,48,49,49,49,49,32,48,48,48,48,49,48,49,49,32,48,48,48,48,48,49,49,49,32,48,48,48,48,48,48,49,49,49,32,49,48,49,48,10,48,48,49,48,49,48,48,32,48,48,49,48,48,48,48,32,48,48,48,49,49,49,48,48,32,48,48,49,49,49,48,32,48,48,48,48,49,49,49,48,32,48,48,48,48,49,49,48,48,32,48,48,48,48,48,48,48,49,48,32,49,48,48,48,48,10,48,48,48,49,49,48,48,48,32,48,48,48,49,48,49,48,48,32,48,48,48,49,48,48,48,48,32,48,49,49,49,48,32,48,48,48,48,49,48,49,48,32,48,48,48,48,48,49,49,48,32,48,48,48,48,48,48,49,49,48,32,49,48,48,49,48,10,48,48,48,49,49,48,49,48,32,48,48,48,49,48,49,49,48,32,48,48,48,49,48,48,49,48,32,48,49,49,48,49,32,48,48,48,48,49,48,48,49,32,48,48,48,48,48,49,48,49,32,48,48,48,48,48,48,49,48,49,32,48,49,49,48,48,10,48,48,48,48,49,48,48,48,32,48,48,48,48,48,49,48,48,32,48,48,48,48,48,48,49,48,48,32,49,49,49,32,48,49,48,49,48,32,48,49,48,48,48,32,48,48,49,49,48,48]
theorem wQ:ON kG=bm:=by kernel_rfl
theorem zd:∀c∈kG,c.toNat<128:=by decide+kernel
theorem DR:O kG<=100000:=by decide+kernel
theorem Ep (j:Nat)(h:j<63):bO.take (j+1)=bO.take j++[(j:Int)+1]:=by revert j;decide+kernel
theorem Gg {cs pre:List (List UInt8)}{x:List UInt8}(h:pre++[x]<+:cs):O pre<O cs/\cs.take (O pre)=pre/\cs.take (O pre+1)=cs.take (O pre)++[x]:=by
 have B:=h.length_le;simp at B;have h2:cs.take (O pre)=pre:=(OC.1 ((List.prefix_append _ _).trans h)).symm;have j:=OC.1 h;rw[Y,List.length_singleton] at j;exact⟨by omega,h2,by rw[<-j,h2]⟩
theorem nv {w W G:World}{cs:List (List UInt8)}{ns:List Int}{j n1 n2 c1 c2:Nat}{c:List UInt8}{k:Int}{C D:Option Addr}{T o2:Value}{I:Array Value}
  (M:ay w [(w.heap.size,138,#[T]),(w.heap.size+1,61,#[o2]),(w.heap.size+2,9,I)] [⟨w.heap.size+3,3,1,V D n2 c2,j+1,(ns.take j).map aH++[aH k]⟩,⟨w.heap.size+3,9,1,V C n1 c1,j+1,(cs.take j).map aR++[aR c]⟩] G) (N:∀B,KeepsFrom B W G) (B:Nat)
  (K:cs.take (j+1)=cs.take j++[c]) (h2:ns.take (j+1)=ns.take j++[k]):
  KeepsFrom B W ((G.setCell ⟨w.heap.size,0,none⟩ (V C n1 c1)).setCell ⟨w.heap.size+1,0,none⟩ (V D n2 c2))/\
  ay w (mZ w.heap.size (V C n1 c1) (V D n2 c2)++[(w.heap.size+2,9,I)]) (m7 (w.heap.size+3) cs ns (j+1) (V C n1 c1) (V D n2 c2)) ((G.setCell ⟨w.heap.size,0,none⟩ (V C n1 c1)).setCell ⟨w.heap.size+1,0,none⟩ (V D n2 c2)):=by
 refine⟨aq (aq (N B) _ _) _ _,?_⟩;unfold mZ m7;rw[K,h2,OG,OG];exact dR (iK (gL (iK (gL M (OM _) 0 (V C n1 c1) (by simp) (by simp))) (Nat.le_succ _) 0 (V D n2 c2) (by simp) (by simp)))
theorem BR (w:World):Calls OE 206 #[J ⟨#[10,48,49,48,49,49,32,48,49,48,48,49,32,48,48,49,49,48,49,32,49,49,48,49,32,48,48,49,48,49,49,49,32,48,48,49,48,48,49,49,32,48,48,48,49,49,49,49,49,32,49,49,48,48,10,48,48,49,48,49,49,48,32,48,48,49,48,48,49,48,32,48,48,48,49,49,49,49,48,32,49,48,48,49,49,32,48,48,48,49,49,48,49,49,32,48,48,48,49,48,49,49,49,32,48,48,48,49,48,48,49,49,32,49,48,49,49,10,48,48,49,48,49,48,49,32,48,48,49,48,48,48,49,32,48,48,48,49,49,49,48,49,32,49,48,48,48,49,32,48,48,48,49,49,48,48,49,32,48,48,48,49,48,49,48,49,32,48,48,48,49,48,48,48,49,32,48,48,49,49,49,49,10,48,48,48,48,49,49,49,49,32,48,48,48,48,49,49,48,49,32,48,48,48,48,48,48,48,49,49,32,48,49,49,49,49,32,48,48,48,48,49,48,49,49,32,48,48,48,48,48,49,49,49,32,48,48,48,48,48,48,49,49,49,32,49,48,49,48,10,48,48,49,48,49,48,48,32,48,48,49,48,48,48,48,32,48,48,48,49,49,49,48,48,32,48,48,49,49,49,48,32,48,48,48,48,49,49,49,48,32,48,48,48,48,49,49,48,48,32,48,48,48,48,48,48,48,49,48,32,49,48,48,48,48,10,48,48,48,49,49,48,48,48,32,48,48,48,49,48,49,48,48,32,48,48,48,49,48,48,48,48,32,48,49,49,49,48,32,48,48,48,48,49,48,49,48,32,48,48,48,48,48,49,49,48,32,48,48,48,48,48,48,49,49,48,32,49,48,48,49,48,10,48,48,48,49,49,48,49,48,32,48,48,48,49,48,49,49,48,32,48,48,48,49,48,48,49,48,32,48,49,49,48,49,32,48,48,48,48,49,48,48,49,32,48,48,48,48,48,49,48,49,32,48,48,48,48,48,48,49,48,49,32,48,49,49,48,48,10,48,48,48,48,49,48,48,48,32,48,48,48,48,48,49,48,48,32,48,48,48,48,48,48,49,48,48,32,49,49,49,32,48,49,48,49,48,32,48,49,48,48,48,32,48,48,49,49,48,48]⟩] w λe w'=>e=OI (.func (.func 242) #[] #[OL (some ⟨w.heap.size,0,none⟩)])/\w.alloc (Z #[J (bs kG)] 9)=w':=wR kG w
set_option maxHeartbeats 4000000 in
theorem pH (w:World)(hT:Ts w):Calls OE 163 #[] w (rc bm bO w):=by
 have K3:=U hT;clear hT;obtain⟨LS,kU⟩:∃LS,LS=bs kG:=⟨_,rfl⟩;have CF:=U (λW=>BR W);rw[<-kU] at CF;obtain⟨FC,kA⟩:∃FC,FC=ON kG:=⟨_,rfl⟩;have SQ:=U (λb I hI=>BS 4 (by decide) b kG zd DR I hI);rw[<-kU,<-kA] at SQ;have Hl:=U (kA.trans wQ);clear kU kA;refine(callsIn_wide (n:=5)).1 ?_;refine callsIn_of_wp_marks Tryz.func163 rfl trivial ?_ rfl;simp only[Tryz.ntmps163,List.size_toArray,List.length_nil,Nat.reduceSub,Array.replicate_succ,Array.replicate_zero,List.push_toArray,List.append_toArray,List.nil_append,List.cons_append];refine wpIn_wide.2 ?_;go_wp2_with (go_at_call 206;refine(CF.out _).mono ?_;rintro e w' ⟨rfl,rfl⟩)
 clear CF;simp only[Nat.add_assoc,Nat.reduceAdd];refine(wpIn_wide (n:=5)).1 ?_
 refine sY (α:=List UInt8) (enc:= λx=> #[J (bs x)]) (I:=cS w (λ_ (_:Value×Value)=>True) (λ_ v=>mZ w.heap.size v.1 v.2++[(w.heap.size+2,9,#[J LS])]) (λpre v=>m7 (w.heap.size+3) bm bO (O pre) v.1 v.2)) (I2:=cS w (λ_ (_:Value×Value)=>True) (λ_ v=>mZ w.heap.size v.1 v.2++[(w.heap.size+2,9,#[J LS])]) (λpre v=>m7 (w.heap.size+3) bm bO (O pre) v.1 v.2)) (S:= λxs=>xs=FC) (Sp:= λpre=>pre<+:FC)
  rfl (by decide) (gf:=242) (lb:= #[OL (some ⟨w.heap.size+2,0,none⟩)]) rfl trivial (enters_of Tryz.func242 (by kernel_rfl) rfl)
  (SQ.out (w.heap.size+2) _ ?hIs) (λ_=>rfl)
  (λ_ _ _=>False)
  (λpre _ _ W=>cS w (λ_ (_:Value×Value)=>True) (λ_ v=>mZ w.heap.size v.1 v.2++[(w.heap.size+2,9,#[J LS])]) (λpre v=>m7 (w.heap.size+3) bm bO (O pre) v.1 v.2) pre W)
  (bq (by simp;omega) _ _ _) (bq (by simp;omega) _ _ _) (λ_ _ _ _ _ h _ _=>h) (λx g=>bq (by simp;omega) _ _ _) ?start ?round ?done ?stop
 case hIs=>
  rintro pre W ⟨⟨v,_,G⟩⟩;have h:=G.2.1.tail.tail.head;exact⟨h,K3.out.below G.1⟩
 case start=>
  refine⟨⟨(V none 0 0,V none 0 0),trivial,?_,?_,?_⟩⟩
  ·exact(((Below.refl _ _).alloc (OM _) _).alloc (by simp) _).alloc (by simp;omega) _
  ·refine aa.cons ?_ (aa.cons ?_ (aa.cons ?_ (ai _)))
   all_goals (repeat (first|(refine aE (ab.new _ _ _) ?_;simp[OB];done)|refine ab.alloc ?_ _))
  ·exact ar.cons (OF _ _ _ _) (ar.cons (OF _ _ _ _) (aF _))
 case round=>
  apply Exists.intro;refine And.intro ?_ ?_
  ·rintro lp pre x W hI aJ
   clear aJ;gi_wp2
   obtain⟨g0,_⟩:∃g0:Nat,g0=0:=⟨_,rfl⟩;exact⟨⟨g0,rfl,hI⟩,KeepsFrom.refl _ _⟩
  ·rintro lp pre x g W ⟨⟨⟨v1,v2⟩,_,G⟩⟩ aJ
   rw[Hl.out] at aJ;obtain⟨rG,_,eE⟩:=Gg aJ;have Hu:O pre<63:=(by rw[show (O bm)=63 by kernel_rfl] at rG;exact rG);have iP:=U eE;have jg:=U (Ep (O pre) Hu);unfold mZ m7 at G;dsimp only at G;obtain⟨A1,c1,e1,_⟩:=cO G.2.2.head;obtain⟨A2,c2,e2,_⟩:=cO G.2.2.tail.head;dsimp only at e1 e2;subst e1 e2;have HC:=U G;have K5:O pre<=62:=(by omega);have K6:IntKind.i64.wrap ((O pre:Int)+1)=(O pre:Int)+1:=(by rw[IntKind.wrap_i64];omega);clear G rG eE aJ;gi_wp2_with fail
   refine fm (λw'=>aa [(w.heap.size,138,#[V A1 (O pre) c1]),(w.heap.size+1,61,#[V A2 (O pre) c2]),(w.heap.size+2,9,#[J LS])] w') 9 (OH 0 (OH 1 (OH 4 (OH 5 (OH 6 (OH 7 (.fork 2 (.fork 3 (OO 8 (.done)) 8 (OO 3 (.done))) 8 (OO 2 (OO 3 (.done)))))))))) (by kernel_rfl) (by kernel_rfl) (by simp only[bY.out,Array.getD_eq_getD_getElem?,List.getElem?_toArray,List.getElem?_cons_zero,List.getElem?_cons_succ,Option.getD_some];rfl) (by simp only[List.map_cons,List.map_nil];rfl) (HC.out.2.1) (λPE av=>?_)
   iterate 6
    refine af (v:=?_) rfl (by rfl) ?_ ?_
    rotate_left
    ·intro _ jY;(try dsimp only at jY);have z1:=jY.head.cell 0;have z2:=jY.tail.head.cell 0;go_simp;(try with_reducible rfl)
    simp only[List.setIfInBounds_toArray,List.set_cons_zero,List.set_cons_succ]
   have HW:=U (bB HC.out);refine⟨?_,?_⟩
   ·refine aj (v:=?_) (w':=?_) rfl (by rfl) ?_ ?_ ?_
    rotate_left 2
    ·go_simp;(try (constructor<;>with_reducible rfl))
    ·exact(ap HW.out _).2.1
    refine⟨?_,?_⟩
    ·refine jo jy rfl rfl rfl rfl (ap HW.out (Z #[aR x] 9)) rfl (ab.new (OA W) _ _) (m:=1) (news:=[aR x]) rfl (mY _) (by omega) ⟨by omega,(ap HW.out (Z #[aR x] 9)).2.1.tail.tail.head.lt⟩ (by simp) (by simp) (λv' W5 C fJ dO=>⟨C.2.1,?_⟩)
     obtain⟨A5,c5,e5,_⟩:=cO C.2.2.head;dsimp only at e5;subst e5;refine aj (v:=?_) (w':=?_) rfl (by rfl) ?_ ?_ ?_;rotate_left 2
     ·go_simp;(try (constructor<;>with_reducible rfl))
     ·exact C.2.1.alloc _
     have K:=U (ap C (Z #[aH ((O pre:Int)+1)] 3));have bM:=U (ab.new W5 3 #[aH ((O pre:Int)+1)]);have dv:=U (λB=>co (dt (co (ff (KeepsFrom.refl B W)) (Z #[aR x] 9)) (dO B)) (Z #[aH ((O pre:Int)+1)] 3));refine av _ _ ?_;clear av PE;simp only[X,OD];go_wp2_with (refine hU jx rfl rfl rfl (dR K.out) rfl bM.out (m:=1) (news:=[aH ((O pre:Int)+1)]) rfl (n8 _) (by omega) ⟨by omega,K.out.2.1.tail.tail.head.lt⟩ (by simp) (by simp) ?_;intro v2 W9 j dy M;obtain⟨A8,c8,e8,_⟩:=cO j.2.2.head;dsimp only at e8;subst e8;have cE:=U j;have cI:=U (λB=>dt (dv.out B) (M B));have y1:=j.2.1.head.cell 0;have y2:=j.2.1.tail.head.cell 0;have JT:=j.2.1.head.frozen 0;have K0:=j.2.1.tail.head.frozen 0;clear j dy M)
     refine⟨rfl,?_⟩;gi_wp2_with fail
     have N:= λB=>nv cE.out cI.out B iP.out jg.out;refine⟨(N _).1,trivial,⟨⟨(V A5 (O pre+1) c5,V A8 (O pre+1) c8),trivial,?_⟩⟩⟩;rw[Y];exact(N 0).2
    ·refine aj (v:=?_) (w':=?_) rfl (by rfl) ?_ ?_ ?_
     rotate_left 2
     ·go_simp;(try (constructor<;>with_reducible rfl))
     ·exact((ap HW.out (Z #[aR x] 9)).2.1).alloc _
     refine jo jy rfl rfl rfl rfl (ap (ap HW.out (Z #[aR x] 9)) (Z #[aH ((O pre:Int)+1)] 3)) rfl ((ab.new (OA W) _ _).alloc _) (m:=1) (news:=[aR x]) rfl (mY _) (by omega) ⟨by omega,(ap (ap HW.out (Z #[aR x] 9)) (Z #[aH ((O pre:Int)+1)] 3)).2.1.tail.tail.head.lt⟩ (by simp) (by simp) (λv' W5 C fJ dO=>⟨C.2.1,?_⟩);obtain⟨A5,c5,e5,_⟩:=cO C.2.2.head;dsimp only at e5;subst e5;have K:=U C;have bM:=U (aE (g':=W.heap.size+1) (fJ _ _ _ (ab.new ((OA W).alloc (Z #[aR x] 9)) 3 #[aH ((O pre:Int)+1)]) (by decide)) (OB _ _));have dv:=U (λB=>dt (co (co (ff (KeepsFrom.refl B W)) (Z #[aR x] 9)) (Z #[aH ((O pre:Int)+1)] 3)) (dO B));refine av _ _ ?_;clear av PE;simp only[X,OD];go_wp2_with (refine hU jx rfl rfl rfl (dR K.out) rfl bM.out (m:=1) (news:=[aH ((O pre:Int)+1)]) rfl (n8 _) (by omega) ⟨by omega,K.out.2.1.tail.tail.head.lt⟩ (by simp) (by simp) ?_;intro v2 W9 j dy M;obtain⟨A8,c8,e8,_⟩:=cO j.2.2.head;dsimp only at e8;subst e8;have cE:=U j;have cI:=U (λB=>dt (dv.out B) (M B));have y1:=j.2.1.head.cell 0;have y2:=j.2.1.tail.head.cell 0;have JT:=j.2.1.head.frozen 0;have K0:=j.2.1.tail.head.frozen 0;clear j dy M)
     refine⟨rfl,?_⟩;gi_wp2_with fail
     have N:= λB=>nv cE.out cI.out B iP.out jg.out;refine⟨(N _).1,trivial,⟨⟨(V A5 (O pre+1) c5,V A8 (O pre+1) c8),trivial,?_⟩⟩⟩;rw[Y];exact(N 0).2
   ·refine aj (v:=?_) (w':=?_) rfl (by rfl) ?_ ?_ ?_
    rotate_left 2
    ·go_simp;(try (constructor<;>with_reducible rfl))
    ·exact(ap HW.out _).2.1
    refine aj (v:=?_) (w':=?_) rfl (by rfl) ?_ ?_ ?_;rotate_left 2
    ·go_simp;(try (constructor<;>with_reducible rfl))
    ·exact((ap HW.out (Z #[aH ((O pre:Int)+1)] 3)).2.1).alloc _
    refine jo jy rfl rfl rfl rfl (ap (ap HW.out (Z #[aH ((O pre:Int)+1)] 3)) (Z #[aR x] 9)) rfl (aE (ab.new ((OA W).alloc (Z #[aH ((O pre:Int)+1)] 3)) _ _) (OB _ _)) (m:=1) (news:=[aR x]) rfl (mY _) (by omega) ⟨by omega,(ap (ap HW.out (Z #[aH ((O pre:Int)+1)] 3)) (Z #[aR x] 9)).2.1.tail.tail.head.lt⟩ (by simp) (by simp) (λv' W5 C fJ dO=>⟨C.2.1,?_⟩);obtain⟨A5,c5,e5,_⟩:=cO C.2.2.head;dsimp only at e5;subst e5;have K:=U C;have bM:=U (aE (g':=W.heap.size) (fJ _ _ _ ((ab.new (OA W) 3 #[aH ((O pre:Int)+1)]).alloc (Z #[aR x] 9)) (by decide)) rfl);have dv:=U (λB=>dt (co (co (ff (KeepsFrom.refl B W)) (Z #[aH ((O pre:Int)+1)] 3)) (Z #[aR x] 9)) (dO B));refine av _ _ ?_;clear av PE;simp only[X,OD];go_wp2_with (refine hU jx rfl rfl rfl (dR K.out) rfl bM.out (m:=1) (news:=[aH ((O pre:Int)+1)]) rfl (n8 _) (by omega) ⟨by omega,K.out.2.1.tail.tail.head.lt⟩ (by simp) (by simp) ?_;intro v2 W9 j dy M;obtain⟨A8,c8,e8,_⟩:=cO j.2.2.head;dsimp only at e8;subst e8;have cE:=U j;have cI:=U (λB=>dt (dv.out B) (M B));have y1:=j.2.1.head.cell 0;have y2:=j.2.1.tail.head.cell 0;have JT:=j.2.1.head.frozen 0;have K0:=j.2.1.tail.head.frozen 0;clear j dy M)
    refine⟨rfl,?_⟩;gi_wp2_with fail
    have N:= λB=>nv cE.out cI.out B iP.out jg.out;refine⟨(N _).1,trivial,⟨⟨(V A5 (O pre+1) c5,V A8 (O pre+1) c8),trivial,?_⟩⟩⟩;rw[Y];exact(N 0).2
 case done=>
  rintro D xs W hD K4 ⟨⟨⟨v1,v2⟩,_,G⟩⟩ hK;subst K4;rw[Hl.out] at G;unfold mZ m7 at G;dsimp only at G;rw[show bm.take (O bm)=bm by kernel_rfl,show bO.take (O bm)=bO by kernel_rfl] at G;obtain⟨A,B,c,d,rfl,rfl,hA,hB,hb⟩:=GN (W:=W) (cs:=bm) (ns:=bO) G (by decide);have CM:=U (pq pG A B c d W hA hB);have HB:=U hb;have y1:=G.2.1.head.cell 0;have y2:=G.2.1.tail.head.cell 0;have HK:=U hK;rw[show (O bm)=63 by kernel_rfl] at CM y1 y2;clear G hA hB hb hK;gi_wp2_with fail
  go_wp2_with (go_at_call 201;refine CM.out.mono ?_;rintro e w' ⟨T,rfl,eE⟩;have gj:=U eE;clear eE)
  have Ht:w'.heap[D]? =some (.deferred (some [])):=(gj.out.2.block D (Array.getElem?_eq_some_iff.1 HK.out).1).trans HK.out;refine eo Ht (v:=OL (some ⟨T,0,none⟩)) (by simp[results,Tryz.results163,go_sem]) ?_;have hs:=HB.out.size;refine⟨W.heap.size,T,rfl,Ey gj.out.1 Ht (λ_ _ h=>by cases h) rfl,cu (HB.out.trans (gj.out.2.mono hs)) (by simp at hD;omega)⟩
 case stop=>
  rintro D cd pre W hD aJ h hK;exact h.elim
theorem zw (A:Option Addr)(n c:Nat)(l:List UInt8)(i:Int)(w:World)(M:Ts w)(K:Sl w A (l.map ag))(N:O l=n)(hsz:n<=2 ^ 47)(hi: -9223372036854775808<=i/\i<=9223372036854775807):
  Calls OE 258 #[V A n c,OK OJ i] w λe w'=>e=OI (.tuple #[OK OJ (ac bm bO l i).1,OK OJ (ac bm bO l i).2.1,OK OJ (ac bm bO l i).2.2])/\Below w.heap.size w w':=by
 have HA:=U K;have Hn:=U N;have HT:=U M;clear K N M
 go_enter Tryz.func258,Tryz.ntmps258
 go_wp2_with (first
  |(go_at_call 163;refine(pH _ HT.out).mono ?_;rintro e w1 ⟨base,T,rfl,D,B⟩;have I:=U D;have j:=U B;clear D B)
  |(go_at_call 275;refine(ri pG _ base T I.out A n c l i (HA.out.below j.out) Hn.out hsz hi).mono ?_;rintro e w2 ⟨rfl,C⟩;have G:=U C;clear C))
 go_ret3;exact⟨rfl,j.out.trans (G.out.mono j.out.size)⟩
theorem Ga:bO=(List.range (O bm)).map λi:Nat=>1+(i:Int):=by
 unfold bO;rw[show (O bm)=63 by kernel_rfl];apply List.map_congr_left;intro j _;omega
theorem Eq {k:Int}(j:1<=k)(h2:k<=63):(cK bm bO k).getD []=iW k/\(cK bm bO k).isSome=true:=by
 rw[Ga,o8];unfold iW eh;refine⟨rfl,?_⟩;rw[if_neg (by omega),List.getElem?_eq_getElem (by rw[show (O bm)=63 by kernel_rfl];omega)];rfl
theorem zy (k:Int)(w:World)(G:Ts w)(h1:1<=k)(h2:k<=63):Calls OE 111 #[OK OJ k] w λe w'=>e=OI (.tuple #[J (bs (iW k)),OK OJ 0])/\Below w.heap.size w w':=by
 have M:=Eq h1 h2;have HT:=U G;have N:=U (λW base T G=>xV pG W base T G k (yR (by omega) (by omega)));rw[M.1,M.2] at N;clear M G
 go_enter Tryz.func111,Tryz.ntmps111
 go_wp2_with (first
  |(go_at_call 163;refine(pH _ HT.out).mono ?_;rintro e w1 ⟨base,T,rfl,D,B⟩;have K:=U D;have j:=U B;clear D B)
  |(go_at_call 158;refine(N.out _ base T K.out).mono ?_;rintro e w2 ⟨rfl,C⟩;have I:=U C;clear C))
 go_ret2;exact⟨rfl,j.out.trans (I.out.mono j.out.size)⟩
end Go.Proofs.YthhijgcfbjcgiaaGreatDoor
