/- Pat -/
import Derived.Test.YthhijgcfbjcgiaaGreatDoorS19
import Derived.Test.YthhijgcfbjcgiaaGreatDoorS17
namespace Go.Proofs.YthhijgcfbjcgiaaGreatDoor
open Go Go.RowKit
attribute [local go_sem] Oper.semAt_some
open Go.Lib renaming hid→zAA,fields→zAK
open List renaming length_append→zAB,drop_succ_cons→zAC,prefix_iff_eq_take→zAF,drop_zero→zAG,map_append→zAI
open Go.World renaming drew→zAD,size_alloc→zAE,ownsRow_nil→zAH
open Nat renaming le_refl→zAJ
def kw:List UInt8:=[10,48,49,48,49,49,32,48,49,48,48,49,32,48,48,49,49,48,49,32,49,49,48,49,32,48,48,49,48,49,49,49,32,48,48,49,48,48,49,49,32,48,48,48,49,49,49,49,49,32,49,49,48,48,10,48,48,49,48,49,49,48,32,48,48,49,48,48,49,48,32,48,48,48,49,49,49,49,48,32,49,48,48,49,49,32,48,48,48,49,49,48,49,49,32,48,48,48,49,48,49,49,49,32,48,48,48,49,48,48,49,49,32,49,48,49,49,10,48,48,49,48,49,48,49,32,48,48,49,48,48,48,49,32,48,48,48,49,49,49,48,49,32,49,48,48,48,49,32,48,48,48,49,49,48,48,49,32,48,48,48,49,48,49,48,49,32,48,48,48,49,48,48,48,49,32,48,48,49,49,49,49,10,48,48,48,48,49,49,49,49,32,48,48,48,48,49,49,48,49,32,48,48,48,48,48,48,48,49,49,32,48,49,49,49,49,32,48,48,48,48,49,48,49,49,32,48,48,48,48,48,49,49,49,32,48,48,48,48,48,48,49,49,49,32,49,48,49,48,10,48,48,49,48,49,48,48,32,48,48,49,48,48,48,48,32,48,48,48,49,49,49,48,48,32,48,48,49,49,49,48,32,48,48,48,48,49,49,49,48,32,48,48,48,48,49,49,48,48,32,48,48,48,48,48,48,48,49,48,32,49,48,48,48,48,10,48,48,48,49,49,48,48,48,32,48,48,48,49,48,49,48,48,32,48,48,48,49,48,48,48,48,32,48,49,49,49,48,32,48,48,48,48,49,48,49,48,32,48,48,48,48,48,49,49,48,32,48,48,48,48,48,48,49,49,48,32,49,48,48,49,48,10,48,48,48,49,49,48,49,48,32,48,48,48,49,48,49,49,48,32,48,48,48,49,48,48,49,48,32,48,49,49,48,49,32,48,48,48,48,49,48,48,49,32,48,48,48,48,48,49,48,49,32,48,48,48,48,48,48,49,48,49,32,48,49,49,48,48,10,48,48,48,48,49,48,48,48,32,48,48,48,48,48,49,48,48,32,48,48,48,48,48,48,49,48,48,32,49,49,49,32,48,49,48,49,48,32,48,49,48,48,48,32,48,48,49,49,48,48]
theorem wK:zAK kw=bH:=by kernel_rfl
theorem yW:∀c∈kw,c.toNat<128:=by decide+kernel
theorem Dw:kw.length≤100000:=by decide+kernel
theorem Eb (j:Nat) (h:j<63):cf.take (j+1)=cf.take j++[(j:Int)+1]:=by revert j;decide+kernel
theorem FT {cs pre:List (List UInt8)} {x:List UInt8} (h:pre++[x]<+:cs):pre.length<cs.length∧cs.take pre.length=pre∧cs.take (pre.length+1)=cs.take pre.length++[x]:=by
 have h1:=h.length_le
 simp at h1
 have h2:cs.take pre.length=pre:=(zAF.1 ((List.prefix_append _ _).trans h)).symm
 have h3:=zAF.1 h
 rw [zAB,List.length_singleton] at h3
 exact ⟨by omega,h2,by rw [←h3,h2]⟩
theorem ng {w W W9:World} {cs:List (List UInt8)} {ns:List Int} {j n1 n2 c1 c2:Nat} {c:List UInt8} {k:Int} {A1 A2:Option Addr} {o1 o2:Value} {q2:Array Value}
  (hc:ay w [(w.heap.size,138,#[o1]),(w.heap.size+1,61,#[o2]),(w.heap.size+2,9,q2)] [⟨w.heap.size+3,3,1,.slice A2 n2 c2,j+1,(ns.take j).map aY++[aY k]⟩,⟨w.heap.size+3,9,1,.slice A1 n1 c1,j+1,(cs.take j).map bE++[bE c]⟩] W9) (hk:∀B,KeepsFrom B W W9) (B:Nat)
  (h1:cs.take (j+1)=cs.take j++[c]) (h2:ns.take (j+1)=ns.take j++[k]):
  KeepsFrom B W ((W9.setCell ⟨w.heap.size,0,none⟩ (.slice A1 n1 c1)).setCell ⟨w.heap.size+1,0,none⟩ (.slice A2 n2 c2))∧
  ay w (mT w.heap.size (.slice A1 n1 c1) (.slice A2 n2 c2)++[(w.heap.size+2,9,q2)]) (mU (w.heap.size+3) cs ns (j+1) (.slice A1 n1 c1) (.slice A2 n2 c2)) ((W9.setCell ⟨w.heap.size,0,none⟩ (.slice A1 n1 c1)).setCell ⟨w.heap.size+1,0,none⟩ (.slice A2 n2 c2)):=by
 refine ⟨ak (ak (hk B) _ _) _ _,?_⟩
 unfold mT mU
 rw [h1,h2,zAI,zAI]
 exact eV (iB (iY (iB (iY hc (zAJ _) 0 (.slice A1 n1 c1) (by simp) (by simp))) (Nat.le_succ _) 0 (.slice A2 n2 c2) (by simp) (by simp)))
set_option maxRecDepth 100000 in
theorem BM (w:World):Calls Tryz.prog 206 #[.string ⟨#[10,48,49,48,49,49,32,48,49,48,48,49,32,48,48,49,49,48,49,32,49,49,48,49,32,48,48,49,48,49,49,49,32,48,48,49,48,48,49,49,32,48,48,48,49,49,49,49,49,32,49,49,48,48,10,48,48,49,48,49,49,48,32,48,48,49,48,48,49,48,32,48,48,48,49,49,49,49,48,32,49,48,48,49,49,32,48,48,48,49,49,48,49,49,32,48,48,48,49,48,49,49,49,32,48,48,48,49,48,48,49,49,32,49,48,49,49,10,48,48,49,48,49,48,49,32,48,48,49,48,48,48,49,32,48,48,48,49,49,49,48,49,32,49,48,48,48,49,32,48,48,48,49,49,48,48,49,32,48,48,48,49,48,49,48,49,32,48,48,48,49,48,48,48,49,32,48,48,49,49,49,49,10,48,48,48,48,49,49,49,49,32,48,48,48,48,49,49,48,49,32,48,48,48,48,48,48,48,49,49,32,48,49,49,49,49,32,48,48,48,48,49,48,49,49,32,48,48,48,48,48,49,49,49,32,48,48,48,48,48,48,49,49,49,32,49,48,49,48,10,48,48,49,48,49,48,48,32,48,48,49,48,48,48,48,32,48,48,48,49,49,49,48,48,32,48,48,49,49,49,48,32,48,48,48,48,49,49,49,48,32,48,48,48,48,49,49,48,48,32,48,48,48,48,48,48,48,49,48,32,49,48,48,48,48,10,48,48,48,49,49,48,48,48,32,48,48,48,49,48,49,48,48,32,48,48,48,49,48,48,48,48,32,48,49,49,49,48,32,48,48,48,48,49,48,49,48,32,48,48,48,48,48,49,49,48,32,48,48,48,48,48,48,49,49,48,32,49,48,48,49,48,10,48,48,48,49,49,48,49,48,32,48,48,48,49,48,49,49,48,32,48,48,48,49,48,48,49,48,32,48,49,49,48,49,32,48,48,48,48,49,48,48,49,32,48,48,48,48,48,49,48,49,32,48,48,48,48,48,48,49,48,49,32,48,49,49,48,48,10,48,48,48,48,49,48,48,48,32,48,48,48,48,48,49,48,48,32,48,48,48,48,48,48,49,48,48,32,49,49,49,32,48,49,48,49,48,32,48,49,48,48,48,32,48,48,49,49,48,48]⟩] w fun e w'=>e= .returned (.func (.func 242) #[] #[.pointer (some ⟨w.heap.size,0,none⟩)])∧w.alloc (.cells #[.string (bs kw)] 9)=w':=wL kw w
set_option maxRecDepth 100000 in
set_option maxHeartbeats 4000000 in
theorem pJ (w:World) (hT:Ts w):Calls Tryz.prog 163 #[] w (rf bH cf w):=by
 have HTS:=zAA hT
 clear hT
 obtain ⟨LS,hls⟩:∃LS,LS=bs kw:=⟨_,rfl⟩
 have CF:=zAA (fun W=>BM W)
 rw [←hls] at CF
 obtain ⟨FC,hfc⟩:∃FC,FC=zAK kw:=⟨_,rfl⟩
 have SQ:=zAA (fun b I hI=>BN 4 (by decide) b kw yW Dw I hI)
 rw [←hls,←hfc] at SQ
 have HFC:=zAA (hfc.trans wK)
 clear hls hfc
 refine (callsIn_wide (n:=5)).1 ?_
 refine callsIn_of_wp_marks Tryz.func163 rfl trivial ?_ rfl
 simp only [Tryz.ntmps163,List.size_toArray,List.length_nil,Nat.reduceSub,Array.replicate_succ,Array.replicate_zero,List.push_toArray,List.append_toArray,List.nil_append,List.cons_append]
 refine wpIn_wide.2 ?_
 go_wp2_with (go_at_call 206;refine (CF.out _).mono ?_;rintro e w' ⟨rfl,rfl⟩)
 clear CF
 simp only [Nat.add_assoc,Nat.reduceAdd]
 refine (wpIn_wide (n:=5)).1 ?_
 refine tb (α:=List UInt8) (enc:=fun x=> #[.string (bs x)]) (I:=cR w (fun _ (_:Value×Value)=>True) (fun _ v=>mT w.heap.size v.1 v.2++[(w.heap.size+2,9,#[.string LS])]) (fun pre v=>mU (w.heap.size+3) bH cf pre.length v.1 v.2)) (I2:=cR w (fun _ (_:Value×Value)=>True) (fun _ v=>mT w.heap.size v.1 v.2++[(w.heap.size+2,9,#[.string LS])]) (fun pre v=>mU (w.heap.size+3) bH cf pre.length v.1 v.2)) (S:=fun xs=>xs=FC) (Sp:=fun pre=>pre<+:FC)
  rfl (by decide) (gf:=242) (lb:= #[.pointer (some ⟨w.heap.size+2,0,none⟩)]) rfl trivial (enters_of Tryz.func242 (by kernel_rfl) rfl)
  (SQ.out (w.heap.size+2) _ ?hIs) (fun _=>rfl)
  (fun _ _ _=>False)
  (fun pre _ _ W=>cR w (fun _ (_:Value×Value)=>True) (fun _ v=>mT w.heap.size v.1 v.2++[(w.heap.size+2,9,#[.string LS])]) (fun pre v=>mU (w.heap.size+3) bH cf pre.length v.1 v.2) pre W)
  (bq (by simp;omega) _ _ _) (bq (by simp;omega) _ _ _) (fun _ _ _ _ _ h _ _=>h) (fun x g=>bq (by simp;omega) _ _ _) ?start ?round ?done ?stop
 case hIs=>
  rintro pre W ⟨⟨v,_,hc⟩⟩
  have h:=hc.2.1.tail.tail.head
  exact ⟨h,HTS.out.below hc.1⟩
 case start=>
  refine ⟨⟨(.slice none 0 0,.slice none 0 0),trivial,?_,?_,?_⟩⟩
  ·exact (((Below.refl _ _).alloc (zAJ _) _).alloc (by simp) _).alloc (by simp;omega) _
  ·refine aa.cons ?_ (aa.cons ?_ (aa.cons ?_ (ag _)))
   all_goals (repeat (first|(refine aD (ab.new _ _ _) ?_;simp [zAE];done)|refine ab.alloc ?_ _))
  ·exact ap.cons (zAH _ _ _ _) (ap.cons (zAH _ _ _ _) (aE _))
 case round=>
  apply Exists.intro
  refine And.intro ?_ ?_
  ·rintro lp pre x W hI hsp
   clear hsp
   gi_wp2
   obtain ⟨g0,_⟩:∃g0:Nat,g0=0:=⟨_,rfl⟩
   exact ⟨⟨g0,rfl,hI⟩,KeepsFrom.refl _ _⟩
  ·rintro lp pre x g W ⟨⟨⟨v1,v2⟩,_,hc⟩⟩ hsp
   rw [HFC.out] at hsp
   obtain ⟨hpl,_,hpt⟩:=FT hsp
   have hp63:pre.length<63:=by rw [show bH.length=63 by kernel_rfl] at hpl;exact hpl
   have HT1:=zAA hpt
   have HT2:=zAA (Eb pre.length hp63)
   unfold mT mU at hc
   dsimp only at hc
   obtain ⟨A1,c1,e1,_⟩:=dg hc.2.2.head
   obtain ⟨A2,c2,e2,_⟩:=dg hc.2.2.tail.head
   dsimp only at e1 e2
   subst e1 e2
   have HC:=zAA hc
   have hl62:pre.length≤62:=by omega
   have hw1:IntKind.i64.wrap ((pre.length:Int)+1)=(pre.length:Int)+1:=by rw [IntKind.wrap_i64];omega
   clear hc hpl hpt hsp
   gi_wp2_with fail
   refine fm (fun w'=>aa [(w.heap.size,138,#[.slice A1 pre.length c1]),(w.heap.size+1,61,#[.slice A2 pre.length c2]),(w.heap.size+2,9,#[.string LS])] w') 9 (.take 0 (.take 1 (.take 4 (.take 5 (.take 6 (.take 7 (.fork 2 (.fork 3 (.step 8 (.done)) 8 (.step 3 (.done))) 8 (.step 2 (.step 3 (.done)))))))))) (by kernel_rfl) (by kernel_rfl) (by simp only [aR.out,Array.getD_eq_getD_getElem?,List.getElem?_toArray,List.getElem?_cons_zero,List.getElem?_cons_succ,Option.getD_some];rfl) (by simp only [List.map_cons,List.map_nil];rfl) (HC.out.2.1) (fun PE hPE=>?_)
   iterate 6
    refine ah (v:=?_) rfl (by rfl) ?_ ?_
    rotate_left
    ·intro _ hSw;(try dsimp only at hSw);have z1:=hSw.head.cell 0;have z2:=hSw.tail.head.cell 0;go_simp;(try with_reducible rfl)
    simp only [List.setIfInBounds_toArray,List.set_cons_zero,List.set_cons_succ]
   have HW:=zAA (bM HC.out)
   refine ⟨?_,?_⟩
   ·refine aw (v:=?_) (w':=?_) rfl (by rfl) ?_ ?_ ?_
    rotate_left 2
    ·go_simp;(try (constructor<;>with_reducible rfl))
    ·exact (ao HW.out _).2.1
    refine ⟨?_,?_⟩
    ·refine jg lc rfl rfl rfl rfl (ao HW.out (.cells #[bE x] 9)) rfl (ab.new (zAD W) _ _) (m:=1) (news:=[bE x]) rfl (mS _) (by omega) ⟨by omega,(ao HW.out (.cells #[bE x] 9)).2.1.tail.tail.head.lt⟩ (by simp) (by simp) (fun v' W5 hc5 hb5 hk5=>⟨hc5.2.1,?_⟩)
     obtain ⟨A5,c5,e5,_⟩:=dg hc5.2.2.head
     dsimp only at e5
     subst e5
     refine aw (v:=?_) (w':=?_) rfl (by rfl) ?_ ?_ ?_
     rotate_left 2
     ·go_simp;(try (constructor<;>with_reducible rfl))
     ·exact hc5.2.1.alloc _
     have HCf:=zAA (ao hc5 (.cells #[aY ((pre.length:Int)+1)] 3))
     have HB7:=zAA (ab.new W5 3 #[aY ((pre.length:Int)+1)])
     have HKF:=zAA (fun B=>ce (di (ce (fb (KeepsFrom.refl B W)) (.cells #[bE x] 9)) (hk5 B)) (.cells #[aY ((pre.length:Int)+1)] 3))
     refine hPE _ _ ?_
     clear hPE PE
     simp only [zAC,zAG]
     go_wp2_with (refine gW mF rfl rfl rfl (eV HCf.out) rfl HB7.out (m:=1) (news:=[aY ((pre.length:Int)+1)]) rfl (ob _) (by omega) ⟨by omega,HCf.out.2.1.tail.tail.head.lt⟩ (by simp) (by simp) ?_;intro v2 W9 hc9 hb9 hk9;obtain ⟨A8,c8,e8,_⟩:=dg hc9.2.2.head;dsimp only at e8;subst e8;have HC9:=zAA hc9;have HK9:=zAA (fun B=>di (HKF.out B) (hk9 B));have y1:=hc9.2.1.head.cell 0;have y2:=hc9.2.1.tail.head.cell 0;have yf1:=hc9.2.1.head.frozen 0;have yf2:=hc9.2.1.tail.head.frozen 0;clear hc9 hb9 hk9)
     refine ⟨rfl,?_⟩
     gi_wp2_with fail
     have hrd:=fun B=>ng HC9.out HK9.out B HT1.out HT2.out
     refine ⟨(hrd _).1,trivial,⟨⟨(.slice A5 (pre.length+1) c5,.slice A8 (pre.length+1) c8),trivial,?_⟩⟩⟩
     rw [zAB]
     exact (hrd 0).2
    ·refine aw (v:=?_) (w':=?_) rfl (by rfl) ?_ ?_ ?_
     rotate_left 2
     ·go_simp;(try (constructor<;>with_reducible rfl))
     ·exact ((ao HW.out (.cells #[bE x] 9)).2.1).alloc _
     refine jg lc rfl rfl rfl rfl (ao (ao HW.out (.cells #[bE x] 9)) (.cells #[aY ((pre.length:Int)+1)] 3)) rfl ((ab.new (zAD W) _ _).alloc _) (m:=1) (news:=[bE x]) rfl (mS _) (by omega) ⟨by omega,(ao (ao HW.out (.cells #[bE x] 9)) (.cells #[aY ((pre.length:Int)+1)] 3)).2.1.tail.tail.head.lt⟩ (by simp) (by simp) (fun v' W5 hc5 hb5 hk5=>⟨hc5.2.1,?_⟩)
     obtain ⟨A5,c5,e5,_⟩:=dg hc5.2.2.head
     dsimp only at e5
     subst e5
     have HCf:=zAA hc5
     have HB7:=zAA (aD (g':=W.heap.size+1) (hb5 _ _ _ (ab.new ((zAD W).alloc (.cells #[bE x] 9)) 3 #[aY ((pre.length:Int)+1)]) (by decide)) (zAE _ _))
     have HKF:=zAA (fun B=>di (ce (ce (fb (KeepsFrom.refl B W)) (.cells #[bE x] 9)) (.cells #[aY ((pre.length:Int)+1)] 3)) (hk5 B))
     refine hPE _ _ ?_
     clear hPE PE
     simp only [zAC,zAG]
     go_wp2_with (refine gW mF rfl rfl rfl (eV HCf.out) rfl HB7.out (m:=1) (news:=[aY ((pre.length:Int)+1)]) rfl (ob _) (by omega) ⟨by omega,HCf.out.2.1.tail.tail.head.lt⟩ (by simp) (by simp) ?_;intro v2 W9 hc9 hb9 hk9;obtain ⟨A8,c8,e8,_⟩:=dg hc9.2.2.head;dsimp only at e8;subst e8;have HC9:=zAA hc9;have HK9:=zAA (fun B=>di (HKF.out B) (hk9 B));have y1:=hc9.2.1.head.cell 0;have y2:=hc9.2.1.tail.head.cell 0;have yf1:=hc9.2.1.head.frozen 0;have yf2:=hc9.2.1.tail.head.frozen 0;clear hc9 hb9 hk9)
     refine ⟨rfl,?_⟩
     gi_wp2_with fail
     have hrd:=fun B=>ng HC9.out HK9.out B HT1.out HT2.out
     refine ⟨(hrd _).1,trivial,⟨⟨(.slice A5 (pre.length+1) c5,.slice A8 (pre.length+1) c8),trivial,?_⟩⟩⟩
     rw [zAB]
     exact (hrd 0).2
   ·refine aw (v:=?_) (w':=?_) rfl (by rfl) ?_ ?_ ?_
    rotate_left 2
    ·go_simp;(try (constructor<;>with_reducible rfl))
    ·exact (ao HW.out _).2.1
    refine aw (v:=?_) (w':=?_) rfl (by rfl) ?_ ?_ ?_
    rotate_left 2
    ·go_simp;(try (constructor<;>with_reducible rfl))
    ·exact ((ao HW.out (.cells #[aY ((pre.length:Int)+1)] 3)).2.1).alloc _
    refine jg lc rfl rfl rfl rfl (ao (ao HW.out (.cells #[aY ((pre.length:Int)+1)] 3)) (.cells #[bE x] 9)) rfl (aD (ab.new ((zAD W).alloc (.cells #[aY ((pre.length:Int)+1)] 3)) _ _) (zAE _ _)) (m:=1) (news:=[bE x]) rfl (mS _) (by omega) ⟨by omega,(ao (ao HW.out (.cells #[aY ((pre.length:Int)+1)] 3)) (.cells #[bE x] 9)).2.1.tail.tail.head.lt⟩ (by simp) (by simp) (fun v' W5 hc5 hb5 hk5=>⟨hc5.2.1,?_⟩)
    obtain ⟨A5,c5,e5,_⟩:=dg hc5.2.2.head
    dsimp only at e5
    subst e5
    have HCf:=zAA hc5
    have HB7:=zAA (aD (g':=W.heap.size) (hb5 _ _ _ ((ab.new (zAD W) 3 #[aY ((pre.length:Int)+1)]).alloc (.cells #[bE x] 9)) (by decide)) rfl)
    have HKF:=zAA (fun B=>di (ce (ce (fb (KeepsFrom.refl B W)) (.cells #[aY ((pre.length:Int)+1)] 3)) (.cells #[bE x] 9)) (hk5 B))
    refine hPE _ _ ?_
    clear hPE PE
    simp only [zAC,zAG]
    go_wp2_with (refine gW mF rfl rfl rfl (eV HCf.out) rfl HB7.out (m:=1) (news:=[aY ((pre.length:Int)+1)]) rfl (ob _) (by omega) ⟨by omega,HCf.out.2.1.tail.tail.head.lt⟩ (by simp) (by simp) ?_;intro v2 W9 hc9 hb9 hk9;obtain ⟨A8,c8,e8,_⟩:=dg hc9.2.2.head;dsimp only at e8;subst e8;have HC9:=zAA hc9;have HK9:=zAA (fun B=>di (HKF.out B) (hk9 B));have y1:=hc9.2.1.head.cell 0;have y2:=hc9.2.1.tail.head.cell 0;have yf1:=hc9.2.1.head.frozen 0;have yf2:=hc9.2.1.tail.head.frozen 0;clear hc9 hb9 hk9)
    refine ⟨rfl,?_⟩
    gi_wp2_with fail
    have hrd:=fun B=>ng HC9.out HK9.out B HT1.out HT2.out
    refine ⟨(hrd _).1,trivial,⟨⟨(.slice A5 (pre.length+1) c5,.slice A8 (pre.length+1) c8),trivial,?_⟩⟩⟩
    rw [zAB]
    exact (hrd 0).2
 case done=>
  rintro D xs W hD hxs ⟨⟨⟨v1,v2⟩,_,hc⟩⟩ hK
  subst hxs
  rw [HFC.out] at hc
  unfold mT mU at hc
  dsimp only at hc
  rw [show bH.take bH.length=bH by kernel_rfl,show cf.take bH.length=cf by kernel_rfl] at hc
  obtain ⟨A,B,c,d,rfl,rfl,hA,hB,hb⟩:=Gp (W:=W) (cs:=bH) (ns:=cf) hc (by decide)
  have CM:=zAA (pw pH A B c d W hA hB)
  have HB:=zAA hb
  have y1:=hc.2.1.head.cell 0
  have y2:=hc.2.1.tail.head.cell 0
  have HK:=zAA hK
  rw [show bH.length=63 by kernel_rfl] at CM y1 y2
  clear hc hA hB hb hK
  gi_wp2_with fail
  go_wp2_with (go_at_call 201;refine CM.out.mono ?_;rintro e w' ⟨T,rfl,hpt⟩;have HPT:=zAA hpt;clear hpt)
  have hK2:w'.heap[D]? =some (.deferred (some [])):=(HPT.out.2.block D (Array.getElem?_eq_some_iff.1 HK.out).1).trans HK.out
  refine ef hK2 (v:= .pointer (some ⟨T,0,none⟩)) (by simp [results,Tryz.results163,go_sem]) ?_
  have hs:=HB.out.size
  refine ⟨W.heap.size,T,rfl,Ej HPT.out.1 hK2 (fun _ _ h=>by cases h) rfl,cq (HB.out.trans (HPT.out.2.mono hs)) (by simp at hD;omega)⟩
 case stop=>
  rintro D cd pre W hD hsp h hK
  exact h.elim
theorem zo (A:Option Addr) (n c:Nat) (l:List UInt8) (i:Int) (w:World) (hT:Ts w) (hA:Sl w A (l.map af)) (hn:l.length=n) (hsz:n≤2 ^ 47) (hi: -9223372036854775808≤i∧i≤9223372036854775807):
  Calls Tryz.prog 258 #[.slice A n c,.int .i64 i] w fun e w'=>e= .returned (.tuple #[.int .i64 (ac bH cf l i).1,.int .i64 (ac bH cf l i).2.1,.int .i64 (ac bH cf l i).2.2])∧Below w.heap.size w w':=by
 have HA:=zAA hA;have Hn:=zAA hn;have HT:=zAA hT
 clear hA hn hT
 go_enter Tryz.func258,Tryz.ntmps258
 go_wp2_with (first
  |(go_at_call 163;refine (pJ _ HT.out).mono ?_;rintro e w1 ⟨base,T,rfl,hpt,hb1⟩;have HPT:=zAA hpt;have HB1:=zAA hb1;clear hpt hb1)
  |(go_at_call 275;refine (rp pH _ base T HPT.out A n c l i (HA.out.below HB1.out) Hn.out hsz hi).mono ?_;rintro e w2 ⟨rfl,hb2⟩;have HB2:=zAA hb2;clear hb2))
 go_ret3
 exact ⟨rfl,HB1.out.trans (HB2.out.mono HB1.out.size)⟩
theorem FL:cf=(List.range bH.length).map fun i:Nat=>1+(i:Int):=by
 unfold cf
 rw [show bH.length=63 by kernel_rfl]
 apply List.map_congr_left
 intro j _
 omega
theorem Ec {k:Int} (h1:1≤k) (h2:k≤63):(dS bH cf k).getD []=i6 k∧(dS bH cf k).isSome=true:=by
 rw [FL,ph]
 unfold i6 dG
 refine ⟨rfl,?_⟩
 rw [if_neg (by omega),List.getElem?_eq_getElem (by rw [show bH.length=63 by kernel_rfl];omega)]
 rfl
theorem zq (k:Int) (w:World) (hT:Ts w) (h1:1≤k) (h2:k≤63):Calls Tryz.prog 111 #[.int .i64 k] w fun e w'=>e= .returned (.tuple #[.string (bs (i6 k)),.int .i64 0])∧Below w.heap.size w w':=by
 have hk:=Ec h1 h2
 have HT:=zAA hT
 have CP:=zAA (fun W base T hT=>xS pH W base T hT k (yI (by omega) (by omega)))
 rw [hk.1,hk.2] at CP
 clear hk hT
 go_enter Tryz.func111,Tryz.ntmps111
 go_wp2_with (first
  |(go_at_call 163;refine (pJ _ HT.out).mono ?_;rintro e w1 ⟨base,T,rfl,hpt,hb1⟩;have HPT:=zAA hpt;have HB1:=zAA hb1;clear hpt hb1)
  |(go_at_call 158;refine (CP.out _ base T HPT.out).mono ?_;rintro e w2 ⟨rfl,hb2⟩;have HB2:=zAA hb2;clear hb2))
 go_ret2
 exact ⟨rfl,HB1.out.trans (HB2.out.mono HB1.out.size)⟩
end Go.Proofs.YthhijgcfbjcgiaaGreatDoor
