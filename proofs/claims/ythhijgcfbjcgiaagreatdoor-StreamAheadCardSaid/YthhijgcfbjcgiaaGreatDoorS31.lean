/- Stg, StgW, StgI, MGetL, MGet -/
import Derived.Test.YthhijgcfbjcgiaaGreatDoorS29
import Derived.Test.YthhijgcfbjcgiaaGreatDoorS22
import Derived.Test.YthhijgcfbjcgiaaGreatDoorS30
import Derived.Sort.CutIn
import Derived.Test.YthhijgcfbjcgiaaGreatDoorS02
namespace Go.Proofs.YthhijgcfbjcgiaaGreatDoor
open Go Go.RowKit
attribute [local go_sem] Oper.semAt_some
open Go.Lib renaming hid→zAA
open List renaming setIfInBounds_toArray→zAB,set_cons_succ→zAC,set_cons_zero→zAD,replicate→zAE,drop_succ_cons→zAF,drop_zero→zAH
open Go.World renaming size_alloc→zAG
abbrev ji:Type:=Nat×Nat×Nat×Nat
def mr (g:Nat):ji→Value
 |(0,_)=> .func (.func 224) #[.pointer (some ⟨g,0,none⟩)] #[]
 |(1,_)=> .func (.func 225) #[.pointer (some ⟨g,0,none⟩)] #[]
 |(2,b0,b1,b2)=> .func (.func 255) #[] #[.pointer (some ⟨b0,0,none⟩),.pointer (some ⟨b1,0,none⟩),.pointer (some ⟨b2,0,none⟩)]
 |(3,b0,b1,b2)=> .func (.func 255) #[] #[.pointer (some ⟨b0,0,none⟩),.pointer (some ⟨b1,0,none⟩),.pointer (some ⟨b2,0,none⟩)]
 |(4,_)=> .func (.func 227) #[.pointer (some ⟨g,0,none⟩)] #[]
 |(_,_)=> .func (.func 228) #[.pointer (some ⟨g,0,none⟩)] #[]
def cw (pre:List ji):List Nat:=pre.map (·.1)
theorem bS (pre:List ji) (x:ji):cw (pre++[x])=cw pre++[x.1]:=by simp [cw]
structure dl (w0:World) (g:Nat) (A:Option Addr) (n c:Nat) (l:List UInt8) (s0:aW) (L:List aI) (ts:List Nat) (u:Nat) (W:World):Prop where
 ex:∃s bl v xs,br l ts s0 []=((s,bl),0)∧hH w0 g A n c {au s u with v:=v} xs W∧xs.map (·.1)=bl
 cl:aa L W
structure ks (g:Nat) (A:Option Addr) (n c:Nat) (pt:Bool×Bool×Bool×Bool×Bool) (x y:Int) (L:List aI) (W:World):Prop where
 cl:aa L W
 ex:∃s:aW,ab W g 208 (fR A n c s)∧s.pt=pt∧s.x=x∧s.y=y
def ID (g:Nat) (x0 y0:Int):ji→World→Prop
 |(2,b0,b1,b2),W=>ab W b0 206 #[.pointer (some ⟨g,0,none⟩)]∧ab W b1 3 #[.int .i64 x0]∧ab W b2 250 #[.pointer (some ⟨g,10,none⟩)]
 |(3,b0,b1,b2),W=>ab W b0 206 #[.pointer (some ⟨g,0,none⟩)]∧ab W b1 3 #[.int .i64 y0]∧ab W b2 250 #[.pointer (some ⟨g,11,none⟩)]
 |_,_=>True
section
variable {w0 W W':World} {g:Nat} {A:Option Addr} {n c:Nat} {l:List UInt8} {s0:aW} {L:List aI} {ts:List Nat} {u:Nat} {pt:Bool×Bool×Bool×Bool×Bool} {x y:Int}
theorem dl.below (h:dl w0 g A n c l s0 L ts u W) (hb:Below W.heap.size W W'):dl w0 g A n c l s0 L ts u W':=by
 obtain ⟨⟨s,bl,v,xs,h1,h2,h3⟩,h4⟩:=h
 exact ⟨⟨s,bl,v,xs,h1,h2.mono hb,h3⟩,h4.below hb⟩
theorem ks.below (h:ks g A n c pt x y L W) (hb:Below W.heap.size W W'):ks g A n c pt x y L W':=by
 obtain ⟨h1,s,h2,h3⟩:=h
 exact ⟨h1.below hb,s,h2.below hb h2.lt,h3⟩
theorem ks.c4 (h:ks g A n c pt x y L W):W.cell? ⟨g,4,none⟩=some (.bool pt.2.2.1):=by
 obtain ⟨_,s,h2,rfl,_⟩:=h
 exact h2.cell 4
theorem ks.c14 (h:ks g A n c pt x y L W):W.cell? ⟨g,14,none⟩=some (.int .i64 x):=by
 obtain ⟨_,s,h2,_,rfl,_⟩:=h
 exact h2.cell 14
theorem ks.c15 (h:ks g A n c pt x y L W):W.cell? ⟨g,15,none⟩=some (.int .i64 y):=by
 obtain ⟨_,s,h2,_,_,rfl⟩:=h
 exact h2.cell 15
theorem dl.st (h:dl w0 g A n c l s0 L (0::ts) u W) (hn:0 ∉ ts):ks g A n c (aB l s0 0).1.1.pt s0.x s0.y L W:=by
 obtain ⟨⟨s,bl,v,xs,e,hr,_⟩,hc⟩:=h
 have b:=qv l _ e
 refine ⟨hc,_,hr.cell,?_,?_,?_⟩
 ·exact (bo s u).2.2.2.1.trans (oC l e hn)
 ·exact (bo s u).2.1.trans b.1
 ·exact (bo s u).2.2.1.trans b.2
theorem dl.blk (h:dl w0 g A n c l s0 L (0::ts) u W) (hn:0 ∉ ts):∃s,ab W g 208 (fR A n c s)∧s.pt=(aB l s0 0).1.1.pt:=by
 obtain ⟨_,s,h2,h3,_⟩:=h.st hn
 exact ⟨s,h2,h3⟩
theorem dl.low (h:dl w0 g A n c l s0 L ts u W) (hu:u<4) {u':Nat} (hu':u'<4):dl w0 g A n c l s0 L ts u' W:=by
 obtain ⟨⟨s,bl,v,xs,e,hr,h3⟩,hc⟩:=h
 refine ⟨⟨s,bl,v,xs,e,?_,h3⟩,hc⟩
 rw [jH s hu] at hr
 rw [jH s hu']
 exact hr
theorem dl.four (h:dl w0 g A n c l s0 L ts 5 W):dl w0 g A n c l s0 L ts 4 W:=by
 obtain ⟨⟨s,bl,v,xs,e,hr,h3⟩,hc⟩:=h
 refine ⟨⟨s,bl,v,xs,e,?_,h3⟩,hc⟩
 rw [IK s]
 exact hr
theorem dl.five (h:dl w0 g A n c l s0 L (0::ts) 0 W) (hn:0 ∉ ts) (hI:(aB l s0 0).1.1.pt.1=false):dl w0 g A n c l s0 L (0::ts) 5 W:=by
 obtain ⟨⟨s,bl,v,xs,e,hr,h3⟩,hc⟩:=h
 refine ⟨⟨s,bl,v,xs,e,?_,h3⟩,hc⟩
 have:=oC l e hn
 have e5:au s 5=s:=by unfold au;rw [this,hI,if_neg (by simp)]
 rw [jH s (by decide)] at hr
 rw [e5]
 exact hr
theorem dl.set (h:dl w0 g A n c l s0 L (0::ts) 0 W) (hn:0 ∉ ts) (hI:(aB l s0 0).1.1.pt.1=true) (hg:w0.heap.size≤g) (hL:∀q∈L,q.1≠g):dl w0 g A n c l s0 L (0::ts) 5 (W.setCell ⟨g,12,none⟩ (.int .i64 63)):=by
 obtain ⟨⟨s,bl,v,xs,e,hr,h3⟩,hc⟩:=h
 refine ⟨⟨s,bl,v,xs,e,?_,h3⟩,hc.far hL _⟩
 have:=oC l e hn
 have e5:au s 5={s with pa:=63}:=by unfold au;rw [this,hI,if_pos ⟨by decide,rfl⟩]
 rw [jH s (by decide)] at hr
 rw [e5]
 exact hr.turn hg (cQ (dD.refl _ W) 12 (.int .i64 63)) (hr.cell.set_ 12 (.int .i64 63)) rfl
theorem dl.again (h:dl w0 g A n c l s0 L (ts++[5]) 0 W):dl w0 g A n c l s0 L (ts++[5]) 5 W:=by
 obtain ⟨⟨s,bl,v,xs,e,hr,h3⟩,hc⟩:=h
 refine ⟨⟨s,bl,v,xs,e,?_,h3⟩,hc⟩
 rw [jH s (by decide)] at hr
 rw [uU l e]
 exact hr
theorem dl.count (h:dl w0 g A n c l s0 L (0::eC (aB l s0 0).1.1) 5 W):∃pa,W.cell? ⟨g,12,none⟩=some (.int .i64 pa)∧dV l s0=0::(eC (aB l s0 0).1.1++zAE (cI pa) 5):=by
 obtain ⟨⟨s,bl,v,xs,e,hr,h3⟩,hc⟩:=h
 exact ⟨_,hr.cell.cell 12,Iq l e⟩
end
theorem xT (g k:Nat) (fr:Int) (w:World):Calls Tryz.prog 226 #[.pointer (some ⟨g,0,none⟩),.pointer (some ⟨g,k,none⟩),.int .i64 fr] w fun e w'=>∃b0 b1 b2,e= .returned (.func (.func 255) #[] #[.pointer (some ⟨b0,0,none⟩),.pointer (some ⟨b1,0,none⟩),.pointer (some ⟨b2,0,none⟩)])∧
  Below w.heap.size w w'∧ab w' b0 206 #[.pointer (some ⟨g,0,none⟩)]∧ab w' b1 3 #[.int .i64 fr]∧ab w' b2 250 #[.pointer (some ⟨g,k,none⟩)]:=by
 refine (H9 g k fr w).mono ?_
 rintro e w' ⟨rfl,rfl⟩
 refine ⟨_,_,_,rfl,?_,?_,?_,?_⟩
 ·exact (((Below.refl _ w).alloc (Nat.le_refl _) _).alloc (by simp) _).alloc (by simp;omega) _
 ·(repeat (first|(refine aD (ab.new _ _ _) ?_;simp;done)|refine ab.alloc ?_ _))
 ·(repeat (first|(refine aD (ab.new _ _ _) ?_;simp [zAG];done)|refine ab.alloc ?_ _))
 ·(repeat (first|(refine aD (ab.new _ _ _) ?_;simp [zAG];done)|refine ab.alloc ?_ _))
theorem JN (g b0 b1 b2:Nat):mr g (2,b0,b1,b2)= .func (.func 255) #[] #[.pointer (some ⟨b0,0,none⟩),.pointer (some ⟨b1,0,none⟩),.pointer (some ⟨b2,0,none⟩)]:=rfl
theorem JO (g b0 b1 b2:Nat):mr g (3,b0,b1,b2)= .func (.func 255) #[] #[.pointer (some ⟨b0,0,none⟩),.pointer (some ⟨b1,0,none⟩),.pointer (some ⟨b2,0,none⟩)]:=rfl
set_option maxRecDepth 100000 in
set_option maxHeartbeats 8000000 in
theorem CD (k:Nat) (hk:1≤k) (g bc:Nat) (x0 y0:Int) (i q v c:Bool) (hci:c=true→i=false) (T1 T2 T3 TL:List Nat) (R:List Nat→Nat→World→Prop) (T:World→Prop)
  (hT1:T1=0::(if q then [1] else [])) (hT2:T2=T1++(if v then [2,3] else [])) (hT3:T3=T2++(if c then [4] else []))
  (hRb:∀ts u W W',R ts u W→Below W.heap.size W W'→R ts u W') (hTb:∀W W',T W→Below W.heap.size W W'→T W')
  (hB0:∀ts u W,R ts u W→ab W bc 206 #[.pointer (some ⟨g,0,none⟩)]) (hB1:∀W,T W→ab W bc 206 #[.pointer (some ⟨g,0,none⟩)])
  (hC3:∀W,R [0] 0 W→W.cell? ⟨g,3,none⟩=some (.bool q)) (hC4:∀W,T W→W.cell? ⟨g,4,none⟩=some (.bool v)) (hC14:∀W,T W→W.cell? ⟨g,14,none⟩=some (.int .i64 x0)) (hC15:∀W,T W→W.cell? ⟨g,15,none⟩=some (.int .i64 y0))
  (hC2:∀W,R T2 0 W→W.cell? ⟨g,2,none⟩=some (.bool i)) (hC6:∀W,R T2 5 W→W.cell? ⟨g,6,none⟩=some (.bool c)) (hCg:∀ts u W,R ts u W→∃C,C.size=16∧ab W g 208 C)
  (hRT1:∀W,R T1 0 W→T W) (hRT2:∀W,R (T1++[2]) 0 W→T W) (hlow:∀ts u W,R ts 0 W→u<4→R ts u W) (h5:∀W,i=false→R T2 0 W→R T2 5 W) (h5':∀W,i=false→R T3 0 W→R T3 5 W) (hset:∀W,i=true→R T2 0 W→R T2 5 (W.setCell ⟨g,12,none⟩ (.int .i64 63)))
  (h4:∀W,R T2 5 W→R T2 4 W) (hag:∀ts W,R (ts++[5]) 0 W→R (ts++[5]) 5 W) (hcnt:∀W,R T3 5 W→∃pa,W.cell? ⟨g,12,none⟩=some (.int .i64 pa)∧TL=T3++zAE (cI pa) 5) (hpre:T3<+:TL):
  Bs Fence.wide k Tryz.prog 223 #[.pointer (some ⟨bc,0,none⟩)] (fun x:ji=> #[mr g x])
   (fun _ W=>R [] 0 W) (fun pre x W=>R (cw pre) x.1 W∧ID g x0 y0 x W) (fun pre W=>R (cw pre) 0 W) (fun pre W=>R (cw pre) 5 W) (fun xs=>cw xs=TL) (fun pre=>cw pre<+:TL) T:=by
 intro lp K Jx W hK hJS hY h00 hk0
 refine callsIn_of_wp Tryz.func223 rfl trivial ?_ rfl
 simp only [Tryz.ntmps223,List.size_toArray,List.length_cons,List.length_nil,Nat.reduceAdd,Nat.reduceSub,Array.replicate_succ,Array.replicate_zero,List.push_toArray,List.append_toArray,List.nil_append,List.cons_append]
 have HY:=zAA hY;have HK:=zAA hK;have HJS:=zAA hJS;have HK0:=zAA hk0;have H0:=zAA h00
 have HRb:=zAA hRb;have HTb:=zAA hTb;have HB0:=zAA hB0;have HB1:=zAA hB1;have HC3:=zAA hC3;have HC4:=zAA hC4;have HC14:=zAA hC14;have HC15:=zAA hC15
 have HC2:=zAA hC2;have HC6:=zAA hC6;have HCg:=zAA hCg;have HRT1:=zAA hRT1;have HRT2:=zAA hRT2;have Hlow:=zAA hlow;have H5:=zAA h5;have H5':=zAA h5';have Hset:=zAA hset;have H4:=zAA h4
 have Hag:=zAA hag;have Hcnt:=zAA hcnt;have Hpre:=zAA hpre;have HT1:=zAA hT1;have HT2:=zAA hT2;have HT3:=zAA hT3;have Hci:=zAA hci
 clear hY hK hJS hk0 h00 hRb hTb hB0 hB1 hC3 hC4 hC14 hC15 hC2 hC6 hCg hRT1 hRT2 hlow h5 h5' hset h4 hag hcnt hpre hT1 hT2 hT3 hci
 gi_upto_region 0 with fail
 gi_cut [21] from 2 (fun s21 wx=>(s21= .bool true∧Hid (∃pre,cw pre<+:TL∧Jx pre wx))∨(s21= .bool false∧∃pre,Hid (cw pre=T1)∧Hid (R T1 0 wx)∧Hid (K wx)))
 case first=>
  have z0:=(HB0.out _ _ _ H0.out).cell 0
  (try dsimp only at z0)
  obtain ⟨fn,tmps,assign,body,hyy,hR⟩:=HY.out [] (0,0,0,0) W ⟨H0.out,trivial⟩ HK0.out ((show [0]<+:T3 by rw [HT3.out,HT2.out,HT1.out];exact ⟨_,by simp;rfl⟩).trans Hpre.out)
  have HRd:=zAA hR
  dsimp only [mr] at hyy
  clear hR
  gi_wp2_with fail
  refine HRd.out.mono ?_
  rintro e W1 (⟨rfl,hI,hk1⟩|⟨rfl,hJ⟩)
  ·have z1:=(HB0.out _ _ _ hI).cell 0
   have z2:=HC3.out _ hI
   have HI:=zAA hI;have HK1:=zAA hk1
   (try dsimp only at z1 z2)
   clear hI hk1 hyy HRd z0
   have hTq:cw [((0,0,0,0):ji)]=[0]:=rfl
   cases q with
   |false=>
    have hT1:T1=[0]:=HT1.out
    gi_wp2_with (refine wpListIn_skip (by rfl) (by rfl) ?_)
    gi_meet
    case rel=>exact .inr ⟨rfl,[(0,0,0,0)],zAA (by rw [hT1];rfl),zAA (by rw [hT1];exact HI.out),HK1⟩
   |true=>
    have hT1:T1=[0,1]:=HT1.out
    obtain ⟨fn,tmps,assign,body,hyy,hR⟩:=HY.out [(0,0,0,0)] (1,0,0,0) W1 ⟨Hlow.out _ _ _ HI.out (by decide),trivial⟩ HK1.out ((show [0,1]<+:T3 by rw [HT3.out,HT2.out,hT1];exact ⟨_,by simp;rfl⟩).trans Hpre.out)
    have HRd:=zAA hR
    dsimp only [mr] at hyy
    clear hR hTq
    have HTT:=zAA hT1
    clear hT1
    gi_wp2_with fail
    refine HRd.out.mono ?_
    rintro e W2 (⟨rfl,hI,hk1⟩|⟨rfl,hJ⟩)
    ·have HI2:=zAA hI;have HK2:=zAA hk1
     clear hI hk1 hyy HRd z1 z2
     gi_wp2_with fail
     gi_meet
     case rel=>exact .inr ⟨rfl,[(0,0,0,0),(1,0,0,0)],zAA (by rw [HTT.out];rfl),zAA (by rw [HTT.out];exact HI2.out),HK2⟩
    ·have HJ2:=zAA hJ
     clear hJ hyy HRd z1 z2
     gi_wp2_with fail
     gi_meet
     case rel=>exact .inl ⟨rfl,zAA ⟨[(0,0,0,0),(1,0,0,0)],(show [0,1]<+:T3 by rw [HT3.out,HT2.out,HTT.out];exact ⟨_,by simp;rfl⟩).trans Hpre.out,HJ2.out⟩⟩
  ·have HJ2:=zAA hJ
   clear hJ hyy HRd z0
   gi_wp2_with (refine wpListIn_skip (by rfl) (by rfl) ?_)
   gi_meet
   case rel=>exact .inl ⟨rfl,zAA ⟨[(0,0,0,0)],(show [0]<+:T3 by rw [HT3.out,HT2.out,HT1.out];exact ⟨_,by simp;rfl⟩).trans Hpre.out,HJ2.out⟩⟩
 rcases hcut with ⟨rfl,HS⟩|⟨rfl,pre,HT,HRr,HK1⟩
 ·gi_wp2_with fail
  refine bodyPost_ret (results_none rfl _ _ _) rfl ?_
  exact ⟨⟨_,rfl⟩,.inr HS.out⟩
 gi_upto_region 1 with fail
 gi_cut [56] from 2 (fun s56 wx=>(s56= .bool true∧Hid (∃pre,cw pre<+:TL∧Jx pre wx))∨(s56= .bool false∧∃pre,Hid (cw pre=T2)∧Hid (R T2 0 wx)∧Hid (K wx)))
 case first=>
  have hB0:Below wc.heap.size wc wc.drew:=(Below.refl _ wc).drew
  have hR0:=HRb.out _ _ _ _ HRr.out hB0
  have HR0:=zAA hR0
  have HS0:=zAA (HRT1.out _ hR0)
  have HK0':=zAA (HK.out.below HK1.out hB0)
  have HTT:=zAA (show cw pre=T1 from HT.out)
  clear hB0 hR0
  refine kS (fun w'=>T w') 31 (.take 0 (.take 1 (.take 2 (.take 3 (.take 4 (.take 5 (.take 6 (.take 7 (.take 8 (.take 9 (.take 10 (.take 11 (.take 12 (.take 13 (.take 14 (.take 15 (.step 16 (.step 17 (.take 18 (.take 19 (.take 20 (.take 21 (.take 22 (.take 23 (.take 24 (.take 25 (.take 26 (.take 27 (.take 28 (.take 29 (.step 30 .done))))))))))))))))))))))))))))))) rfl (by kernel_rfl) (by kernel_rfl) (fun _ _ d _ _ h=>by cases d<;>exact h) (by simp only [aR.out,Array.getD_eq_getD_getElem?,List.getElem?_toArray,List.getElem?_cons_zero,List.getElem?_cons_succ,Option.getD_some];rfl) (by simp only [List.map_cons,List.map_nil];rfl) (HS0.out) (fun PE hPE=>?_)
  iterate 6
   refine fH (v:=?_) rfl (by rfl) ?_ (fun _=>rfl) ?_
   rotate_left
   ·intro _ hSw;(try dsimp only at hSw);have z0:=(HB1.out _ hSw).cell 0;have z1:=HC4.out _ hSw;go_simp;(try with_reducible rfl)
   simp only [zAB,zAD,zAC]
  cases v with
  |false=>
   iterate 10
    refine lB rfl (by rfl) (fun _=>rfl) ?_
    simp only [zAB,zAD,zAC]
   refine jB (by rfl) rfl HS0.out ?_
   simp only [zAB,zAD,zAC]
   refine jB (by rfl) rfl HS0.out ?_
   simp only [zAB,zAD,zAC]
   iterate 12
    refine lB rfl (by rfl) (fun _=>rfl) ?_
    simp only [zAB,zAD,zAC]
   refine jB (by rfl) rfl HS0.out ?_
   simp only [zAB,zAD,zAC]
   refine hPE _ _ ?_
   clear hPE PE
   simp only [zAF,zAH]
   gi_wp2_with (refine wpListIn_skip (by rfl) (by rfl) ?_)
   gi_meet
   case rel=>exact .inr ⟨rfl,pre,zAA (by rw [HT2.out,HTT.out];simp),zAA (by rw [HT2.out];simpa using HR0.out),HK0'⟩
  |true=>
   iterate 10
    refine fH (v:=?_) rfl (by rfl) ?_ (fun _=>rfl) ?_
    rotate_left
    ·intro _ hSw;(try dsimp only at hSw);have z0:=(HB1.out _ hSw).cell 0;have z2:=HC14.out _ hSw;go_simp;(try with_reducible rfl)
    simp only [zAB,zAD,zAC]
   have C:=zAA (xT g 10 x0 wc.drew)
   refine lA (f:=226) rfl (by rfl) (by first|(go_simp;done)|(go_simp;rfl)) C.out ?_
   rintro e w2 ⟨b0,b1,b2,rfl,hb2,hp0,hp1,hp2⟩
   have HR2:=zAA (HRb.out _ _ _ _ HR0.out hb2)
   have HS2:=zAA (HTb.out _ _ HS0.out hb2)
   have HK2:=zAA (HK.out.below HK0'.out hb2)
   refine ⟨_,rfl,T,fun _ h=>h,HS2.out,?_⟩
   simp only [zAB,zAD,zAC]
   have HP2:=zAA (show T1++[2]<+:TL from (show T1++[2]<+:T3 by rw [HT3.out,HT2.out];exact ⟨_,by simp;rfl⟩).trans Hpre.out)
   obtain ⟨fn,tmps,assign,body,hyy,hR⟩:=HY.out pre (2,b0,b1,b2) w2 ⟨Hlow.out _ 2 _ (by rw [HTT.out];exact HR2.out) (by decide),hp0,hp1,hp2⟩ HK2.out (by show cw _<+:TL;rw [bS,HTT.out];exact HP2.out)
   have HRd:=zAA hR
   simp only [JN] at hyy
   clear hR hb2 hp0 hp1 hp2
   refine zF rfl (by rfl) (by first|(go_simp;done)|(go_simp;rfl)) HRd.out ?_
   rintro e W3 (⟨rfl,hI,hk1⟩|⟨rfl,hJ⟩)
   ·rw [bS,HTT.out] at hI
    have HI3:=zAA hI;have HK3:=zAA hk1
    have HS3:=zAA (HRT2.out _ hI)
    clear hI hk1 hyy HRd
    refine ⟨_,rfl,T,fun _ h=>h,HS3.out,?_⟩
    simp only [zAB,zAD,zAC]
    iterate 2
     refine fH (v:=?_) rfl (by rfl) ?_ (fun _=>rfl) ?_
     rotate_left
     ·intro _ hSw;(try dsimp only at hSw);go_simp;(try with_reducible rfl)
     simp only [zAB,zAD,zAC]
    iterate 10
     refine fH (v:=?_) rfl (by rfl) ?_ (fun _=>rfl) ?_
     rotate_left
     ·intro _ hSw;(try dsimp only at hSw);have z0:=(HB1.out _ hSw).cell 0;have z2:=HC15.out _ hSw;go_simp;(try with_reducible rfl)
     simp only [zAB,zAD,zAC]
    have C4:=zAA (xT g 11 y0 W3)
    refine lA (f:=226) rfl (by rfl) (by first|(go_simp;done)|(go_simp;rfl)) C4.out ?_
    rintro e w4 ⟨c0,c1,c2,rfl,hb4,hq0,hq1,hq2⟩
    have HR4:=zAA (HRb.out _ _ _ _ HI3.out hb4)
    have HS4:=zAA (HTb.out _ _ HS3.out hb4)
    have HK4:=zAA (HK.out.below HK3.out hb4)
    refine ⟨_,rfl,T,fun _ h=>h,HS4.out,?_⟩
    simp only [zAB,zAD,zAC]
    have HP4:=zAA (show (T1++[2])++[3]<+:TL from (show (T1++[2])++[3]<+:T3 by rw [HT3.out,HT2.out];exact ⟨_,by simp;rfl⟩).trans Hpre.out)
    obtain ⟨fn,tmps,assign,body,hyy,hR⟩:=HY.out (pre++[(2,b0,b1,b2)]) (3,c0,c1,c2) w4 ⟨Hlow.out _ 3 _ (by rw [bS,HTT.out];exact HR4.out) (by decide),hq0,hq1,hq2⟩ HK4.out (by show cw _<+:TL;rw [bS,bS,HTT.out];exact HP4.out)
    have HRd:=zAA hR
    simp only [JO] at hyy
    clear hR hb4 hq0 hq1 hq2
    refine hPE _ _ ?_
    clear hPE PE
    simp only [zAF,zAH]
    gi_wp2_with fail
    refine HRd.out.mono ?_
    rintro e W5 (⟨rfl,hI,hk1⟩|⟨rfl,hJ⟩)
    ·simp only [bS,HTT.out] at hI
     have HI5:=zAA hI;have HK5:=zAA hk1
     clear hI hk1 hyy HRd
     gi_wp2_with fail
     gi_meet
     case rel=>exact .inr ⟨rfl,pre++[(2,b0,b1,b2)]++[(3,c0,c1,c2)],zAA (by rw [bS,bS,HT2.out,HTT.out];simp),zAA (by rw [HT2.out];simpa using HI5.out),HK5⟩
    ·have HJ5:=zAA hJ
     clear hJ hyy HRd
     gi_wp2_with fail
     gi_meet
     case rel=>exact .inl ⟨rfl,zAA ⟨pre++[(2,b0,b1,b2)]++[(3,c0,c1,c2)],by show cw _<+:TL;rw [bS,bS,HTT.out];exact HP4.out,HJ5.out⟩⟩
   ·have HJ3:=zAA hJ
    have HS3:=zAA (HJS.out _ _ hJ)
    clear hJ hyy HRd
    refine ⟨_,rfl,T,fun _ h=>h,HS3.out,?_⟩
    simp only [zAB,zAD,zAC]
    iterate 2
     refine fH (v:=?_) rfl (by rfl) ?_ (fun _=>rfl) ?_
     rotate_left
     ·intro _ hSw;(try dsimp only at hSw);go_simp;(try with_reducible rfl)
     simp only [zAB,zAD,zAC]
    iterate 10
     refine lB rfl (by rfl) (fun _=>rfl) ?_
     simp only [zAB,zAD,zAC]
    refine jB (by rfl) rfl HS3.out ?_
    simp only [zAB,zAD,zAC]
    refine hPE _ _ ?_
    clear hPE PE
    simp only [zAF,zAH]
    gi_wp2_with (refine wpListIn_skip (by rfl) (by rfl) ?_)
    gi_meet
    case rel=>exact .inl ⟨rfl,zAA ⟨pre++[(2,b0,b1,b2)],by show cw _<+:TL;rw [bS,HTT.out];exact HP2.out,HJ3.out⟩⟩
 rcases hcut with ⟨rfl,HS⟩|⟨rfl,pre,HT,HRr,HK1⟩
 ·gi_wp2_with fail
  refine bodyPost_ret (results_none rfl _ _ _) rfl ?_
  exact ⟨⟨_,rfl⟩,.inr HS.out⟩
 have z0:=(HB0.out _ _ _ HRr.out).cell 0
 have z1:=HC2.out _ HRr.out
 obtain ⟨CC,hCC,hbC⟩:=HCg.out _ _ _ HRr.out
 have z2:wc.cell? ⟨g,12,none⟩=some (CC[12]'(by omega)):=by rw [hbC.cell 12];simp [hCC]
 have z3:=hbC.frozen 12
 have HbC:=zAA hbC
 clear hbC
 (try dsimp only at z0 z1 z2 z3)
 gi_upto_if 61 with fail
 gi_cut [] from 2 (fun wx=>∃pre,Hid (cw pre=T2)∧Hid (R T2 5 wx)∧Hid (K wx))
 case first=>
  cases i with
  |false=>
   gi_wp2_with fail
   gi_meet
   case rel=>exact ⟨pre,HT,zAA (H5.out _ (by trivial) HRr.out),HK1⟩
  |true=>
   gi_wp2_with fail
   gi_meet
   case rel=>exact ⟨pre,HT,zAA (Hset.out _ (by trivial) HRr.out),zAA (HK.out.set (p:=⟨g,12,none⟩) HK1.out HbC.out)⟩
 clear z0 z1 z2 z3 HbC
 obtain ⟨pre2,HTa,HRa,HKa⟩:=hcut
 have z0:=(HB0.out _ _ _ HRa.out).cell 0
 have z1:=HC6.out _ HRa.out
 (try dsimp only at z0 z1)
 gi_upto_region 4 with fail
 gi_cut [77] from 2 (fun s77 wx=>(s77= .bool true∧Hid (∃pre,cw pre<+:TL∧Jx pre wx))∨(s77= .bool false∧∃pre,Hid (cw pre=T3)∧Hid (R T3 5 wx)∧Hid (K wx)))
 case first=>
  cases c with
  |false=>
   gi_wp2_with (refine wpListIn_skip (by rfl) (by rfl) ?_)
   gi_meet
   case rel=>exact .inr ⟨rfl,pre2,zAA (by rw [HTa.out,HT3.out];simp),zAA (by rw [HT3.out];simpa using HRa.out),HKa⟩
  |true=>
   have HT4:Hid (T3=T2++[4]):=zAA (by rw [HT3.out];simp)
   obtain ⟨fn,tmps,assign,body,hyy,hR⟩:=HY.out pre2 (4,0,0,0) _ ⟨by rw [HTa.out];exact H4.out _ HRa.out,trivial⟩ HKa.out (by show cw _<+:TL;rw [bS,HTa.out];have h:=Hpre.out;rw [HT4.out] at h;exact h)
   have HRd:=zAA hR
   dsimp only [mr] at hyy
   clear hR
   gi_wp2_with fail
   refine HRd.out.mono ?_
   rintro e W5 (⟨rfl,hI,hk1⟩|⟨rfl,hJ⟩)
   ·rw [bS,HTa.out] at hI
    have HI5:=zAA hI;have HK5:=zAA hk1
    clear hI hk1 hyy HRd z0 z1
    gi_wp2_with fail
    gi_meet
    case rel=>exact .inr ⟨rfl,pre2++[(4,0,0,0)],zAA (by rw [bS,HTa.out,HT4.out]),zAA (H5'.out _ (Hci.out (by trivial)) (by rw [HT4.out];exact HI5.out)),HK5⟩
   ·have HJ5:=zAA hJ
    clear hJ hyy HRd z0 z1
    gi_wp2_with fail
    gi_meet
    case rel=>exact .inl ⟨rfl,zAA ⟨pre2++[(4,0,0,0)],by show cw _<+:TL;rw [bS,HTa.out];have h:=Hpre.out;rw [HT4.out] at h;exact h,HJ5.out⟩⟩
 clear z0 z1
 rcases hcut with ⟨rfl,HS⟩|⟨rfl,pre3,HTb3,HRc,HKc⟩
 ·gi_wp2_with fail
  refine bodyPost_ret (results_none rfl _ _ _) rfl ?_
  exact ⟨⟨_,rfl⟩,.inr HS.out⟩
 have z0:=(HB0.out _ _ _ HRc.out).cell 0
 obtain ⟨pa,z1,htl⟩:=Hcnt.out _ HRc.out
 obtain ⟨cn,hcn⟩:∃cn,cI pa=cn:=⟨_,rfl⟩
 have hc6:cn≤6:=by rw [←hcn];unfold cI;split<;>omega
 have CP:=zAA (fun W=>oW pa W)
 rw [hcn] at htl CP
 have HTL:=zAA htl;have HC6n:=zAA hc6
 clear htl hcn hc6
 (try dsimp only at z0 z1)
 gi_wp2_with (refine ⟨trivial,?_⟩;gi_at_call 127;refine (callsIn_wide.2 (CP.out _)).mono ?_;rintro e w2 ⟨rfl,hb2⟩;have HB2:=zAA hb2;clear hb2 z0 z1)
 gi_loopg [84] cn (fun gk i=>fun wr=>∃(j:Nat),j+gk=cn∧i= .int .i64 (j:Int)∧∃pre,Hid (cw pre=T3++zAE j 5)∧Hid (R (cw pre) 5 wr)∧Hid (K wr))
 case atStart=>
  exact ⟨0,by omega,rfl,pre3,zAA (by rw [HTb3.out];simp),zAA (by rw [HTb3.out];exact HRb.out _ _ _ _ HRc.out HB2.out),zAA (HK.out.below HKc.out HB2.out)⟩
 case round=>
  obtain ⟨j,hj,rfl,pre4,HTd,HRd4,HKd⟩:=hrel
  have z0:=(HB0.out _ _ _ HRd4.out).cell 0
  (try dsimp only at z0)
  have HJ:=zAA hj
  cases gk with
  |zero=>
   have hlt:¬((j:Int)<(cn:Int)):=by omega
   have hjc:j=cn:=by omega
   have HJC:=zAA hjc
   clear hj hjc
   gi_wp2_with fail
   refine bodyPost_end (results_none rfl _ _ _) rfl ?_
   exact ⟨⟨_,rfl⟩,.inl ⟨pre4,by rw [HTd.out,HTL.out,HJC.out],HRd4.out,HKd.out⟩⟩
  |succ gk=>
   have hlt:((j:Int)<(cn:Int)):=by omega
   have hw1:IntKind.i64.wrap ((j:Int)+1)=(j:Int)+1:=by have:=HC6n.out;rw [IntKind.wrap_i64];omega
   have HP4:Hid (cw (pre4++[((5,0,0,0):ji)])=T3++zAE (j+1) 5):=zAA (by rw [bS,HTd.out,List.append_assoc,List.replicate_succ'])
   have HPT:Hid (cw (pre4++[((5,0,0,0):ji)])<+:TL):=zAA (by
    rw [HP4.out,HTL.out]
    refine (List.prefix_append_right_inj _).2 ?_
    refine ⟨zAE (cn - (j+1)) 5,?_⟩
    rw [List.replicate_append_replicate]
    congr 1
    omega)
   obtain ⟨fn,tmps,assign,body,hyy,hR⟩:=HY.out pre4 (5,0,0,0) _ ⟨HRd4.out,trivial⟩ HKd.out HPT.out
   have HRd:=zAA hR
   dsimp only [mr] at hyy
   clear hR hj
   gi_wp2_with fail
   refine HRd.out.mono ?_
   rintro e W5 (⟨rfl,hI,hk1⟩|⟨rfl,hJ⟩)
   ·have hI':R (cw pre4++[5]) 0 W5:=by rw [bS] at hI;exact hI
    have HI5:=zAA (Hag.out _ _ hI');have HK5:=zAA hk1
    clear hI hI' hk1 hyy HRd z0
    gi_wp2_with fail
    gi_roundg gk
    case measure=>omega
    case rel=>exact ⟨j+1,by have:=HJ.out;omega,rfl,pre4++[(5,0,0,0)],HP4,zAA (by rw [bS];exact HI5.out),HK5⟩
   ·have HJ5:=zAA hJ
    clear hJ hyy HRd z0
    gi_wp2_with fail
    refine bodyPost_ret (results_none rfl _ _ _) rfl ?_
    exact ⟨⟨_,rfl⟩,.inr ⟨_,HPT.out,HJ5.out⟩⟩
end Go.Proofs.YthhijgcfbjcgiaaGreatDoor
namespace Go.Proofs.YthhijgcfbjcgiaaGreatDoor
open Go Go.RowKit
open List renaming replicate→zAA,eq_of_mem_replicate→zAB,cons_prefix_cons→zAC,cons_append→zAD,mem_append→zAE
open Int renaming add_zero→zAF
def II (w0:World) (g:Nat) (A:Option Addr) (n c:Nat) (l:List UInt8) (s0:aW) (L:List aI):List ji→World→Prop:=fun _ W=>dl w0 g A n c l s0 L [] 0 W
def IF (w0:World) (g:Nat) (A:Option Addr) (n c:Nat) (l:List UInt8) (s0:aW) (L:List aI):List ji→ji→World→Prop:=fun pre x W=>dl w0 g A n c l s0 L (cw pre) x.1 W∧ID g s0.x s0.y x W
def IG (w0:World) (g:Nat) (A:Option Addr) (n c:Nat) (l:List UInt8) (s0:aW) (L:List aI):List ji→World→Prop:=fun pre W=>dl w0 g A n c l s0 L (cw pre) 0 W
def IH (w0:World) (g:Nat) (A:Option Addr) (n c:Nat) (l:List UInt8) (s0:aW) (L:List aI):List ji→World→Prop:=fun pre W=>dl w0 g A n c l s0 L (cw pre) 5 W
theorem ks.one {g:Nat} {A:Option Addr} {n c:Nat} {pt:Bool×Bool×Bool×Bool×Bool} {x y:Int} {p:aI} {L:List aI} {W:World} (h:ks g A n c pt x y (p::L) W):ks g A n c pt x y [p] W:=⟨aa.cons h.cl.head (ag _),h.ex⟩
theorem Ey (k:Nat) (hk:1≤k) (w0:World) (g bc:Nat) (A:Option Addr) (n c:Nat) (l:List UInt8) (s0:aW) (L:List aI) (hg:w0.heap.size≤g) (hL:∀q∈(bc,206,#[Value.pointer (some ⟨g,0,none⟩)])::L,q.1≠g):
  Bs Fence.wide k Tryz.prog 223 #[.pointer (some ⟨bc,0,none⟩)] (fun x:ji=> #[mr g x])
   (II w0 g A n c l s0 ((bc,206,#[.pointer (some ⟨g,0,none⟩)])::L)) (IF w0 g A n c l s0 ((bc,206,#[.pointer (some ⟨g,0,none⟩)])::L)) (IG w0 g A n c l s0 ((bc,206,#[.pointer (some ⟨g,0,none⟩)])::L)) (IH w0 g A n c l s0 ((bc,206,#[.pointer (some ⟨g,0,none⟩)])::L))
   (fun xs=>cw xs=dV l s0) (fun pre=>cw pre<+:dV l s0) (ks g A n c (aB l s0 0).1.1.pt s0.x s0.y [(bc,206,#[.pointer (some ⟨g,0,none⟩)])]):=by
 have e0:∀b1 b2 b3:Bool,(0:Nat) ∉ (if b1 then [1] else [])++(if b2 then [2,3] else [])++(if b3 then [4] else []):=by decide
 have e1:∀b1:Bool,(0:Nat) ∉ (if b1 then [1] else []):=by decide
 have e2:∀b1 b2:Bool,(0:Nat) ∉ (if b1 then [1] else [])++(if b2 then [2,3] else []):=by decide
 have e3:∀b1:Bool,(0:Nat) ∉ (if b1 then [1] else [])++[2]:=by decide
 have hkd:(aB l s0 0).1.1.pt=kR (aB l s0 0).1.1.kd:=rfl
 refine CD k hk g bc s0.x s0.y (aB l s0 0).1.1.pt.1 (aB l s0 0).1.1.pt.2.1 (aB l s0 0).1.1.pt.2.2.1 (aB l s0 0).1.1.pt.2.2.2.2 ?_
  (0::(if (aB l s0 0).1.1.pt.2.1 then [1] else [])) (0::((if (aB l s0 0).1.1.pt.2.1 then [1] else [])++(if (aB l s0 0).1.1.pt.2.2.1 then [2,3] else []))) (0::eC (aB l s0 0).1.1) (dV l s0)
  (dl w0 g A n c l s0 ((bc,206,#[.pointer (some ⟨g,0,none⟩)])::L)) (ks g A n c (aB l s0 0).1.1.pt s0.x s0.y [(bc,206,#[.pointer (some ⟨g,0,none⟩)])]) rfl rfl rfl
  (fun ts u W W' h hb=>h.below hb) (fun W W' h hb=>h.below hb) (fun ts u W h=>h.cl.head) (fun W h=>h.cl.head) (fun W h=>?_) (fun W h=>h.c4) (fun W h=>h.c14) (fun W h=>h.c15) (fun W h=>?_) (fun W h=>?_) (fun ts u W h=>?_)
  (fun W h=>(h.st (e1 _)).one) (fun W h=>(h.st (e3 _)).one) (fun ts u W h hu=>h.low (by decide) hu) (fun W hi h=>h.five (e2 _ _) hi) (fun W hi h=>h.five (e0 _ _ _) hi) (fun W hi h=>h.set (e2 _ _) hi hg hL) (fun W h=>h.four) (fun ts W h=>h.again) (fun W h=>?_) ?_
 ·intro hc
  rw [hkd] at hc⊢
  unfold kR at hc⊢
  split at hc
  ·rename_i hi
   rw [if_pos hi]
   exact Ja hc
  ·cases hc
 ·obtain ⟨s,h2,h3⟩:=h.blk (ts:=[]) (by simp)
  have:=h2.cell 3
  rw [←h3]
  exact this
 ·obtain ⟨s,h2,h3⟩:=h.blk (e2 _ _)
  have:=h2.cell 2
  rw [←h3]
  exact this
 ·obtain ⟨s,h2,h3⟩:=h.blk (e2 _ _)
  have:=h2.cell 6
  rw [←h3]
  exact this
 ·obtain ⟨⟨s,bl,v,xs,e,hr,_⟩,_⟩:=h
  exact ⟨_,rfl,hr.cell⟩
 ·obtain ⟨pa,h1,h2⟩:=h.count
  exact ⟨pa,h1,h2⟩
 ·unfold dV
  exact ⟨_,rfl⟩
theorem ut:∀{cs:List (List UInt8)} {ns:List Int},(∀c∈cs,c≠[])→bK [] cs ns=none
 |[],_,_=>by rw [bK.eq_def]
 |_::_,[],_=>by rw [bK.eq_def]
 |c::cs,n::ns,h=>by
  rw [bK]
  have:c.isPrefixOf ([]:List UInt8)=false:=by
   have:=h c (by simp)
   cases c with
   |nil=>exact absurd rfl this
   |cons _ _=>rfl
  rw [this,if_neg (by decide)]
  exact ut (fun d hd=>h d (List.mem_cons_of_mem _ hd))
theorem oJ {cs:List (List UInt8)} {ns:List Int} {l:List UInt8} {i:Int} (hc:∀c∈cs,c≠[]) (h:8*(l.length:Int)<i):(ac cs ns l i).2.1=0∧(ac cs ns l i).2.2≠0:=by
 unfold ac jL
 rw [if_neg (by omega)]
 have e:min 24 (8*l.length - i.toNat)=0:=by omega
 rw [e,show aC l i.toNat 0=[] from rfl,ut hc]
 dsimp only
 split<;>exact ⟨rfl,by decide⟩
theorem rr:∀c∈aA,c≠[]:=by decide+kernel
theorem Jh (l:List UInt8) (s:aW) (v:Value) (t:Nat):aB l {s with v:=v} t=(({(aB l s t).1.1 with v:=v},(aB l s t).1.2),(aB l s t).2):=by
 match t with
 |0=>rfl
 |1=>
  show (if 8*(l.length:Int)<s.a+5 then _ else _)=((({(if 8*(l.length:Int)<s.a+5 then (({s with a:=s.a+5,qu:=0},[]),(5:Int)) else (({s with a:=s.a+5,qu:=((aF l s.a.toNat 5:Nat):Int)},([]:List bB)),if ((aF l s.a.toNat 5:Nat):Int)==0 then (9:Int) else 0)).1.1 with v:=v}:aW),(if 8*(l.length:Int)<s.a+5 then (({s with a:=s.a+5,qu:=0},[]),(5:Int)) else (({s with a:=s.a+5,qu:=((aF l s.a.toNat 5:Nat):Int)},([]:List bB)),if ((aF l s.a.toNat 5:Nat):Int)==0 then (9:Int) else 0)).1.2),(if 8*(l.length:Int)<s.a+5 then (({s with a:=s.a+5,qu:=0},[]),(5:Int)) else (({s with a:=s.a+5,qu:=((aF l s.a.toNat 5:Nat):Int)},([]:List bB)),if ((aF l s.a.toNat 5:Nat):Int)==0 then (9:Int) else 0)).2)
  split<;>rfl
 |2=>
  show (if (ac aj aq l s.a).2.2 !=0 then _ else _)=((({(if (ac aj aq l s.a).2.2 !=0 then ((s,[]),(ac aj aq l s.a).2.2) else (({s with a:=s.a+(ac aj aq l s.a).2.1,mx:=(bf s.x (ac aj aq l s.a).1).1},([]:List bB)),(bf s.x (ac aj aq l s.a).1).2)).1.1 with v:=v}:aW),(if (ac aj aq l s.a).2.2 !=0 then ((s,[]),(ac aj aq l s.a).2.2) else (({s with a:=s.a+(ac aj aq l s.a).2.1,mx:=(bf s.x (ac aj aq l s.a).1).1},([]:List bB)),(bf s.x (ac aj aq l s.a).1).2)).1.2),(if (ac aj aq l s.a).2.2 !=0 then ((s,[]),(ac aj aq l s.a).2.2) else (({s with a:=s.a+(ac aj aq l s.a).2.1,mx:=(bf s.x (ac aj aq l s.a).1).1},([]:List bB)),(bf s.x (ac aj aq l s.a).1).2)).2)
  split<;>rfl
 |3=>
  show (if (ac aj aq l s.a).2.2 !=0 then _ else _)=((({(if (ac aj aq l s.a).2.2 !=0 then ((s,[]),(ac aj aq l s.a).2.2) else (({s with a:=s.a+(ac aj aq l s.a).2.1,my:=(bf s.y (ac aj aq l s.a).1).1},([]:List bB)),(bf s.y (ac aj aq l s.a).1).2)).1.1 with v:=v}:aW),(if (ac aj aq l s.a).2.2 !=0 then ((s,[]),(ac aj aq l s.a).2.2) else (({s with a:=s.a+(ac aj aq l s.a).2.1,my:=(bf s.y (ac aj aq l s.a).1).1},([]:List bB)),(bf s.y (ac aj aq l s.a).1).2)).1.2),(if (ac aj aq l s.a).2.2 !=0 then ((s,[]),(ac aj aq l s.a).2.2) else (({s with a:=s.a+(ac aj aq l s.a).2.1,my:=(bf s.y (ac aj aq l s.a).1).1},([]:List bB)),(bf s.y (ac aj aq l s.a).1).2)).2)
  split<;>rfl
 |4=>rfl
 |_+5=>rfl
theorem IW (l:List UInt8) {s0 s:aW} {bl:List bB} (h:br l (dV l s0) s0 []=((s,bl),0)):au s 5=s:=by
 cases hI:s.pt.1 with
 |false=>unfold au;rw [hI,if_neg (by simp)]
 |true=>
  have h':=h
  unfold dV at h'
  obtain ⟨k0,h1⟩:=jx l h'
  have hn:∀k:Nat,0 ∉ eC (aB l s0 0).1.1++zAA k 5:=fun k hm=>by
   rcases zAE.1 hm with hm|hm
   ·revert hm
    unfold eC
    cases (aB l s0 0).1.1.pt.2.1<;>cases (aB l s0 0).1.1.pt.2.2.1<;>cases (aB l s0 0).1.1.pt.2.2.2.2<;>simp
   ·have:=zAB hm;cases this
  have hpt:=qt l _ h1 (hn _)
  have h2:=h1
  rw [ip] at h2
  split at h2
  ·rename_i he
   rw [h2] at he
   cases he
  ·rename_i he
   have he:(br l (eC (aB l s0 0).1.1) (aB l s0 0).1.1 []).2=0:=by simpa using he
   have h3:br l (eC (aB l s0 0).1.1) (aB l s0 0).1.1 []=(((br l (eC (aB l s0 0).1.1) (aB l s0 0).1.1 []).1.1,(br l (eC (aB l s0 0).1.1) (aB l s0 0).1.1 []).1.2),0):=by rw [←he]
   have hpm:=qt l _ h3 (fun hm=>hn 0 (by simpa using hm))
   have e63:(au (br l (eC (aB l s0 0).1.1) (aB l s0 0).1.1 []).1.1 5).pa=63:=by
    unfold au
    rw [hpm,←hpt,hI,if_pos ⟨by decide,rfl⟩]
   have e6:dV l s0=(0::(eC (aB l s0 0).1.1++zAA 5 5))++[5]:=by
    unfold dV
    rw [e63,show cI 63=6 from by decide,zAD,List.append_assoc]
    rfl
   rw [e6] at h
   exact uU l h
theorem yq (l:List UInt8) (s0:aW) {ts:List Nat} {t:Nat} (h:ts++[t]<+:dV l s0):(ts=[]∧t=0)∨(∃us,ts=0::us∧0 ∉ us∧t≠0∧t≤5):=by
 have hn:∀m∈eC (aB l s0 0).1.1++zAA (cI (au (br l (eC (aB l s0 0).1.1) (aB l s0 0).1.1 []).1.1 5).pa) 5,m≠0∧m≤5:=fun m hm=>by
  rcases zAE.1 hm with hm|hm
  ·revert hm
   unfold eC
   cases (aB l s0 0).1.1.pt.2.1<;>cases (aB l s0 0).1.1.pt.2.2.1<;>cases (aB l s0 0).1.1.pt.2.2.2.2<;>simp<;>omega
  ·have:=zAB hm;omega
 unfold dV at h
 generalize eC (aB l s0 0).1.1++zAA (cI (au (br l (eC (aB l s0 0).1.1) (aB l s0 0).1.1 []).1.1 5).pa) 5=R at h hn
 cases ts with
 |nil=>
  rw [List.nil_append] at h
  exact .inl ⟨rfl,(zAC.1 h).1⟩
 |cons u us=>
  rw [zAD] at h
  obtain ⟨rfl,h2⟩:=zAC.1 h
  have ht:=hn t (h2.subset (by simp))
  exact .inr ⟨us,rfl,fun hm=>(hn 0 (h2.subset (by simp [hm]))).1 rfl,ht.1,ht.2⟩
theorem EB {w0 W:World} {g:Nat} {A:Option Addr} {n c:Nat} {l:List UInt8} {s:aW} {xs:List dF} (h:hH w0 g A n c s xs W) (hg:w0.heap.size≤g) (hA:Sl w0 A (l.map af)) (hn:l.length=n) (hsz:n≤2 ^ 47) (h0:0≤s.a) (h1:s.a≤9223372036854775807):
  Calls Tryz.prog 224 #[.pointer (some ⟨g,0,none⟩)] W (iw w0 g A n c l s xs 0 W):=by
 by_cases h8:s.a≤8*(l.length:Int)
 ·exact Ge h hg hA hn hsz h0 h8
 ·have e:=(oJ (ns:=aM) (l:=l) (i:=s.a) rr (by omega)).1
  refine (AV g A n c l s W h.cell (hA.below h.below) hn hsz (by omega) s.a (by rw [e,zAF,IntKind.wrap_i64];omega)).mono ?_
  rintro e' W' ⟨rfl,hc,ht⟩
  refine gH h hg ht rfl ?_ rfl rfl
  have e2:(aB l s 0).1.1={s with a:=s.a+(ac aA aM l s.a).2.1,kd:=(ac aA aM l s.a).1,pt:=kR (ac aA aM l s.a).1}:=rfl
  rw [e2,e,zAF] at*
  exact hc
theorem qr {β:Type} {w0:World} {g:Nat} {A:Option Addr} {n c:Nat} {l:List UInt8} {s0:aW} {L:List aI} {B:Nat} (hB:w0.heap.size≤B) (f:β→List Nat) (u:Nat):OwnFrom B (fun pre W=>dl w0 g A n c l s0 L (f pre) u W):=by
 rintro pre W W' row ⟨⟨s,bl,v,xs,h1,hr,h3⟩,hc⟩ hg hrow
 refine ⟨⟨s,bl,v,xs,h1,⟨?_,?_,?_,fun p hp=>?_⟩,h3⟩,?_⟩
 ·exact jk hr.below hg (fun r e=>Nat.le_trans hB (hrow r e).1) hr.below.size
 ·exact df hr.cell hg (fun r e=>(hrow r e).2)
 ·exact lq hr.row hg (fun r e=>(hrow r e).2)
 ·exact lq (hr.bl p hp) hg (fun r e=>(hrow r e).2)
 ·exact hc.grown hg (fun r e=>(hrow r e).2)
theorem H7 {β:Type} {g:Nat} {x0 y0:Int} {B:Nat} (x:ji):OwnFrom B (fun (_:β) W=>ID g x0 y0 x W):=by
 rintro pre W W' row h hg hrow
 obtain ⟨t,b0,b1,b2⟩:=x
 match t with
 |0=>trivial
 |1=>trivial
 |2=>exact ⟨df h.1 hg (fun r e=>(hrow r e).2),df h.2.1 hg (fun r e=>(hrow r e).2),df h.2.2 hg (fun r e=>(hrow r e).2)⟩
 |3=>exact ⟨df h.1 hg (fun r e=>(hrow r e).2),df h.2.1 hg (fun r e=>(hrow r e).2),df h.2.2 hg (fun r e=>(hrow r e).2)⟩
 |4=>trivial
 |_+5=>trivial
structure tV (w0:World) (g:Nat) (A:Option Addr) (n c:Nat) (l:List UInt8) (s0:aW) (L:List aI) (ts:List Nat) (t:Nat) (er:Int) (W':World):Prop where
 below:Below w0.heap.size w0 W'
 cl:aa L W'
 st:∃s:aW,ab W' g 208 (fR A n c s)∧s.pt=(aB l s0 0).1.1.pt∧s.x=s0.x∧s.y=s0.y
 ok:er=0→dl w0 g A n c l s0 L (ts++[t]) 0 W'
 no:er≠0→(jw l s0).2=er
theorem jQ {w0 W:World} {g:Nat} {A:Option Addr} {n c:Nat} {l:List UInt8} {s0:aW} {L:List aI} {ts:List Nat} {t f:Nat} {args:Array Value} (hI:dl w0 g A n c l s0 L ts t W) (hts:ts++[t]<+:dV l s0) (hL:∀q∈L,q.2.1≠93∧q.1≠g)
  (hc:∀s v bl xs,br l ts s0 []=((s,bl),0)→hH w0 g A n c {au s t with v:=v} xs W→xs.map (·.1)=bl→Calls Tryz.prog f args W (iw w0 g A n c l {au s t with v:=v} xs t W)):
  Calls Tryz.prog f args W fun e W'=>∃er,e= .returned (.int .i64 er)∧(∀B,KeepsFrom B W W')∧tV w0 g A n c l s0 L ts t er W':=by
 obtain ⟨⟨s,bl,v,xs,h1,hr,h3⟩,hcl⟩:=hI
 refine (hc s v bl xs h1 hr h3).mono ?_
 rintro e W' ⟨hret,⟨v',xs',hr',hx'⟩,hkeep,hkf⟩
 have ev:=Jh l (au s t) v t
 rw [ev] at hret hr' hx'
 dsimp only at hret hr' hx'
 have hsn:=uV l (t:=t) h1
 refine ⟨_,hret,hkf,hr'.below,fun q hq=>hkeep _ _ _ (hcl q hq) (hL q hq).1 (hL q hq).2,⟨_,hr'.cell,?_,?_,?_⟩,fun he=>?_,fun he=>?_⟩
 ·show (aB l (au s t) t).1.1.pt=_
  rcases yq l s0 hts with ⟨rfl,rfl⟩|⟨us,rfl,hus,ht,_⟩
  ·simp only [br,Prod.mk.injEq,and_true] at h1
   obtain ⟨rfl,rfl⟩:=h1
   rw [jH s0 (by decide)]
  ·rw [(jV l (au s t) t).2.2.1 ht,(bo s t).2.2.2.1,oC l h1 hus]
 ·show (aB l (au s t) t).1.1.x=_
  rw [(jV l (au s t) t).1,(bo s t).2.1,(qv l _ h1).1]
 ·show (aB l (au s t) t).1.1.y=_
  rw [(jV l (au s t) t).2.1,(bo s t).2.2.1,(qv l _ h1).2]
 ·rw [he] at hsn
  refine ⟨⟨_,_,v',xs',hsn,?_,by rw [hx',h3]⟩,fun q hq=>hkeep _ _ _ (hcl q hq) (hL q hq).1 (hL q hq).2⟩
  rw [jH _ (by decide)]
  exact hr'
 ·rw [uQ]
  exact F7 l h1 hts he
end Go.Proofs.YthhijgcfbjcgiaaGreatDoor
namespace Go.Proofs.YthhijgcfbjcgiaaGreatDoor
open Go Go.RowKit
attribute [local go_sem] Oper.semAt_some
open Go.Lib renaming hid→zAA
open List renaming setIfInBounds_toArray→zAB,set_cons_succ→zAC,set_cons_zero→zAD,append_toArray→zAE,length_nil→zAF,push_toArray→zAG,size_toArray→zAH,cons_append→zAI,length_cons→zAJ,nil_append→zAK,mem_singleton→zAN,getElem?_cons_succ→zAP,getElem?_cons_zero→zAQ,getElem?_toArray→zAR,drop_succ_cons→zAS,mem_map→zAT,drop_zero→zAW,map_cons→zAX,mem_cons→zAY,map_nil→zAZ
open Nat renaming reduceAdd→zAL,reduceSub→zAM,le_trans→zAU,le_refl→zA0
open Go.World renaming ownsRow_nil→zAO
open Option renaming getD_some→zAV
def dz (m:aU) (v:Value):Array Value:= #[.int .i64 m.ad,.int .i64 m.kd,.int .i64 m.qu,.int .i64 m.x,.int .i64 m.y,.int .i64 m.pa,v]
structure wg (w:World) (r:aU×Int×Int) (e:Ending) (W':World):Prop where
 below:Below w.heap.size w W'
 ex:∃v,∃xs:List dF,e= .returned (.tuple #[.agg (dz r.1 v),.int .i64 r.2.1,.int .i64 r.2.2])∧r.1.bl=xs.map (·.1)∧W'.ownsRow w.heap.size 93 2 v xs.length (av gX xs)∧∀p∈xs,W'.ownsRow w.heap.size 189 2 (.slice p.2.1 p.1.l.length p.2.2) p.1.l.length (av bA p.1.l)
theorem jN (h:Nat) (m:aU) (v:Value) (n e:Int) (tmps:Array Value) (W:World) (hb:ab W h 55 (dz m v)) (t8:tmps.getD 8 undef= .pointer (some ⟨h,0,none⟩)) (t9:tmps.getD 9 undef= .int .i64 n) (t10:tmps.getD 10 undef= .int .i64 e):
  (results Tryz.f145 tmps).run Tryz.prog W= .ok (.tuple #[.agg (dz m v),.int .i64 n,.int .i64 e]) W:=by
 unfold dz at*
 have c0:=hb.cell 0;have c1:=hb.cell 1;have c2:=hb.cell 2;have c3:=hb.cell 3;have c4:=hb.cell 4;have c5:=hb.cell 5;have c6:=hb.cell 6
 simp at c0 c1 c2 c3 c4 c5 c6
 have t8':tmps[8]?.getD undef= .pointer (some ⟨h,0,none⟩):=by simpa using t8
 have t9':tmps[9]?.getD undef= .int .i64 n:=by simpa using t9
 have t10':tmps[10]?.getD undef= .int .i64 e:=by simpa using t10
 simp [results,Tryz.results145,t8',t9',t10',asAddr,c0,c1,c2,c3,c4,c5,c6,go_sem]
theorem AO {W:World} {h:Nat} {m:aU} {v:Value} (hb:ab W h 55 (dz m v)) (a:aU) (u:Value):ab (((((((W.setCell ⟨h,0,none⟩ (.int .i64 a.ad)).setCell ⟨h,1,none⟩ (.int .i64 a.kd)).setCell ⟨h,2,none⟩ (.int .i64 a.qu)).setCell ⟨h,3,none⟩ (.int .i64 a.x)).setCell ⟨h,4,none⟩ (.int .i64 a.y)).setCell ⟨h,5,none⟩ (.int .i64 a.pa)).setCell ⟨h,6,none⟩ u) h 55 (dz a u):=by
 have h1:=((((((hb.set_ 0 (.int .i64 a.ad)).set_ 1 (.int .i64 a.kd)).set_ 2 (.int .i64 a.qu)).set_ 3 (.int .i64 a.x)).set_ 4 (.int .i64 a.y)).set_ 5 (.int .i64 a.pa)).set_ 6 u
 unfold dz at*
 simp only [zAB,zAD,zAC] at h1
 exact h1
theorem Fz {w W:World} {h:Nat} (hb:Below w.heap.size w W) (hh:w.heap.size≤h) (a:aU) (u:Value):Below w.heap.size w (((((((W.setCell ⟨h,0,none⟩ (.int .i64 a.ad)).setCell ⟨h,1,none⟩ (.int .i64 a.kd)).setCell ⟨h,2,none⟩ (.int .i64 a.qu)).setCell ⟨h,3,none⟩ (.int .i64 a.x)).setCell ⟨h,4,none⟩ (.int .i64 a.y)).setCell ⟨h,5,none⟩ (.int .i64 a.pa)).setCell ⟨h,6,none⟩ u):=
 ((((((hb.setCell hh _).setCell hh _).setCell hh _).setCell hh _).setCell hh _).setCell hh _).setCell hh _
theorem qp {w W:World} (e:Int) (hb:Below w.heap.size w W):wg w (m0,0,e) (.returned (.tuple #[.agg (dz m0 (.slice none 0 0)),.int .i64 0,.int .i64 e])) W:=
 ⟨hb,.slice none 0 0,[],rfl,rfl,zAO _ _ _ _,fun p hp=>by cases hp⟩
theorem dl.setE {w0 W:World} {g ge:Nat} {A:Option Addr} {n c:Nat} {l:List UInt8} {s0:aW} {L:List aI} {ts:List Nat} {u:Nat} {cs:Array Value} (h:dl w0 g A n c l s0 L ts u W) (hge:w0.heap.size≤ge) (hb:ab W ge 26 cs) (v:Value) (hL:aa L (W.setCell ⟨ge,0,none⟩ v)):dl w0 g A n c l s0 L ts u (W.setCell ⟨ge,0,none⟩ v):=by
 obtain ⟨⟨s,bl,v',xs,h1,hr,h3⟩,hc⟩:=h
 refine ⟨⟨s,bl,v',xs,h1,⟨hr.below.setCell (p:=⟨ge,0,none⟩) hge _,hr.cell.far (p:=⟨ge,0,none⟩) (aS hr.cell hb (by simp)) v,?_,fun q hq=>?_⟩,h3⟩,hL⟩
 ·exact l7 hr.row (fun g' cs' hb'=>hb'.far (p:=⟨ge,0,none⟩) (aS hb' hb (by simp)) v)
 ·exact l7 (hr.bl q hq) (fun g' cs' hb'=>hb'.far (p:=⟨ge,0,none⟩) (aS hb' hb (by simp)) v)
structure Iy (w:World) (g:Nat) (A:Option Addr) (n c:Nat) (pt:Bool×Bool×Bool×Bool×Bool) (x y:Int) (bc h8 ge:Nat) (E:Int) (cd:Code) (W:World):Prop where
 cd:cd= .exit 1
 ne:E≠0
 st:ks g A n c pt x y [(bc,206,#[.pointer (some ⟨g,0,none⟩)])] W
 mm:ab W h8 55 (dz m0 (.slice none 0 0))
 ee:ab W ge 26 #[.int .i64 E]
 below:Below w.heap.size w W
theorem G8 {w:World} {g:Nat} {A:Option Addr} {n c:Nat} {pt:Bool×Bool×Bool×Bool×Bool} {x y:Int} {bc h8 ge:Nat} {E:Int} {cd:Code} {B:Nat} (hB:w.heap.size≤B):OwnFrom B (fun (_:List ji) W=>Iy w g A n c pt x y bc h8 ge E cd W):=by
 rintro pre W W' row ⟨h1,h2,⟨h3,s,h4,h5⟩,h6,h7,h8'⟩ hg hrow
 exact ⟨h1,h2,⟨h3.grown hg (fun r e=>(hrow r e).2),s,df h4 hg (fun r e=>(hrow r e).2),h5⟩,df h6 hg (fun r e=>(hrow r e).2),df h7 hg (fun r e=>(hrow r e).2),jk h8' hg (fun r e=>zAU hB (hrow r e).1) h8'.size⟩
theorem Ba (l:List UInt8):∀(ts:List Nat) {s s':aW} {bl bl':List bB},br l ts s bl=((s',bl'),0)→s'.ad=s.ad
 |[],s,s',bl,bl',h=>by
  simp only [br,Prod.mk.injEq,and_true] at h
  obtain ⟨rfl,rfl⟩:=h
  rfl
 |t::ts,s,s',bl,bl',h=>by
  rw [cY] at h
  split at h
  ·rename_i he
   rw [(Prod.mk.inj h).2] at he
   cases he
  ·have h1:=Ba l ts h
   have h2:(au s t).ad=s.ad:=by unfold au;split<;>rfl
   have h3:(aB l (au s t) t).1.1.ad=(au s t).ad:=by
    unfold aB
    split
    ·rfl
    ·split<;>rfl
    ·split<;>rfl
    ·split<;>rfl
    ·rfl
    ·rfl
   rw [h1,h3,h2]
theorem G5 {w W:World} {h:Nat} {m:aU} {v:Value} {R:List a9} (hc:ay w [(h,55,dz m v)] R W) (hh:w.heap.size≤h) (hR:∀r∈R,r.e≠55) (a:aU) (u:Value):
  ay w [(h,55,dz a u)] R (((((((W.setCell ⟨h,0,none⟩ (.int .i64 a.ad)).setCell ⟨h,1,none⟩ (.int .i64 a.kd)).setCell ⟨h,2,none⟩ (.int .i64 a.qu)).setCell ⟨h,3,none⟩ (.int .i64 a.x)).setCell ⟨h,4,none⟩ (.int .i64 a.y)).setCell ⟨h,5,none⟩ (.int .i64 a.pa)).setCell ⟨h,6,none⟩ u):=by
 have one:∀{W:World} {cs:Array Value} (i:Nat) (u:Value),ay w [(h,55,cs)] R W→ay w [(h,55,cs.setIfInBounds i u)] R (W.setCell ⟨h,i,none⟩ u):=fun {W cs} i u hc=>by
  have h2:=aT hc hh i u (h,55,cs) (by simp) rfl hR
  simpa [cZ] using h2
 have h1:=one 6 u (one 5 (.int .i64 a.pa) (one 4 (.int .i64 a.y) (one 3 (.int .i64 a.x) (one 2 (.int .i64 a.qu) (one 1 (.int .i64 a.kd) (one 0 (.int .i64 a.ad) hc))))))
 unfold dz at h1⊢
 simp only [zAB,zAD,zAC] at h1
 exact h1
def AL (b:Nat) (v:Value) (xs:List dF):List a9:=⟨b,93,2,v,xs.length,av gX xs⟩::xs.map fun p=>⟨b,189,2,.slice p.2.1 p.1.l.length p.2.2,p.1.l.length,av bA p.1.l⟩
theorem Gy {b:Nat} {v:Value} {xs:List dF}:∀r∈AL b v xs,r.e≠55:=by
 intro r hr
 unfold AL at hr
 rcases zAY.1 hr with rfl|hr
 ·simp
 ·obtain ⟨p,_,rfl⟩:=zAT.1 hr
  simp
theorem AN {w W:World} {h:Nat} {m:aU} {v:Value} {xs:List dF} {n e:Int} (hc:ay w [(h,55,dz m v)] (AL w.heap.size v xs) W) (hm:m.bl=xs.map (·.1)):wg w (m,n,e) (.returned (.tuple #[.agg (dz m v),.int .i64 n,.int .i64 e])) W:=
 ⟨hc.1,v,xs,rfl,hm,hc.2.2.head,fun p hp=>hc.2.2.tail ⟨w.heap.size,189,2,.slice p.2.1 p.1.l.length p.2.2,p.1.l.length,av bA p.1.l⟩ (zAT.2 ⟨p,hp,rfl⟩)⟩
theorem G6 {w0 W:World} {g:Nat} {A:Option Addr} {n c:Nat} {s:aW} {xs:List dF} {L:List aI} (h:hH w0 g A n c s xs W) (hc:aa L W):ay w0 L (AL w0.heap.size s.v xs) W:=by
 refine ⟨h.below,hc,ap.cons h.row (fun r hr=>?_)⟩
 obtain ⟨p,hp,rfl⟩:=zAT.1 hr
 exact h.bl p hp
theorem J3 {W:World} {h D:Nat} {m:aU} {v:Value} {x:Option (List Deferred)} (hb:ab W h 55 (dz m v)) (hK:W.heap[D]? =some (.deferred x)):D≠h:=by
 rintro rfl
 have h1:W.heap[D]? =some (.cells (dz m v) 55 (0,0)):=hb
 rw [hK] at h1
 cases h1
theorem FA {W:World} {h D:Nat} (hne:D≠h) (u0 u1 u2 u3 u4 u5 u6:Value):(((((((W.setCell ⟨h,0,none⟩ u0).setCell ⟨h,1,none⟩ u1).setCell ⟨h,2,none⟩ u2).setCell ⟨h,3,none⟩ u3).setCell ⟨h,4,none⟩ u4).setCell ⟨h,5,none⟩ u5).setCell ⟨h,6,none⟩ u6).heap[D]? =W.heap[D]? :=by
 rw [Below.heap_setCell _ _ _ D hne,Below.heap_setCell _ _ _ D hne,Below.heap_setCell _ _ _ D hne,Below.heap_setCell _ _ _ D hne,Below.heap_setCell _ _ _ D hne,Below.heap_setCell _ _ _ D hne,Below.heap_setCell _ _ _ D hne]
theorem AM {w W:World} {h D:Nat} {m:aU} {v:Value} {R:List a9} (hc:ay w [(h,55,dz m v)] R W) (hh:w.heap.size≤h) (hR:∀r∈R,r.e≠55) (hK:W.heap[D]? =some (.deferred (some []))) (hD:w.heap.size≤D) (a:aU) (u:Value):
  (((((((W.setCell ⟨h,0,none⟩ (.int .i64 a.ad)).setCell ⟨h,1,none⟩ (.int .i64 a.kd)).setCell ⟨h,2,none⟩ (.int .i64 a.qu)).setCell ⟨h,3,none⟩ (.int .i64 a.x)).setCell ⟨h,4,none⟩ (.int .i64 a.y)).setCell ⟨h,5,none⟩ (.int .i64 a.pa)).setCell ⟨h,6,none⟩ u).drew.heap[D]? =some (.deferred (some []))∧
  ay w [(h,55,dz a u)] R ((((((((W.setCell ⟨h,0,none⟩ (.int .i64 a.ad)).setCell ⟨h,1,none⟩ (.int .i64 a.kd)).setCell ⟨h,2,none⟩ (.int .i64 a.qu)).setCell ⟨h,3,none⟩ (.int .i64 a.x)).setCell ⟨h,4,none⟩ (.int .i64 a.y)).setCell ⟨h,5,none⟩ (.int .i64 a.pa)).setCell ⟨h,6,none⟩ u).drew.putObj D (.deferred none)):=by
 have hd:∀X:World,X.heap[D]? =some (.deferred (some []))→X.drew.heap[D]? =some (.deferred (some [])):=fun X h=>h
 have h0:=(FA (J3 hc.2.1.head hK) (.int .i64 a.ad) (.int .i64 a.kd) (.int .i64 a.qu) (.int .i64 a.x) (.int .i64 a.y) (.int .i64 a.pa) u).trans hK
 have hm:=G5 hc hh hR a u
 generalize ((((((W.setCell ⟨h,0,none⟩ (.int .i64 a.ad)).setCell ⟨h,1,none⟩ (.int .i64 a.kd)).setCell ⟨h,2,none⟩ (.int .i64 a.qu)).setCell ⟨h,3,none⟩ (.int .i64 a.x)).setCell ⟨h,4,none⟩ (.int .i64 a.y)).setCell ⟨h,5,none⟩ (.int .i64 a.pa)).setCell ⟨h,6,none⟩ u=X at h0 hm⊢
 exact ⟨hd X h0,ia (bM hm) (hd X h0) rfl hD⟩
def fT (g bc h8 ge:Nat):List aI:=(bc,206,#[.pointer (some ⟨g,0,none⟩)])::[(h8,55,dz m0 (.slice none 0 0)),(ge,26,#[.int .i64 0])]
theorem lG {W:World} {g bc h8 ge:Nat} (h:aa (fT g bc h8 ge) W):aa (fT g bc h8 ge) (W.setCell ⟨ge,0,none⟩ (.int .i64 0)):=by
 unfold fT at*
 have h1:=h.head;have h2:=h.tail.head;have h3:=h.tail.tail.head
 refine aa.cons (h1.far (p:=⟨ge,0,none⟩) (aS h1 h3 (by simp)) _) (aa.cons (h2.far (p:=⟨ge,0,none⟩) (aS h2 h3 (by simp)) _) (aa.cons ?_ (ag _)))
 exact h3.set_ 0 (.int .i64 0)
theorem ny {w W:World} {g bc h8 ge:Nat} {A:Option Addr} {n c:Nat} {l:List UInt8} {s0:aW} {ts:List Nat} {t:Nat} {er E:Int} (hge:w.heap.size≤ge) (hE:(jw l s0).2=E) (h:tV w g A n c l s0 (fT g bc h8 ge) ts t er W) (hne:er≠0):Iy w g A n c (aB l s0 0).1.1.pt s0.x s0.y bc h8 ge E (.exit 1) (W.setCell ⟨ge,0,none⟩ (.int .i64 er)):=by
 obtain ⟨hb,hc,⟨s,hs,h1⟩,_,hno⟩:=h
 have he:E=er:=hE.symm.trans (hno hne)
 unfold fT at hc
 have k1:=hc.head;have k2:=hc.tail.head;have k3:=hc.tail.tail.head
 refine ⟨rfl,by rw [he];exact hne,⟨aa.cons (k1.far (p:=⟨ge,0,none⟩) (aS k1 k3 (by simp)) _) (ag _),s,hs.far (p:=⟨ge,0,none⟩) (aS hs k3 (by simp)) _,h1⟩,k2.far (p:=⟨ge,0,none⟩) (aS k2 k3 (by simp)) _,?_,hb.setCell (p:=⟨ge,0,none⟩) hge _⟩
 rw [he]
 exact k3.set_ 0 (.int .i64 er)
set_option maxRecDepth 100000 in
set_option maxHeartbeats 40000000 in
theorem DS (A:Option Addr) (n c:Nat) (l:List UInt8) (i ad:Int) (x:bD) (w:World) (hA:Sl w A (l.map af)) (hn:l.length=n) (hsz:n≤2 ^ 47) (hT:Ts w) (hi: -9223372036854775808≤i∧i≤9223372036854775807):
  Calls Tryz.prog 145 #[.slice A n c,.int .i64 i,.int .i64 ad,eS x] w (wg w (bR l i ad x)):=by
 obtain ⟨r,hr⟩:∃r,bR l i ad x=r:=⟨_,rfl⟩
 have hAH:=zAA (fun W=>qN x ad W)
 have hPR:=zAA (fun W h1 h2 h3=>mJ x ad W h1 h2 h3)
 have hall:=zAA (fun v h1 h2=>FB l i ad x v h1 h2)
 rw [hr] at hall⊢
 have HA:=zAA hA;have HN:=zAA hn;have HT:=zAA hT
 clear hA hn hT
 have hB1:Below w.heap.size w (w.alloc (.cells #[.int .i64 x.ad,.bool x.had,.int .i64 x.x,.int .i64 x.y] 102)):=(Below.refl _ _).alloc (zA0 _) _
 have hB0:=hB1.alloc hB1.size (.cells #[.int .i64 0,.int .i64 0,.int .i64 0,.int .i64 0,.int .i64 0,.int .i64 0,.slice none 0 0] 55)
 have hM0:ab ((w.alloc (.cells #[.int .i64 x.ad,.bool x.had,.int .i64 x.x,.int .i64 x.y] 102)).alloc (.cells #[.int .i64 0,.int .i64 0,.int .i64 0,.int .i64 0,.int .i64 0,.int .i64 0,.slice none 0 0] 55)) (w.heap.size+1) 55 (dz m0 (.slice none 0 0)):=aD (ab.new _ _ _) (by simp)
 have HB0:=zAA hB0;have HM0:=zAA hM0
 clear hB1 hB0 hM0
 by_cases h1:i<0∨ad<1∨33<ad
 ·have hr1:r=(m0,0,3):=by rw [←hr];unfold bR;rw [if_pos h1]
  subst hr1
  unfold eS
  clear hr hall hAH hPR
  rcases Decidable.em (i<0) with h2|h2
  ·skip
   refine (callsIn_wide (n:=5)).1 ?_
   refine callsIn_of_wp_marks Tryz.func145 rfl trivial ?_ rfl
   simp only [Tryz.ntmps145,zAH,zAJ,zAF,zAL,zAM,Array.replicate_succ,Array.replicate_zero,zAG,zAE,zAK,zAI]
   refine wpIn_wide.2 ?_
   go_wp2_with fail
   go_step3
   go_wp2_with fail
   rw [Exit.noGoto_ret]
   exact il (jN (w.heap.size+1) m0 (.slice none 0 0) 0 3 _ _ HM0.out rfl rfl rfl) (qp 3 HB0.out)
  ·rcases Decidable.em (ad<1) with h3|h3
   ·skip
    refine (callsIn_wide (n:=5)).1 ?_
    refine callsIn_of_wp_marks Tryz.func145 rfl trivial ?_ rfl
    simp only [Tryz.ntmps145,zAH,zAJ,zAF,zAL,zAM,Array.replicate_succ,Array.replicate_zero,zAG,zAE,zAK,zAI]
    refine wpIn_wide.2 ?_
    go_wp2_with fail
    go_step3
    go_wp2_with fail
    rw [Exit.noGoto_ret]
    exact il (jN (w.heap.size+1) m0 (.slice none 0 0) 0 3 _ _ HM0.out rfl rfl rfl) (qp 3 HB0.out)
   ·have h4:33<ad:=by omega
    refine (callsIn_wide (n:=5)).1 ?_
    refine callsIn_of_wp_marks Tryz.func145 rfl trivial ?_ rfl
    simp only [Tryz.ntmps145,zAH,zAJ,zAF,zAL,zAM,Array.replicate_succ,Array.replicate_zero,zAG,zAE,zAK,zAI]
    refine wpIn_wide.2 ?_
    go_wp2_with fail
    go_step3
    go_wp2_with fail
    rw [Exit.noGoto_ret]
    exact il (jN (w.heap.size+1) m0 (.slice none 0 0) 0 3 _ _ HM0.out rfl rfl rfl) (qp 3 HB0.out)
 have hnot:=zAA h1
 have k1:¬i<0:=by omega
 have k2:¬ad<1:=by omega
 have k3:¬33<ad:=by omega
 clear h1
 cases hx:dm x ad with
 |false=>
  have hr1:r=(m0,0,2):=by rw [←hr];unfold bR;rw [if_neg hnot.out,hx];rfl
  subst hr1
  rw [hx] at hAH
  have HAH:=hAH
  unfold eS at HAH⊢
  clear hr hall hAH hPR
  refine (callsIn_wide (n:=5)).1 ?_
  refine callsIn_of_wp_marks Tryz.func145 rfl trivial ?_ rfl
  simp only [Tryz.ntmps145,zAH,zAJ,zAF,zAL,zAM,Array.replicate_succ,Array.replicate_zero,zAG,zAE,zAK,zAI]
  refine wpIn_wide.2 ?_
  go_wp2_with fail
  go_step3
  go_wp2_with (go_at_call 105;refine (HAH.out _).mono ?_;rintro e w2 ⟨rfl,hb2⟩;have HB2:=zAA hb2;have HM2:=zAA (HM0.out.below hb2 HM0.out.lt);clear hb2;have HM3:=HM2.out;unfold dz m0 at HM3;have z0:=HM3.frozen 0;have z1:=HM3.frozen 1;have z2:=HM3.frozen 2;have z3:=HM3.frozen 3;have z4:=HM3.frozen 4;have z5:=HM3.frozen 5;have z6:=HM3.frozen 6;have y0:=HM3.cell 0;have y1:=HM3.cell 1;have y2:=HM3.cell 2;have y3:=HM3.cell 3;have y4:=HM3.cell 4;have y5:=HM3.cell 5;have y6:=HM3.cell 6;clear HM3;simp at y0 y1 y2 y3 y4 y5 y6)
  rw [Exit.noGoto_ret]
  exact il (jN (w.heap.size+1) m0 (.slice none 0 0) 0 2 _ _ (AO HM2.out m0 (.slice none 0 0)) rfl rfl rfl) (qp 2 (Fz (HB0.out.trans (HB2.out.mono HB0.out.size)) (by omega) m0 (.slice none 0 0)))
 |true=>
  rw [hx] at hAH
  have hax:=hx
  unfold dm at hax
  simp only [Bool.and_eq_true,decide_eq_true_eq] at hax
  have HPR:=zAA (fun W=>hPR.out W hax.1.1.1.1 hax.1.1.1.2 (by omega))
  have HPP:=zAA (pK hx)
  have HALL:=zAA (fun v=>hall.out v hnot.out hx)
  have HAH:=hAH
  obtain ⟨⟨px,py⟩,hpr⟩:∃pr,dy ad (ad - x.ad) x.had x.x x.y=pr:=⟨_,rfl⟩
  rw [hpr] at HPR HPP
  have HRD:Hid (∀v,sH i ad x v=⟨i,(false,false,false,false,false),ad,0,0,0,0,0,v,px,py⟩):=zAA (fun v=>by unfold sH;rw [hpr])
  unfold eS at HAH HPR⊢
  dsimp only at HPR
  clear hr hall hAH hPR hax hpr hx
  refine (callsIn_wide (n:=5)).1 ?_
  refine callsIn_of_wp_marks Tryz.func145 rfl trivial ?_ rfl
  simp only [Tryz.ntmps145,zAH,zAJ,zAF,zAL,zAM,Array.replicate_succ,Array.replicate_zero,zAG,zAE,zAK,zAI]
  refine wpIn_wide.2 ?_
  go_wp2_with fail
  go_step3
  go_wp2_with (first|(go_at_call 105;refine (HAH.out _).mono ?_;rintro e w2 ⟨rfl,hb2⟩;have HB2:=zAA (HB0.out.trans (hb2.mono HB0.out.size));have HM2:=zAA (HM0.out.below hb2 HM0.out.lt);have hbl:=((ab.new w 102 #[.int .i64 x.ad,.bool x.had,.int .i64 x.x,.int .i64 x.y]).alloc (.cells #[.int .i64 0,.int .i64 0,.int .i64 0,.int .i64 0,.int .i64 0,.int .i64 0,.slice none 0 0] 55)).below hb2 (by simp;omega);clear hb2;have HBL:=zAA hbl;have x0:=hbl.cell 0;have x1:=hbl.cell 1;have x2:=hbl.cell 2;have x3:=hbl.cell 3;clear hbl;(try dsimp only at x0 x1 x2 x3);obtain ⟨g,hg⟩:∃g,w2.heap.size=g:=⟨_,rfl⟩;have hba:=HBL.out.alloc (.cells #[.slice A n c,.int .i64 i,.bool false,.bool false,.bool false,.bool false,.bool false,.int .i64 ad,.int .i64 0,.int .i64 0,.int .i64 0,.int .i64 0,.int .i64 0,.slice none 0 0,.int .i64 0,.int .i64 0] 208);have u0:=hba.cell 0;have u1:=hba.cell 1;have u2:=hba.cell 2;have u3:=hba.cell 3;clear hba;(try dsimp only at u0 u1 u2 u3);have HRB:=zAA (aD (ab.new w2 208 #[.slice A n c,.int .i64 i,.bool false,.bool false,.bool false,.bool false,.bool false,.int .i64 ad,.int .i64 0,.int .i64 0,.int .i64 0,.int .i64 0,.int .i64 0,.slice none 0 0,.int .i64 0,.int .i64 0]) hg);have HMa:=zAA (HM2.out.alloc (.cells #[.slice A n c,.int .i64 i,.bool false,.bool false,.bool false,.bool false,.bool false,.int .i64 ad,.int .i64 0,.int .i64 0,.int .i64 0,.int .i64 0,.int .i64 0,.slice none 0 0,.int .i64 0,.int .i64 0] 208));have HBa:=zAA (HB2.out.alloc HB2.out.size (.cells #[.slice A n c,.int .i64 i,.bool false,.bool false,.bool false,.bool false,.bool false,.int .i64 ad,.int .i64 0,.int .i64 0,.int .i64 0,.int .i64 0,.int .i64 0,.slice none 0 0,.int .i64 0,.int .i64 0] 208));have HG:=zAA (show w.heap.size+2≤g by have h:=HB2.out.size;have h2:=HM2.out.lt;rw [hg] at h2;omega))|(go_at_call 108;refine (HPR.out _).mono ?_;rintro e w3 ⟨rfl,hb3⟩;clear u0 u1 u2 u3 x0 x1 x2 x3;have hrb:=HRB.out.below hb3 HRB.out.lt;have HM4:=zAA (HMa.out.below hb3 HMa.out.lt);have HB4:=zAA (HBa.out.trans (hb3.mono HBa.out.size));clear hb3;have u14:=hrb.cell 14;have u15:=hrb.cell 15;have v14:=hrb.frozen 14;have v15:=hrb.frozen 15;have HRB4:=zAA hrb;clear hrb;(try dsimp only at u14 u15 v14 v15)))
  have hgw:w.heap.size≤g:=by have:=HG.out;omega
  have hRW:hH w g A n c ⟨i,(false,false,false,false,false),ad,0,0,0,0,0,.slice none 0 0,px,py⟩ [] (((w3.setCell ⟨g,14,none⟩ (.int .i64 px)).setCell ⟨g,15,none⟩ (.int .i64 py)).alloc (.cells #[.int .i64 0] 26)):=by
   refine ⟨(((HB4.out.setCell (p:=⟨g,14,none⟩) hgw _).setCell (p:=⟨g,15,none⟩) hgw _).alloc (by have h:=HB4.out.size;simpa using h) _),?_,zAO _ _ _ _,fun p hp=>by cases hp⟩
   have h1:=((HRB4.out.set_ 14 (.int .i64 px)).set_ 15 (.int .i64 py)).alloc (.cells #[.int .i64 0] 26)
   simp only [zAB,zAD,zAC] at h1
   exact h1
  have hMM:ab (((w3.setCell ⟨g,14,none⟩ (.int .i64 px)).setCell ⟨g,15,none⟩ (.int .i64 py)).alloc (.cells #[.int .i64 0] 26)) (w.heap.size+1) 55 (dz m0 (.slice none 0 0)):=((HM4.out.far (p:=⟨g,14,none⟩) (by have:=HG.out;show w.heap.size+1≠g;omega) _).far (p:=⟨g,15,none⟩) (by have:=HG.out;show w.heap.size+1≠g;omega) _).alloc _
  have hEE:ab (((w3.setCell ⟨g,14,none⟩ (.int .i64 px)).setCell ⟨g,15,none⟩ (.int .i64 py)).alloc (.cells #[.int .i64 0] 26)) w3.heap.size 26 #[.int .i64 0]:=aD (ab.new _ _ _) (by simp)
  generalize ((w3.setCell ⟨g,14,none⟩ (.int .i64 px)).setCell ⟨g,15,none⟩ (.int .i64 py)).alloc (.cells #[.int .i64 0] 26)=W5 at hRW hMM hEE⊢
  obtain ⟨ge,hge⟩:∃ge,w3.heap.size=ge:=⟨_,rfl⟩
  rw [hge] at hEE⊢
  obtain ⟨h8,hh8⟩:∃h8,w.heap.size+1=h8:=⟨_,rfl⟩
  rw [hh8] at hMM⊢
  have HH8:=zAA (show w.heap.size≤h8 by omega)
  have HGE:=zAA (show w.heap.size≤ge by rw [←hge];exact HB4.out.size)
  have HRW:=zAA hRW;have HMM:=zAA hMM;have HEE:=zAA hEE
  clear hRW hMM hEE hge hh8 HB4 HRB4 HM4 HBa HMa HRB HBL HM2 HB2 HB0 HM0 HG u14 u15 v14 v15 hg
  obtain ⟨bc,hbc⟩:∃bc,W5.heap.size=bc:=⟨_,rfl⟩
  go_step3
  go_wp2_with (go_at_call 188;refine (F1 _ _).mono ?_;rintro e w' ⟨rfl,rfl⟩)
  have hLB:∀q∈fT g bc h8 ge,q.2.1≠93∧q.1≠g:=by
   have e1:h8≠g:=aS HMM.out HRW.out.cell (by simp)
   have e2:ge≠g:=aS HEE.out HRW.out.cell (by simp)
   have e3:bc≠g:=by have:=HRW.out.cell.lt;omega
   intro q hq
   simp only [fT,zAY,List.mem_nil_iff,or_false] at hq
   rcases hq with rfl|rfl|rfl
   ·exact ⟨by simp,e3⟩
   ·exact ⟨by simp,e1⟩
   ·exact ⟨by simp,e2⟩
  have HLB:=zAA hLB
  obtain ⟨s0,hs0⟩:∃s0:aW,(⟨i,(false,false,false,false,false),ad,0,0,0,0,0,.slice none 0 0,px,py⟩:aW)=s0:=⟨_,rfl⟩
  have HS0:=zAA hs0
  have HSA:Hid (s0.a=i∧s0.x=px∧s0.y=py):=zAA (by rw [←hs0];exact ⟨rfl,rfl,rfl⟩)
  have hR0:hH w g A n c s0 [] (W5.alloc (.cells #[.pointer (some ⟨g,0,none⟩)] 206)):=by rw [←hs0];exact HRW.out.mono ((Below.refl _ _).alloc (zA0 _) _)
  have hI0:dl w g A n c l s0 (fT g bc h8 ge) [] 0 (W5.alloc (.cells #[.pointer (some ⟨g,0,none⟩)] 206)):=
   ⟨⟨s0,[],s0.v,[],rfl,hR0,rfl⟩,aa.cons (aD (ab.new _ _ _) hbc) (aa.cons (HMM.out.alloc _) (aa.cons (HEE.out.alloc _) (ag _)))⟩
  have HPP:=zAA (show aH s0.x=true∧aH s0.y=true by rw [HSA.out.2.1,HSA.out.2.2];exact HPP.out)
  have HBN:Hid (∀(ts:List Nat) (s:aW) (v:Value) (bl:List bB) (xs:List dF),(∃us,ts=0::us)→br l ts s0 []=((s,bl),0)→xs.map (·.1)=bl→(∃u,ts++[u]<+:dV l s0)→0≤s.a∧s.a≤8*(l.length:Int)∧xs.length≤100∧s.x=s0.x∧s.y=s0.y):=zAA (by
   rintro ts s v bl xs ⟨us,rfl⟩ hrun hm ⟨u,hu⟩
   have hk:=(jx l hrun).1
   have h8:s0.a≤8*(l.length:Int):=by
    by_cases h:s0.a≤8*(l.length:Int)
    ·exact h
    ·exact absurd hk (oJ (ns:=aM) rr (by omega)).2
   have b:=rD l _ hrun (by rw [HSA.out.1];omega) h8
   have hln:=hu.length_le
   have h11:=Gi l s0
   rw [List.length_append] at hln
   have e:xs.length=bl.length:=by rw [←hm,List.length_map]
   have b3:=b.2.2.1
   rw [zAF] at b3
   exact ⟨b.1,b.2.1,by omega,b.2.2.2.1,b.2.2.2.2⟩)
  have HRDS:=zAA (HALL.out (.slice none 0 0))
  rw [HRD.out] at HRDS
  rw [hs0] at HRDS
  obtain ⟨E,hE⟩:∃E,(jw l s0).2=E:=⟨_,rfl⟩
  have HEQ:=zAA hE
  clear hs0 hLB hR0 hE
  have HI0:=zAA hI0
  clear hI0
  have HB6:Hid (w.heap.size≤(W5.alloc (.cells #[.pointer (some ⟨g,0,none⟩)] 206)).heap.size):=zAA (by obtain ⟨⟨s,bl,v,xs,_,hr,_⟩,_⟩:=HI0.out;exact hr.below.size)
  generalize W5.alloc (.cells #[.pointer (some ⟨g,0,none⟩)] 206)=W6 at HI0 HB6⊢
  clear HRW HMM HEE HRD HALL HPR HAH hbc
  refine (wpIn_wide (n:=5)).1 ?_
  refine JP (α:=ji) (enc:=fun x=> #[mr g x]) (IS:=II w g A n c l s0 (fT g bc h8 ge)) (I:=IF w g A n c l s0 (fT g bc h8 ge)) (I2:=IG w g A n c l s0 (fT g bc h8 ge)) (IE:=IH w g A n c l s0 (fT g bc h8 ge)) (S:=fun xs=>cw xs=dV l s0) (Sp:=fun pre=>cw pre<+:dV l s0)
   (St:=ks g A n c (aB l s0 0).1.1.pt s0.x s0.y [(bc,206,#[.pointer (some ⟨g,0,none⟩)])])
   rfl (by decide) (gf:=223) (lb:= #[.pointer (some ⟨bc,0,none⟩)]) rfl trivial (enters_of Tryz.func223 (by kernel_rfl) rfl)
   (Ey 4 (by decide) w g bc A n c l s0 [(h8,55,dz m0 (.slice none 0 0)),(ge,26,#[.int .i64 0])] hgw (fun q hq=>(HLB.out q hq).2)) (fun _=>rfl)
   (fun cd _ W=>Iy w g A n c (aB l s0 0).1.1.pt s0.x s0.y bc h8 ge E cd W) (fun cd pre W h=>h.st)
   (fun pre x _ W=>IF w g A n c l s0 (fT g bc h8 ge) pre x W)
   (qr HB6.out (fun _:List ji=>[]) 0) (qr HB6.out cw 5) (qr HB6.out cw 0) (fun cd=>G8 HB6.out) (fun x k=>OwnFrom.and (qr HB6.out cw x.1) (H7 x)) HI0.out ?round ?done ?stop
  case round=>
   apply Exists.intro
   refine And.intro ?_ ?_
   ·rintro lp pre x W' hI hsp
    have HI:=zAA hI
    clear hI hsp
    dsimp only
    gi_wp2
    obtain ⟨g0,hg0⟩:∃g0,W'.heap.size=g0:=⟨_,rfl⟩
    exact ⟨⟨g0,rfl,HI.out⟩,KeepsFrom.refl _ _⟩
   ·rintro lp pre ⟨t,b0,b1,b2⟩ k W' ⟨hI,hP⟩ hsp
    have hI:dl w g A n c l s0 (fT g bc h8 ge) (cw pre) t W':=hI
    have hsp':cw pre++[t]<+:dV l s0:=by rw [←bS pre (t,b0,b1,b2)];exact hsp
    rcases yq l s0 hsp' with ⟨hpre,rfl⟩|⟨us,hpre,hus,ht0,ht5⟩
    ·skip
     have A0:∀{s:aW} {bl:List bB},br l (cw pre) s0 []=((s,bl),0)→s.a=i:=fun hrun=>by
      rw [hpre] at hrun
      simp only [br,Prod.mk.injEq,and_true] at hrun
      rw [←hrun.1]
      exact HSA.out.1
     have hC:Calls Tryz.prog 224 #[.pointer (some ⟨g,0,none⟩)] W' fun e W2=>∃er,e= .returned (.int .i64 er)∧(∀B,KeepsFrom B W' W2)∧tV w g A n c l s0 (fT g bc h8 ge) (cw pre) 0 er W2:=by
      refine jQ hI hsp' HLB.out (fun s v bl xs hrun hr hm=>?_)
      exact EB hr hgw HA.out HN.out hsz (by rw [(bo s 0).1,A0 hrun];omega) (by rw [(bo s 0).1,A0 hrun];omega)
     have HC:=zAA hC
     have HS:=zAA hsp
     clear hC hI hP hsp hsp' hpre
     dsimp only [mr]
     gi_wp2_with (refine ⟨trivial,?_⟩;gi_at_call 224;refine (callsIn_wide.2 HC.out).mono ?_;rintro e w2 ⟨er,rfl,hkf,hE⟩;have HKF:=zAA hkf;have HE:=zAA hE;have hcc:=hE.cl.tail.tail.head;clear hkf hE HC;have y0:=hcc.cell 0;have y1:=hcc.frozen 0;have HEc:=zAA hcc;clear hcc;(try dsimp only at y0 y1);have y2:=(HEc.out.set_ 0 (.int .i64 er)).cell 0;(try dsimp only at y2))
     ·exact ⟨ak (HKF.out _) _ _,ny HGE.out HEQ.out HE.out (by rename_i h;simpa using h)⟩
     ·have he:er=0:=by rename_i h;simpa using h
      subst he
      refine ⟨ak (HKF.out _) _ _,trivial,?_⟩
      show dl w g A n c l s0 (fT g bc h8 ge) (cw (pre++[_])) 0 _
      rw [bS]
      exact (HE.out.ok rfl).setE HGE.out HEc.out (.int .i64 0) (lG HE.out.cl)
    ·have hpre:∃us,cw pre=0::us:=⟨us,hpre⟩
     have ht:t=1∨t=2∨t=3∨t=4∨t=5:=by omega
     clear hus ht0 ht5
     rcases ht with rfl|rfl|rfl|rfl|rfl
     ·skip
      have hC:Calls Tryz.prog 225 #[.pointer (some ⟨g,0,none⟩)] W' fun e W2=>∃er,e= .returned (.int .i64 er)∧(∀B,KeepsFrom B W' W2)∧tV w g A n c l s0 (fT g bc h8 ge) (cw pre) 1 er W2:=by
       refine jQ hI hsp' HLB.out (fun s v bl xs hrun hr hm=>?_)
       obtain ⟨B0,B1,BL,BX,BY⟩:=HBN.out (cw pre) s v bl xs hpre hrun hm ⟨_,hsp'⟩
       have B0:0≤({au s 1 with v:=v}:aW).a:=by show 0≤(au s 1).a;rw [(bo s 1).1];exact B0
       have B1:({au s 1 with v:=v}:aW).a≤8*(l.length:Int):=by show (au s 1).a≤_;rw [(bo s 1).1];exact B1
       have BX:({au s 1 with v:=v}:aW).x=s0.x:=by show (au s 1).x=_;rw [(bo s 1).2.1];exact BX
       have BY:({au s 1 with v:=v}:aW).y=s0.y:=by show (au s 1).y=_;rw [(bo s 1).2.2.1];exact BY
       exact EE hr hgw HA.out HN.out hsz B0 B1
      have HC:=zAA hC
      have HS:=zAA hsp
      clear hC hI hP hsp hsp' hpre
      dsimp only [mr]
      gi_wp2_with (refine ⟨trivial,?_⟩;gi_at_call 225;refine (callsIn_wide.2 HC.out).mono ?_;rintro e w2 ⟨er,rfl,hkf,hE⟩;have HKF:=zAA hkf;have HE:=zAA hE;have hcc:=hE.cl.tail.tail.head;clear hkf hE HC;have y0:=hcc.cell 0;have y1:=hcc.frozen 0;have HEc:=zAA hcc;clear hcc;(try dsimp only at y0 y1);have y2:=(HEc.out.set_ 0 (.int .i64 er)).cell 0;(try dsimp only at y2))
      ·exact ⟨ak (HKF.out _) _ _,ny HGE.out HEQ.out HE.out (by rename_i h;simpa using h)⟩
      ·have he:er=0:=by rename_i h;simpa using h
       subst he
       refine ⟨ak (HKF.out _) _ _,trivial,?_⟩
       show dl w g A n c l s0 (fT g bc h8 ge) (cw (pre++[_])) 0 _
       rw [bS]
       exact (HE.out.ok rfl).setE HGE.out HEc.out (.int .i64 0) (lG HE.out.cl)
     ·skip
      have hC:Calls Tryz.prog 255 #[.pointer (some ⟨b0,0,none⟩),.pointer (some ⟨b1,0,none⟩),.pointer (some ⟨b2,0,none⟩)] W' fun e W2=>∃er,e= .returned (.int .i64 er)∧(∀B,KeepsFrom B W' W2)∧tV w g A n c l s0 (fT g bc h8 ge) (cw pre) 2 er W2:=by
       refine jQ hI hsp' HLB.out (fun s v bl xs hrun hr hm=>?_)
       obtain ⟨B0,B1,BL,BX,BY⟩:=HBN.out (cw pre) s v bl xs hpre hrun hm ⟨_,hsp'⟩
       have B0:0≤({au s 2 with v:=v}:aW).a:=by show 0≤(au s 2).a;rw [(bo s 2).1];exact B0
       have B1:({au s 2 with v:=v}:aW).a≤8*(l.length:Int):=by show (au s 2).a≤_;rw [(bo s 2).1];exact B1
       have BX:({au s 2 with v:=v}:aW).x=s0.x:=by show (au s 2).x=_;rw [(bo s 2).2.1];exact BX
       have BY:({au s 2 with v:=v}:aW).y=s0.y:=by show (au s 2).y=_;rw [(bo s 2).2.2.1];exact BY
       exact EC hr hgw HA.out HN.out hsz B0 B1 (by rw [BX];exact HPP.out.1) hP.1 (by rw [BX];exact hP.2.1) hP.2.2
      have HC:=zAA hC
      have HS:=zAA hsp
      clear hC hI hP hsp hsp' hpre
      dsimp only [mr]
      gi_wp2_with (refine ⟨trivial,?_⟩;gi_at_call 255;refine (callsIn_wide.2 HC.out).mono ?_;rintro e w2 ⟨er,rfl,hkf,hE⟩;have HKF:=zAA hkf;have HE:=zAA hE;have hcc:=hE.cl.tail.tail.head;clear hkf hE HC;have y0:=hcc.cell 0;have y1:=hcc.frozen 0;have HEc:=zAA hcc;clear hcc;(try dsimp only at y0 y1);have y2:=(HEc.out.set_ 0 (.int .i64 er)).cell 0;(try dsimp only at y2))
      ·exact ⟨ak (HKF.out _) _ _,ny HGE.out HEQ.out HE.out (by rename_i h;simpa using h)⟩
      ·have he:er=0:=by rename_i h;simpa using h
       subst he
       refine ⟨ak (HKF.out _) _ _,trivial,?_⟩
       show dl w g A n c l s0 (fT g bc h8 ge) (cw (pre++[_])) 0 _
       rw [bS]
       exact (HE.out.ok rfl).setE HGE.out HEc.out (.int .i64 0) (lG HE.out.cl)
     ·skip
      have hC:Calls Tryz.prog 255 #[.pointer (some ⟨b0,0,none⟩),.pointer (some ⟨b1,0,none⟩),.pointer (some ⟨b2,0,none⟩)] W' fun e W2=>∃er,e= .returned (.int .i64 er)∧(∀B,KeepsFrom B W' W2)∧tV w g A n c l s0 (fT g bc h8 ge) (cw pre) 3 er W2:=by
       refine jQ hI hsp' HLB.out (fun s v bl xs hrun hr hm=>?_)
       obtain ⟨B0,B1,BL,BX,BY⟩:=HBN.out (cw pre) s v bl xs hpre hrun hm ⟨_,hsp'⟩
       have B0:0≤({au s 3 with v:=v}:aW).a:=by show 0≤(au s 3).a;rw [(bo s 3).1];exact B0
       have B1:({au s 3 with v:=v}:aW).a≤8*(l.length:Int):=by show (au s 3).a≤_;rw [(bo s 3).1];exact B1
       have BX:({au s 3 with v:=v}:aW).x=s0.x:=by show (au s 3).x=_;rw [(bo s 3).2.1];exact BX
       have BY:({au s 3 with v:=v}:aW).y=s0.y:=by show (au s 3).y=_;rw [(bo s 3).2.2.1];exact BY
       exact ED hr hgw HA.out HN.out hsz B0 B1 (by rw [BY];exact HPP.out.2) hP.1 (by rw [BY];exact hP.2.1) hP.2.2
      have HC:=zAA hC
      have HS:=zAA hsp
      clear hC hI hP hsp hsp' hpre
      dsimp only [mr]
      gi_wp2_with (refine ⟨trivial,?_⟩;gi_at_call 255;refine (callsIn_wide.2 HC.out).mono ?_;rintro e w2 ⟨er,rfl,hkf,hE⟩;have HKF:=zAA hkf;have HE:=zAA hE;have hcc:=hE.cl.tail.tail.head;clear hkf hE HC;have y0:=hcc.cell 0;have y1:=hcc.frozen 0;have HEc:=zAA hcc;clear hcc;(try dsimp only at y0 y1);have y2:=(HEc.out.set_ 0 (.int .i64 er)).cell 0;(try dsimp only at y2))
      ·exact ⟨ak (HKF.out _) _ _,ny HGE.out HEQ.out HE.out (by rename_i h;simpa using h)⟩
      ·have he:er=0:=by rename_i h;simpa using h
       subst he
       refine ⟨ak (HKF.out _) _ _,trivial,?_⟩
       show dl w g A n c l s0 (fT g bc h8 ge) (cw (pre++[_])) 0 _
       rw [bS]
       exact (HE.out.ok rfl).setE HGE.out HEc.out (.int .i64 0) (lG HE.out.cl)
     ·skip
      have hC:Calls Tryz.prog 227 #[.pointer (some ⟨g,0,none⟩)] W' fun e W2=>∃er,e= .returned (.int .i64 er)∧(∀B,KeepsFrom B W' W2)∧tV w g A n c l s0 (fT g bc h8 ge) (cw pre) 4 er W2:=by
       refine jQ hI hsp' HLB.out (fun s v bl xs hrun hr hm=>?_)
       obtain ⟨B0,B1,BL,BX,BY⟩:=HBN.out (cw pre) s v bl xs hpre hrun hm ⟨_,hsp'⟩
       have B0:0≤({au s 4 with v:=v}:aW).a:=by show 0≤(au s 4).a;rw [(bo s 4).1];exact B0
       have B1:({au s 4 with v:=v}:aW).a≤8*(l.length:Int):=by show (au s 4).a≤_;rw [(bo s 4).1];exact B1
       have BX:({au s 4 with v:=v}:aW).x=s0.x:=by show (au s 4).x=_;rw [(bo s 4).2.1];exact BX
       have BY:({au s 4 with v:=v}:aW).y=s0.y:=by show (au s 4).y=_;rw [(bo s 4).2.2.1];exact BY
       exact zB hr hgw HA.out (HT.out) HN.out hsz B0 B1
      have HC:=zAA hC
      have HS:=zAA hsp
      clear hC hI hP hsp hsp' hpre
      dsimp only [mr]
      gi_wp2_with (refine ⟨trivial,?_⟩;gi_at_call 227;refine (callsIn_wide.2 HC.out).mono ?_;rintro e w2 ⟨er,rfl,hkf,hE⟩;have HKF:=zAA hkf;have HE:=zAA hE;have hcc:=hE.cl.tail.tail.head;clear hkf hE HC;have y0:=hcc.cell 0;have y1:=hcc.frozen 0;have HEc:=zAA hcc;clear hcc;(try dsimp only at y0 y1);have y2:=(HEc.out.set_ 0 (.int .i64 er)).cell 0;(try dsimp only at y2))
      ·exact ⟨ak (HKF.out _) _ _,ny HGE.out HEQ.out HE.out (by rename_i h;simpa using h)⟩
      ·have he:er=0:=by rename_i h;simpa using h
       subst he
       refine ⟨ak (HKF.out _) _ _,trivial,?_⟩
       show dl w g A n c l s0 (fT g bc h8 ge) (cw (pre++[_])) 0 _
       rw [bS]
       exact (HE.out.ok rfl).setE HGE.out HEc.out (.int .i64 0) (lG HE.out.cl)
     ·skip
      have hC:Calls Tryz.prog 228 #[.pointer (some ⟨g,0,none⟩)] W' fun e W2=>∃er,e= .returned (.int .i64 er)∧(∀B,KeepsFrom B W' W2)∧tV w g A n c l s0 (fT g bc h8 ge) (cw pre) 5 er W2:=by
       refine jQ hI hsp' HLB.out (fun s v bl xs hrun hr hm=>?_)
       obtain ⟨B0,B1,BL,BX,BY⟩:=HBN.out (cw pre) s v bl xs hpre hrun hm ⟨_,hsp'⟩
       have B0:0≤({au s 5 with v:=v}:aW).a:=by show 0≤(au s 5).a;rw [(bo s 5).1];exact B0
       have B1:({au s 5 with v:=v}:aW).a≤8*(l.length:Int):=by show (au s 5).a≤_;rw [(bo s 5).1];exact B1
       have BX:({au s 5 with v:=v}:aW).x=s0.x:=by show (au s 5).x=_;rw [(bo s 5).2.1];exact BX
       have BY:({au s 5 with v:=v}:aW).y=s0.y:=by show (au s 5).y=_;rw [(bo s 5).2.2.1];exact BY
       exact EA hr hgw HA.out (HT.out) HN.out hsz B0 B1 BL
      have HC:=zAA hC
      have HS:=zAA hsp
      clear hC hI hP hsp hsp' hpre
      dsimp only [mr]
      gi_wp2_with (refine ⟨trivial,?_⟩;gi_at_call 228;refine (callsIn_wide.2 HC.out).mono ?_;rintro e w2 ⟨er,rfl,hkf,hE⟩;have HKF:=zAA hkf;have HE:=zAA hE;have hcc:=hE.cl.tail.tail.head;clear hkf hE HC;have y0:=hcc.cell 0;have y1:=hcc.frozen 0;have HEc:=zAA hcc;clear hcc;(try dsimp only at y0 y1);have y2:=(HEc.out.set_ 0 (.int .i64 er)).cell 0;(try dsimp only at y2))
      ·exact ⟨ak (HKF.out _) _ _,ny HGE.out HEQ.out HE.out (by rename_i h;simpa using h)⟩
      ·have he:er=0:=by rename_i h;simpa using h
       subst he
       refine ⟨ak (HKF.out _) _ _,trivial,?_⟩
       show dl w g A n c l s0 (fT g bc h8 ge) (cw (pre++[_])) 0 _
       rw [bS]
       exact (HE.out.ok rfl).setE HGE.out HEc.out (.int .i64 0) (lG HE.out.cl)
  case done=>
   rintro D xs W2 hD hS hIE hK
   obtain ⟨⟨s,bl,v,xs',hrun,hr,hm⟩,hcl⟩:=hIE
   rw [hS] at hrun
   rw [IW l hrun] at hr
   obtain ⟨A2,c2,hv⟩:=bj hr.row
   dsimp only at hv
   subst hv
   have hral:jw l s0=((s,bl),0):=(uQ l s0).trans hrun
   have hrr:r=(⟨ad,s.kd,s.qu,s.mx,s.my,s.pa,bl⟩,s.a - i,0):=by
    rcases HRDS.out with ⟨_,_,h3⟩|⟨_,s',bl',h2,h3⟩
    ·rw [hral] at h3;exact absurd rfl h3
    ·rw [hral] at h2
     obtain ⟨rfl,rfl⟩:=Prod.mk.inj h2
     exact h3
   have had:s.ad=ad:=by rw [Ba l _ hrun,←HS0.out]
   have hk:=(jx l hrun).1
   have h88:s0.a≤8*(l.length:Int):=by
    by_cases h:s0.a≤8*(l.length:Int)
    ·exact h
    ·exact absurd hk (oJ (ns:=aM) rr (by omega)).2
   have hb:=rD l _ hrun (by rw [HSA.out.1];omega) h88
   have hwr:IntKind.i64.wrap (s.a - i)=s.a - i:=by have h1:=HSA.out.1;have h2:=HN.out;have h3:=hb.1;have h4:=hb.2.1;rw [IntKind.wrap_i64];omega
   have HRR:=zAA hrr;have HM:=zAA hm;have HK:=zAA hK;have HD:=zAA hD;have HWR:=zAA hwr
   clear hrr hm hb hwr hk h88 hS hral hrun hK hD
   have HR2:=zAA hr
   have hMr:ay w [(h8,55,dz m0 (.slice none 0 0))] (AL w.heap.size (.slice A2 xs'.length c2) xs') W2:=G6 hr (aa.cons hcl.tail.head (ag _))
   have HMR:=zAA hMr
   have HGC:=zAA (show ab W2.drew g 208 (fR A n c {s with v:= .slice A2 xs'.length c2}) from hr.cell)
   have hmc:=hMr.2.1.head
   have hec:=hcl.tail.tail.head
   clear hr hMr hcl
   have y0:=hec.cell 0
   have q0:=hmc.frozen 0;have q1:=hmc.frozen 1;have q2:=hmc.frozen 2;have q3:=hmc.frozen 3;have q4:=hmc.frozen 4;have q5:=hmc.frozen 5;have q6:=hmc.frozen 6
   have r0:=hmc.cell 0;have r1:=hmc.cell 1;have r2:=hmc.cell 2;have r3:=hmc.cell 3;have r4:=hmc.cell 4;have r5:=hmc.cell 5;have r6:=hmc.cell 6
   unfold dz m0 at r0 r1 r2 r3 r4 r5 r6
   simp at r0 r1 r2 r3 r4 r5 r6
   (try dsimp only at y0 q0 q1 q2 q3 q4 q5 q6)
   clear hec hmc
   obtain ⟨sa,pt,sad,kd,qu,mx,my,pa,sv,sx,sy⟩:=s
   dsimp only at had
   subst had
   unfold fR at HGC
   dsimp only at HGC HRR HR2 HMR
   have HGF:=zAA (fun (W:World) (i:Nat) (u:Value) (h:aa [(g,208,#[.slice A n c,.int .i64 sa,.bool pt.1,.bool pt.2.1,.bool pt.2.2.1,.bool pt.2.2.2.1,.bool pt.2.2.2.2,.int .i64 sad,.int .i64 kd,.int .i64 qu,.int .i64 mx,.int .i64 my,.int .i64 pa,.slice A2 xs'.length c2,.int .i64 sx,.int .i64 sy])] W)=>aa.far h (p:=⟨h8,i,none⟩) (fun q hq=>by rw [zAN] at hq;subst hq;exact fun e=>(HLB.out _ (by simp [fT];exact .inr (.inl rfl)):_∧h8≠g).2 e.symm) u)
   gi_wp2_with fail
   go_wp2_with fail
   refine ai (fun w'=>aa [(g,208,#[.slice A n c,.int .i64 sa,.bool pt.1,.bool pt.2.1,.bool pt.2.2.1,.bool pt.2.2.2.1,.bool pt.2.2.2.2,.int .i64 sad,.int .i64 kd,.int .i64 qu,.int .i64 mx,.int .i64 my,.int .i64 pa,.slice A2 xs'.length c2,.int .i64 sx,.int .i64 sy])] w') 11 (.take 0 (.take 1 (.take 2 (.take 3 (.take 4 (.take 5 (.take 6 (.take 7 (.take 8 (.take 9 (.step 10 .done))))))))))) (by kernel_rfl) (by kernel_rfl) (by simp only [aR.out,Array.getD_eq_getD_getElem?,zAR,zAQ,zAP,zAV];rfl) (by simp only [zAX,zAZ];rfl) (aa.cons HGC.out (ag _)) (fun PE hPE=>?_)
   iterate 10
    refine ah (v:=?_) rfl (by rfl) ?_ ?_
    rotate_left
    ·intro _ hSw;(try dsimp only at hSw);have z1:=hSw.head.cell 1;have z7:=hSw.head.cell 7;have z8:=hSw.head.cell 8;have z9:=hSw.head.cell 9;have z10:=hSw.head.cell 10;have z11:=hSw.head.cell 11;have z12:=hSw.head.cell 12;have z13:=hSw.head.cell 13;dsimp only at z1 z7 z8 z9 z10 z11 z12 z13;go_simp;(try with_reducible rfl)
    simp only [zAB,zAD,zAC]
   refine bG _ (w':=?_) rfl (by rfl) ?_ ?_ ?_
   rotate_left 1
   ·go_simp;(first|(with_reducible rfl)|(constructor<;>with_reducible rfl)|skip)
   ·exact aa.drew (HGF.out _ _ _ (HGF.out _ _ _ (HGF.out _ _ _ (HGF.out _ _ _ (HGF.out _ _ _ (HGF.out _ _ _ (HGF.out _ _ _ (aa.cons HGC.out (ag _)))))))))
   refine hPE _ _ ?_
   clear hPE PE
   simp only [zAS,zAW]
   go_wp2_with fail
   refine ⟨rfl,?_⟩
   go_wp2_with fail
   rw [Exit.noGoto_ret,HRR.out]
   obtain ⟨hK5,hc6⟩:=AM HMR.out HH8.out Gy HK.out (zAU HB6.out HD.out) ⟨sad,kd,qu,mx,my,pa,bl⟩ (.slice A2 xs'.length c2)
   exact ef hK5 (jN h8 ⟨sad,kd,qu,mx,my,pa,bl⟩ (.slice A2 xs'.length c2) (sa - i) 0 _ _ hc6.2.1.head rfl (congrArg (Value.int .i64) HWR.out) rfl) (AN hc6 HM.out.symm)
  case stop=>
   rintro D cd pre W2 hD hsp hX hK
   obtain ⟨rfl,hne,_,hmm,hee,hbel⟩:=hX
   have hrr:r=(m0,0,E):=by
    rcases HRDS.out with ⟨_,h2,_⟩|⟨h1,_⟩
    ·rw [h2,HEQ.out]
    ·rw [HEQ.out] at h1;exact absurd h1 hne
   have HRR:=zAA hrr;have HNE:=zAA hne;have HMM:=zAA hmm;have HEE:=zAA hee;have HBel:=zAA hbel;have HK:=zAA hK;have HD:=zAA hD
   have y0:=hee.cell 0
   have q0:=hmm.frozen 0;have q1:=hmm.frozen 1;have q2:=hmm.frozen 2;have q3:=hmm.frozen 3;have q4:=hmm.frozen 4;have q5:=hmm.frozen 5;have q6:=hmm.frozen 6
   have r0:=hmm.cell 0;have r1:=hmm.cell 1;have r2:=hmm.cell 2;have r3:=hmm.cell 3;have r4:=hmm.cell 4;have r5:=hmm.cell 5;have r6:=hmm.cell 6
   unfold dz m0 at r0 r1 r2 r3 r4 r5 r6
   simp at r0 r1 r2 r3 r4 r5 r6
   (try dsimp only at y0 q0 q1 q2 q3 q4 q5 q6)
   have hne2:(E !=0)=true:=by simpa using hne
   clear hrr hmm hee hbel hK hD hsp hne
   gi_wp2_with fail
   have HEd:=zAA (show ab W2.drew ge 26 #[.int .i64 E] from HEE.out)
   go_wp2_with fail
   refine ai (fun w'=>aa [(ge,26,#[.int .i64 E])] w') 4 (.take 0 (.take 1 (.step 2 (.step 3 .done)))) (by kernel_rfl) (by kernel_rfl) (by simp only [aR.out,Array.getD_eq_getD_getElem?,zAR,zAQ,zAP,zAV];rfl) (by simp only [zAX,zAZ];rfl) (aa.cons HEd.out (ag _)) (fun PE hPE=>?_)
   iterate 2
    refine ah (v:=?_) rfl (by rfl) ?_ ?_
    rotate_left
    ·intro _ hSw;(try dsimp only at hSw);have z1:=hSw.head.cell 0;dsimp only at z1;go_simp;(try with_reducible rfl)
    simp only [zAB,zAD,zAC]
   refine bG _ (w':=?_) rfl (by rfl) ?_ ?_ ?_
   rotate_left 1
   ·go_simp;(first|(with_reducible rfl)|(constructor<;>with_reducible rfl)|skip)
   ·have hf:∀(W:World) (i:Nat) (u:Value),aa [(ge,26,#[.int .i64 E])] W→aa [(ge,26,#[.int .i64 E])] (W.setCell ⟨h8,i,none⟩ u):=fun W i u h=>aa.far h (p:=⟨h8,i,none⟩) (fun q hq=>by rw [zAN] at hq;subst hq;exact aS HEE.out HMM.out (by simp)) u
    exact aa.drew (hf _ _ _ (hf _ _ _ (hf _ _ _ (hf _ _ _ (hf _ _ _ (hf _ _ _ (hf _ _ _ (aa.cons HEE.out (ag _)))))))))
   refine aw (v:=?_) (w':=?_) rfl (by rfl) ?_ ?_ ?_
   rotate_left 2
   ·go_simp;(try (constructor<;>with_reducible rfl))
   ·have hf:∀(W:World) (i:Nat) (u:Value),aa [(ge,26,#[.int .i64 E])] W→aa [(ge,26,#[.int .i64 E])] (W.setCell ⟨h8,i,none⟩ u):=fun W i u h=>aa.far h (p:=⟨h8,i,none⟩) (fun q hq=>by rw [zAN] at hq;subst hq;exact aS HEE.out HMM.out (by simp)) u
    exact aa.drew (hf _ _ _ (hf _ _ _ (hf _ _ _ (hf _ _ _ (hf _ _ _ (hf _ _ _ (hf _ _ _ (aa.cons HEE.out (ag _)))))))))
   simp only [zAB,zAD,zAC]
   refine hPE _ _ ?_
   clear hPE PE
   simp only [zAS,zAW]
   go_wp2_with fail
   refine ⟨rfl,?_⟩
   go_wp2_with fail
   rw [Exit.noGoto_ret,HRR.out]
   obtain ⟨hK5,hc6⟩:=AM (R:=AL w.heap.size (.slice none 0 0) []) ⟨HBel.out,aa.cons HMM.out (ag _),ap.cons (zAO _ _ _ _) (aE _)⟩ HH8.out Gy HK.out (zAU HB6.out HD.out) m0 (.slice none 0 0)
   exact ef hK5 (jN h8 m0 (.slice none 0 0) 0 E _ _ hc6.2.1.head rfl rfl rfl) (AN hc6 rfl)
end Go.Proofs.YthhijgcfbjcgiaaGreatDoor
