/- Seek -/
import Derived.Test.YthhijgcfbjcgiaaGreatDoorS21
import Derived.Test.YthhijgcfbjcgiaaGreatDoorS32
import Derived.Test.YthhijgcfbjcgiaaGreatDoorS26
namespace Go.Proofs.YthhijgcfbjcgiaaGreatDoor
open Go Go.RowKit
attribute [local go_sem] Oper.semAt_some
open List renaming setIfInBounds_toArray→zAA,set_cons_succ→zAB,set_cons_zero→zAC,drop_succ_cons→zAE,getElem?_cons_succ→zAF,getElem?_cons_zero→zAG,getElem?_toArray→zAH,drop_zero→zAI,map_cons→zAL,map_nil→zAN
open Go.Lib renaming hid→zAD
open Option renaming getD_some→zAJ
open Nat renaming le_refl→zAK
open Go.IntKind renaming wrap_i64→zAM,i64→zAO
def cC (bv:Value) (p:Nat) (sv:Value):Array Value:= #[bv,.int .i64 (p:Int),sv]
def GC (g:Nat) (bv sv:Value) (r:Nat×Int) (w:World) (e:Ending) (w':World):Prop:=
 w.grownBy w' (some g)∧((r.2=0∧(∃u,e= .returned u)∧ab w' g 77 (cC bv r.1 sv))∨(r.2≠0∧hF r.2 e∧∃p',ab w' g 77 (cC bv p' sv)))
theorem mh {W:World} {g p:Nat} {bv sv:Value} (h:ab W g 77 (cC bv p sv)) (q:Nat):ab (W.setCell ⟨g,1,none⟩ (.int .i64 (q:Int))) g 77 (cC bv q sv):=by
 have h1:=h.set_ 1 (.int .i64 (q:Int))
 unfold cC at*
 simpa using h1
set_option maxRecDepth 100000 in
set_option maxHeartbeats 4000000 in
theorem pZ (g:Nat) (A:Option Addr) (n c:Nat) (l:List UInt8) (p:Nat) (sv:Value) (want:Int) (w:World) (hb:ab w g 77 (cC (.slice A n c) p sv)) (hA:Sl w A (l.map af)) (hn:l.length=n) (hsz:n≤2 ^ 40) (hp:p≤8*n):
  Calls Tryz.prog 85 #[.pointer (some ⟨g,0,none⟩),.int .i64 want] w (GC g (.slice A n c) sv (cL l p want) w):=by
 have HBD:=zAD (show ab w.drew g 77 (cC (.slice A n c) p sv) from hb)
 have C1:=zAD (Bw A n c l p w.drew hA hn hsz hp)
 have hgot:= @pW l p
 have hcut:= @jb
 unfold wk vb at C1
 obtain ⟨r,hr⟩:∃r,cL l p want=r:=⟨_,rfl⟩
 rw [hr]
 unfold cL at hr
 obtain ⟨⟨num,en,er⟩,hs⟩:∃s,cu l p=s:=⟨_,rfl⟩
 rw [hs] at C1 hr hgot
 dsimp only at C1 hr hgot
 have HG0:=zAD (lF w g)
 clear hb hA hs
 by_cases he:er=0
 ·subst he
  rw [if_pos rfl] at hr C1
  have hg:=hgot rfl
  have hwr:zAO.wrap ((p:Int)+((en:Int) - (p:Int)))=(p:Int)+((en:Int) - (p:Int)):=by rw [zAM];omega
  have hee:(p:Int)+((en:Int) - (p:Int))=(en:Int):=by omega
  have HW:=zAD hwr;have HEE:=zAD hee
  clear hgot hg hwr hee
  by_cases hw:num=want
  ·rw [if_pos hw] at hr
   subst hr
   have hnb:(num !=want)=false:=by simpa using hw
   clear hw
   go_enter Tryz.func85,Tryz.ntmps85
   go_wp2_with fail
   refine ai (fun w'=>ab w' g 77 (cC (.slice A n c) p sv)) 17 (.take 0 (.take 1 (.take 2 (.take 3 (.take 4 (.take 5 (.take 6 (.take 7 (.take 8 (.take 9 (.step 10 (.take 11 (.take 12 (.take 13 (.take 14 (.step 15 (.step 16 .done))))))))))))))))) (by kernel_rfl) (by kernel_rfl) (by simp only [aR.out,Array.getD_eq_getD_getElem?,zAH,zAG,zAF,zAJ];rfl) (by simp only [zAL,zAN];rfl) (HBD.out) (fun PE hPE=>?_)
   iterate 10
    refine ah (v:=?_) rfl (by rfl) ?_ ?_
    rotate_left
    ·intro _ hSw;(try dsimp only at hSw);have a:=hSw;unfold cC at a;have a0:=a.cell 0;have a1:=a.cell 1;(try dsimp only at a0 a1);go_simp;(try with_reducible rfl)
    simp only [zAA,zAC,zAB]
   refine aV (f:=140) rfl (by rfl) (by first|(go_simp;done)|(go_simp;rfl)) C1.out ?_
   rintro e w2 ⟨rfl,hb2⟩
   have HB2:=zAD (HBD.out.below hb2 HBD.out.lt);have HG2:=zAD (HG0.out.trans (dh hb2 (zAK _)))
   refine ⟨_,rfl,_,fun _ h=>h,HB2.out,?_⟩
   simp only [zAA,zAC,zAB]
   iterate 4
    refine ah (v:=?_) rfl (by rfl) ?_ ?_
    rotate_left
    ·intro _ hSw;(try dsimp only at hSw);go_simp;(try with_reducible rfl)
    simp only [zAA,zAC,zAB]
   refine aw (v:=?_) (w':=?_) rfl (by rfl) ?_ ?_ ?_
   rotate_left 2
   ·go_simp;(try (constructor<;>with_reducible rfl))
   ·exact HB2.out
   simp only [zAA,zAC,zAB]
   refine aw (v:=?_) (w':=?_) rfl (by rfl) ?_ ?_ ?_
   rotate_left 2
   ·go_simp;(try (constructor<;>with_reducible rfl))
   ·exact HB2.out
   simp only [zAA,zAC,zAB]
   refine hPE _ _ ?_
   clear hPE PE
   simp only [zAE,zAI]
   clear hb2
   go_wp2_with fail
   refine ⟨rfl,?_⟩
   go_wp2_with (go_at_call 87;refine (eW g (.slice A n c) sv p ((en:Int) - (p:Int)) _ HB2.out HW.out).mono ?_;rintro e w3 ⟨⟨u,rfl⟩,rfl⟩)
   refine bodyPost_end (results_none rfl _ _ _) rfl ⟨HG2.out.trans (gO _ _ _ _),.inl ⟨rfl,⟨_,rfl⟩,?_⟩⟩
   rw [HEE.out]
   exact mh HB2.out en
  ·rw [if_neg hw] at hr
   subst hr
   have hnb:(num !=want)=true:=by simpa using hw
   clear hw
   go_enter Tryz.func85,Tryz.ntmps85
   go_wp2_with fail
   refine ai (fun w'=>ab w' g 77 (cC (.slice A n c) p sv)) 17 (.take 0 (.take 1 (.take 2 (.take 3 (.take 4 (.take 5 (.take 6 (.take 7 (.take 8 (.take 9 (.step 10 (.take 11 (.take 12 (.take 13 (.take 14 (.step 15 (.step 16 .done))))))))))))))))) (by kernel_rfl) (by kernel_rfl) (by simp only [aR.out,Array.getD_eq_getD_getElem?,zAH,zAG,zAF,zAJ];rfl) (by simp only [zAL,zAN];rfl) (HBD.out) (fun PE hPE=>?_)
   iterate 10
    refine ah (v:=?_) rfl (by rfl) ?_ ?_
    rotate_left
    ·intro _ hSw;(try dsimp only at hSw);have a:=hSw;unfold cC at a;have a0:=a.cell 0;have a1:=a.cell 1;(try dsimp only at a0 a1);go_simp;(try with_reducible rfl)
    simp only [zAA,zAC,zAB]
   refine aV (f:=140) rfl (by rfl) (by first|(go_simp;done)|(go_simp;rfl)) C1.out ?_
   rintro e w2 ⟨rfl,hb2⟩
   have HB2:=zAD (HBD.out.below hb2 HBD.out.lt);have HG2:=zAD (HG0.out.trans (dh hb2 (zAK _)))
   refine ⟨_,rfl,_,fun _ h=>h,HB2.out,?_⟩
   simp only [zAA,zAC,zAB]
   iterate 4
    refine ah (v:=?_) rfl (by rfl) ?_ ?_
    rotate_left
    ·intro _ hSw;(try dsimp only at hSw);go_simp;(try with_reducible rfl)
    simp only [zAA,zAC,zAB]
   refine aw (v:=?_) (w':=?_) rfl (by rfl) ?_ ?_ ?_
   rotate_left 2
   ·go_simp;(try (constructor<;>with_reducible rfl))
   ·exact HB2.out
   simp only [zAA,zAC,zAB]
   refine aw (v:=?_) (w':=?_) rfl (by rfl) ?_ ?_ ?_
   rotate_left 2
   ·go_simp;(try (constructor<;>with_reducible rfl))
   ·exact HB2.out
   simp only [zAA,zAC,zAB]
   refine hPE _ _ ?_
   clear hPE PE
   simp only [zAE,zAI]
   clear hb2
   go_wp2_with fail
   refine ⟨rfl,?_⟩
   go_wp2_with (go_at_call 87;refine (dJ g ((en:Int) - (p:Int)) 8 (by decide) _).mono ?_;rintro e w3 ⟨hpe,rfl⟩;unfold hF at hpe;subst hpe)
   exact ⟨rfl,HG2.out,.inr ⟨by decide,rfl,p,HB2.out⟩⟩
 ·rw [if_neg he] at hr C1
  subst hr
  have HNE:=zAD he;have HCE:=zAD (hcut he)
  have hq:(er==0)=false:=by simpa using he
  clear hgot hcut he
  go_enter Tryz.func85,Tryz.ntmps85
  go_wp2_with fail
  refine ai (fun w'=>ab w' g 77 (cC (.slice A n c) p sv)) 17 (.take 0 (.take 1 (.take 2 (.take 3 (.take 4 (.take 5 (.take 6 (.take 7 (.take 8 (.take 9 (.step 10 (.take 11 (.take 12 (.take 13 (.take 14 (.step 15 (.step 16 .done))))))))))))))))) (by kernel_rfl) (by kernel_rfl) (by simp only [aR.out,Array.getD_eq_getD_getElem?,zAH,zAG,zAF,zAJ];rfl) (by simp only [zAL,zAN];rfl) (HBD.out) (fun PE hPE=>?_)
  iterate 10
   refine ah (v:=?_) rfl (by rfl) ?_ ?_
   rotate_left
   ·intro _ hSw;(try dsimp only at hSw);have a:=hSw;unfold cC at a;have a0:=a.cell 0;have a1:=a.cell 1;(try dsimp only at a0 a1);go_simp;(try with_reducible rfl)
   simp only [zAA,zAC,zAB]
  refine aV (f:=140) rfl (by rfl) (by first|(go_simp;done)|(go_simp;rfl)) C1.out ?_
  rintro e w2 ⟨rfl,hb2⟩
  have HB2:=zAD (HBD.out.below hb2 HBD.out.lt);have HG2:=zAD (HG0.out.trans (dh hb2 (zAK _)))
  refine ⟨_,rfl,_,fun _ h=>h,HB2.out,?_⟩
  simp only [zAA,zAC,zAB]
  iterate 4
   refine ah (v:=?_) rfl (by rfl) ?_ ?_
   rotate_left
   ·intro _ hSw;(try dsimp only at hSw);go_simp;(try with_reducible rfl)
   simp only [zAA,zAC,zAB]
  refine aw (v:=?_) (w':=?_) rfl (by rfl) ?_ ?_ ?_
  rotate_left 2
  ·go_simp;(try (constructor<;>with_reducible rfl))
  ·exact HB2.out
  simp only [zAA,zAC,zAB]
  refine aw (v:=?_) (w':=?_) rfl (by rfl) ?_ ?_ ?_
  rotate_left 2
  ·go_simp;(try (constructor<;>with_reducible rfl))
  ·exact HB2.out
  simp only [zAA,zAC,zAB]
  refine hPE _ _ ?_
  clear hPE PE
  simp only [zAE,zAI]
  clear hb2
  go_wp2_with fail
  refine ⟨rfl,?_⟩
  go_wp2_with (go_at_call 87;refine (dJ g 0 er HNE.out _).mono ?_;rintro e w3 ⟨hpe,rfl⟩;unfold hF at hpe;subst hpe)
  exact ⟨rfl,HG2.out,.inr ⟨HCE.out,rfl,p,HB2.out⟩⟩
def ER (g:Nat) (bv sv:Value) (l:List UInt8) (w:World) (e:Ending) (w':World):Prop:=
 w.grownBy w' (some g)∧((dq l (8*l.length) 0=none∧e= .returned (.bool false)∧∃p',ab w' g 77 (cC bv p' sv))∨(∃q,dq l (8*l.length) 0=some q∧q≤8*l.length∧e= .returned (.bool true)∧ab w' g 77 (cC bv q sv)))
set_option maxRecDepth 100000 in
set_option maxHeartbeats 8000000 in
theorem zD (g:Nat) (A:Option Addr) (n c:Nat) (l:List UInt8) (sv:Value) (w:World) (hb:ab w g 77 (cC (.slice A n c) 0 sv)) (_hA:Sl w A (l.map af)) (hAg:∀W,w.grownBy W (some g)→Sl W A (l.map af)) (hn:l.length=n) (hsz:n≤2 ^ 40):
  Calls Tryz.prog 46 #[.pointer (some ⟨g,0,none⟩)] w (ER g (.slice A n c) sv l w):=by
 have HB:=zAD hb;have HAG:=zAD hAg;have HN:=zAD hn
 clear hb _hA hAg
 go_enter Tryz.func46,Tryz.ntmps46
 go_wp2_with fail
 go_loopg [] (8*n) (fun gk=>fun wr=>∃(q:Nat),q+gk=8*n∧Hid (nI l q)∧Hid (w.grownBy wr (some g))∧Hid (ab wr g 77 (cC (.slice A n c) q sv)))
 case atStart=>exact ⟨0,by omega,zAD (fun j hj=>by omega),zAD (tC w g),HB⟩
 case round=>
  obtain ⟨q,hq,HNS,HG,HBr⟩:=hrel
  have HBD:=zAD (show ab wr.drew g 77 (cC (.slice A n c) q sv) from HBr.out)
  have HGD:=zAD (HG.out.trans (lF wr g))
  have C1:=zAD (Di A n c l q wr.drew (HAG.out _ HGD.out) hn hsz (by omega))
  have HQ:=zAD hq
  clear hq
  go_wp2_with fail
  refine ai (fun w'=>ab w' g 77 (cC (.slice A n c) q sv)) 15 (.take 0 (.take 1 (.take 2 (.take 3 (.take 4 (.take 5 (.take 6 (.take 7 (.take 8 (.take 9 (.step 10 (.take 11 (.take 12 (.take 13 (.step 14 .done))))))))))))))) (by kernel_rfl) (by kernel_rfl) (by simp only [aR.out,Array.getD_eq_getD_getElem?,zAH,zAG,zAF,zAJ];rfl) (by simp only [zAL,zAN];rfl) (HBD.out) (fun PE hPE=>?_)
  iterate 10
   refine ah (v:=?_) rfl (by rfl) ?_ ?_
   rotate_left
   ·intro _ hSw;(try dsimp only at hSw);have a:=hSw;unfold cC at a;have a0:=a.cell 0;have a1:=a.cell 1;(try dsimp only at a0 a1);go_simp;(try with_reducible rfl)
   simp only [zAA,zAC,zAB]
  refine aV (f:=83) rfl (by rfl) (by first|(go_simp;done)|(go_simp;rfl)) C1.out ?_
  rintro e w2 ⟨hb2,(⟨q2,rfl,hf⟩|⟨rfl,hno⟩)⟩
  ·have HB2:=zAD (HBD.out.below hb2 HBD.out.lt);have HG2:=zAD (HGD.out.trans (dh hb2 (zAK _)))
   refine ⟨_,rfl,_,fun _ h=>h,HB2.out,?_⟩
   simp only [zAA,zAC,zAB]
   iterate 3
    refine ah (v:=?_) rfl (by rfl) ?_ ?_
    rotate_left
    ·intro _ hSw;(try dsimp only at hSw);go_simp;(try with_reducible rfl)
    simp only [zAA,zAC,zAB]
   refine aw (v:=?_) (w':=?_) rfl (by rfl) ?_ ?_ ?_
   rotate_left 2
   ·go_simp;(try (constructor<;>with_reducible rfl))
   ·exact HB2.out
   simp only [zAA,zAC,zAB]
   refine hPE _ _ ?_
   clear hPE PE
   simp only [zAE,zAI]
   clear hb2
   obtain ⟨hq1,⟨hc1,hc2,hc3⟩,hmin⟩:=hf
   have HNS2:=zAD (xv HNS.out hmin)
   have HCO:=zAD (show jl l q2 from ⟨hc1,hc2,hc3⟩)
   have HQ1:=zAD hq1
   rw [hn] at hc1
   have HSE:=zAD (mh HB2.out q2)
   have hse:=HSE.out
   have hb2':=HB2.out
   unfold cC at hse hb2'
   have y1:=hb2'.cell 1;have y2:=hb2'.frozen 1;have u0:=hse.cell 0;have u1:=hse.cell 1;have u2:=hse.frozen 1
   (try dsimp only at y1 y2 u0 u1 u2)
   have hw16:zAO.wrap ((q2:Int)+16)=(q2:Int)+16:=by rw [zAM];omega
   have hw1:zAO.wrap ((q2:Int)+1)=(q2:Int)+1:=by rw [zAM];omega
   have HGS:=zAD (HG2.out.trans (gO w2 g 1 (.int .i64 (q2:Int))))
   have HC1:=zAD hc1
   clear hmin hc2 hc3 hse hb2'
   by_cases h20:q2+20≤8*n
   ·have CR:=zAD (ja A n c l ((q2:Int)+16) 4 (w2.setCell ⟨g,1,none⟩ (.int .i64 (q2:Int))) (HAG.out _ HGS.out) hn (by omega) (by omega) (by omega) (by omega) (by omega))
    rw [show ((q2:Int)+16).toNat=q2+16 by omega,show (4:Int).toNat=4 from rfl] at CR
    have HST:Hid (dx l q2=decide (aF l (q2+16) 4=0)):=zAD (by
     rw [Bool.eq_iff_iff,qw,decide_eq_true_eq]
     exact ⟨fun h=>h.2.2,fun h=>⟨HCO.out,by rw [hn];omega,h⟩⟩)
    obtain ⟨x,hx⟩:∃x,aF l (q2+16) 4=x:=⟨_,rfl⟩
    rw [hx] at CR HST
    have H20:=zAD h20
    by_cases hx0:x=0
    ·subst hx0
     have HSS:=zAD (Ep HNS2.out (by rw [HST.out];rfl))
     simp only [Int.natCast_zero] at CR
     clear hx h20 hc1 hq1
     go_wp2_with fail
     refine ⟨rfl,?_⟩
     go_wp2_with (go_at_call 56;refine CR.out.mono ?_;rintro e w3 ⟨rfl,rfl⟩)
     go_ret
     exact ⟨HGS.out,.inr ⟨q2,HSS.out,by have:=H20.out;rw [hn];omega,rfl,HSE.out⟩⟩
    ·have HNX:=zAD (sC HNS2.out (by rw [HST.out];simpa using hx0))
     have hxb:((x:Int)==0)=false:=by simp;omega
     have hset:=mh HSE.out (q2+1)
     rw [show ((q2+1:Nat):Int)=(q2:Int)+1 by omega] at hset
     have HS3:=zAD hset
     clear hx h20 hc1 hq1 hx0 hset
     go_wp2_with fail
     refine ⟨rfl,?_⟩
     go_wp2_with (go_at_call 56;refine CR.out.mono ?_;rintro e w3 ⟨rfl,rfl⟩)
     go_roundg (8*n - (q2+1))
     case measure=>have:=HQ.out;have:=HQ1.out;have:=HC1.out;omega
     case rel=>exact ⟨q2+1,by have:=HC1.out;omega,HNX,zAD (HGS.out.trans (gO _ _ _ _)),HS3⟩
   ·have CR:=zAD (de A n c ((q2:Int)+16) 4 (w2.setCell ⟨g,1,none⟩ (.int .i64 (q2:Int))) (by omega) (by omega) (by omega) (by omega) (by omega))
    have HNX:=zAD (sC HNS2.out (by rw [Bool.eq_false_iff];intro h;have:=(qw.1 h).2.1;rw [hn] at this;omega))
    have hset:=mh HSE.out (q2+1)
    rw [show ((q2+1:Nat):Int)=(q2:Int)+1 by omega] at hset
    have HS3:=zAD hset
    clear h20 hc1 hq1 hset
    go_wp2_with fail
    refine ⟨rfl,?_⟩
    go_wp2_with (go_at_call 56;refine CR.out.mono ?_;rintro e w3 ⟨rfl,rfl⟩)
    go_roundg (8*n - (q2+1))
    case measure=>have:=HQ.out;have:=HQ1.out;have:=HC1.out;omega
    case rel=>exact ⟨q2+1,by have:=HC1.out;omega,HNX,zAD (HGS.out.trans (gO _ _ _ _)),HS3⟩
  ·have HB2:=zAD (HBD.out.below hb2 HBD.out.lt);have HG2:=zAD (HGD.out.trans (dh hb2 (zAK _)))
   have HNO:=zAD (Eo HNS.out hno)
   refine ⟨_,rfl,_,fun _ h=>h,HB2.out,?_⟩
   simp only [zAA,zAC,zAB]
   iterate 3
    refine ah (v:=?_) rfl (by rfl) ?_ ?_
    rotate_left
    ·intro _ hSw;(try dsimp only at hSw);go_simp;(try with_reducible rfl)
    simp only [zAA,zAC,zAB]
   refine aw (v:=?_) (w':=?_) rfl (by rfl) ?_ ?_ ?_
   rotate_left 2
   ·go_simp;(try (constructor<;>with_reducible rfl))
   ·exact HB2.out
   simp only [zAA,zAC,zAB]
   refine hPE _ _ ?_
   clear hPE PE
   simp only [zAE,zAI]
   clear hb2 hno
   go_wp2_with fail
   refine ⟨rfl,?_⟩
   go_wp2_with fail
   go_ret
   exact ⟨HG2.out,.inl ⟨HNO.out,rfl,q,HB2.out⟩⟩
end Go.Proofs.YthhijgcfbjcgiaaGreatDoor
