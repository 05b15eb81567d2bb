/- ChkS -/
import Derived.Test.YthhijgcfbjcgiaaGreatDoorS40
import Derived.Test.YthhijgcfbjcgiaaGreatDoorS32
namespace Go.Proofs.YthhijgcfbjcgiaaGreatDoor
open Go Go.RowKit
attribute [local go_sem] Oper.semAt_some
open Go.Lib renaming hid→zAA
open List renaming setIfInBounds_toArray→zAB,map_cons→zAC,map_nil→zAD,set_cons_succ→zAE,set_cons_zero→zAF,getElem?_cons_succ→zAG,getElem?_cons_zero→zAH,getElem?_toArray→zAI,drop_succ_cons→zAJ,drop_eq_getElem_cons→zAL,length_map→zAN,drop_of_length_le→zAO,drop_zero→zAR,getElem_mem→zAT
open Bool renaming false_eq_true→zAK,false_and→zAQ,true_and→zAS
open Option renaming getD_some→zAM
open Nat renaming le_refl→zAP
theorem BS {f:Int} {ns:List Int} {gs:List fK} (j:Nat) (h1:j<ns.length) (h2:j<gs.length):dT f (ns.drop j) (gs.drop j)=(jq f ns[j] gs[j]&&dT f (ns.drop (j+1)) (gs.drop (j+1))):=by
 rw [zAL h1,zAL h2,dT]
set_option maxRecDepth 100000 in
set_option maxHeartbeats 8000000 in
theorem fj (s:bh) (w:World) (hs:ek w s) (hS:fL s):Calls Tryz.prog 15 #[eE s] w fun e w'=>e= .returned (.int .i64 (if bX s.s then 0 else 2))∧Below w.heap.size w w':=by
 obtain ⟨tm,ty,sp,sA,sc,gs,A,c⟩:=s
 obtain ⟨hsp,hrow,hgs⟩:=hs
 obtain ⟨hs1,hs2,hs3⟩:=hS
 dsimp only at hsp hrow hgs hs1 hs2 hs3
 unfold eE bX bh.s
 dsimp only
 have HROW:=zAA hrow;have HGS:=zAA hgs;have HS3:=zAA hs3
 obtain ⟨RES,hres⟩:∃b,(qJ ⟨tm,ty,sp⟩&&dT (fg ty) (aQ (fg ty)) (gs.map (·.g)))=b:=⟨_,rfl⟩
 rw [hres]
 have hhd:qJ ⟨tm,ty,sp⟩=wX tm ty sp.length:=rfl
 rw [hhd] at hres
 have C1:=zAA (fun W=>uO tm ty sA sp.length sc W)
 have C2:=zAA (fun W=>sG tm ty sA sp.length sc W)
 have hf01:fg ty=0∨fg ty=1:=by unfold fg;omega
 obtain ⟨f,hf⟩:∃f,fg ty=f:=⟨_,rfl⟩
 rw [hf] at hres C2 hf01
 have C3:=zAA (fun W=>lY f hf01 W)
 obtain ⟨k,hk⟩:∃k,sp.length=k:=⟨_,rfl⟩
 obtain ⟨L,hL⟩:∃L,gs.length=L:=⟨_,rfl⟩
 obtain ⟨K,hK⟩:∃K,(aQ f).length=K:=⟨_,rfl⟩
 have hK12:K≤12:=by rw [←hK];exact ky f
 rw [hk] at C1 C2 hres
 rw [hK] at C3
 rw [hk,hL]
 have HRES:=zAA hres;have HL:=zAA hL;have HKK:=zAA hK;have HF01:=zAA hf01
 rw [hL] at hs2
 have hB0:Below w.heap.size w (w.alloc (.cells #[.int .i64 tm,.int .i64 ty,.slice sA k sc,.slice A L c] 35)):=(Below.refl _ _).alloc (zAP _) _
 obtain ⟨gg,hgg⟩:∃gg,w.heap.size=gg:=⟨_,rfl⟩
 have hG0:ab (w.alloc (.cells #[.int .i64 tm,.int .i64 ty,.slice sA k sc,.slice A L c] 35)) gg 35 #[.int .i64 tm,.int .i64 ty,.slice sA k sc,.slice A L c]:=aD (ab.new _ _ _) hgg
 have HB0:=zAA hB0;have HG0:=zAA hG0
 clear hsp hrow hgs hs1 hs3 hhd hf01 hf hres hk hL hK hB0 hG0
 cases hhe:wX tm ty k with
 |false=>
  have hr:=HRES.out
  rw [hhe,zAQ] at hr
  subst hr
  rw [hhe] at C1
  simp only [zAK,if_false] at C1⊢
  clear hhe hgg
  go_enter Tryz.func15,Tryz.ntmps15
  go_wp2_with (go_at_call 36;refine (C1.out _).mono ?_;rintro e w2 ⟨rfl,hb2⟩;have HB2:=zAA (HB0.out.trans (hb2.mono HB0.out.size));clear hb2)
  go_ret
  exact ⟨rfl,HB2.out⟩
 |true=>
 rw [hhe] at C1
 simp only [if_true] at C1
 have HRI:Hid (dT f (aQ f) (gs.map (·.g))=RES):=zAA (by rw [←HRES.out,hhe,zAS])
 clear hhe
 obtain ⟨V,hV⟩:∃V:Int,(if RES then (0:Int) else 2)=V:=⟨_,rfl⟩
 rw [hV]
 have HV:=zAA hV
 clear hV
 cases hKL:((K:Int) !=(L:Int)) with
 |true=>
  have hV2:V=2:=by
   have hne:K≠L:=by intro h;subst h;simp at hKL
   rw [←HV.out]
   cases hR:RES with
   |false=>rfl
   |true=>
    have h:=HRI.out
    rw [hR] at h
    have:=(mH _ _ h).2
    rw [zAN,HL.out,HKK.out] at this
    exact absurd this.symm hne
  subst hV2
  go_enter Tryz.func15,Tryz.ntmps15
  go_wp2_with (first|(go_at_call 36;refine (C1.out _).mono ?_;rintro e w2 ⟨rfl,hb2⟩;have HB2:=zAA (HB0.out.trans (hb2.mono HB0.out.size));have HG2:=zAA (HG0.out.below hb2 HG0.out.lt);have y:=HG2.out;have y0:=y.cell 0;have y1:=y.cell 1;have y2:=y.cell 2;(try dsimp only at y0 y1 y2);clear hb2 y)|(go_at_call 37;refine (C2.out _).mono ?_;rintro e w3 ⟨rfl,hb3⟩;have HB3:=zAA (HB2.out.trans (hb3.mono HB2.out.size));have HG3:=zAA (HG2.out.below hb3 HG2.out.lt);clear hb3 y0 y1 y2)|(go_at_call 38;refine (C3.out _).mono ?_;rintro e w4 ⟨Al,cl,rfl,hol,hb4⟩;have HB4:=zAA (HB3.out.trans (hb4.mono HB3.out.size));have HG4:=zAA (HG3.out.below hb4 HG3.out.lt);have HOL:=zAA hol;have y3:=HG4.out.cell 3;(try dsimp only at y3);clear hb4 hol))
  go_ret
  exact ⟨rfl,HB4.out⟩
 |false=>
  have hKL2:K=L:=by have h:(K:Int)=(L:Int):=(by simpa using hKL);omega
  subst hKL2
  clear hKL
  go_enter Tryz.func15,Tryz.ntmps15
  go_wp2_with (first|(go_at_call 36;refine (C1.out _).mono ?_;rintro e w2 ⟨rfl,hb2⟩;have HB2:=zAA (HB0.out.trans (hb2.mono HB0.out.size));have HG2:=zAA (HG0.out.below hb2 HG0.out.lt);have y:=HG2.out;have y0:=y.cell 0;have y1:=y.cell 1;have y2:=y.cell 2;(try dsimp only at y0 y1 y2);clear hb2 y)|(go_at_call 37;refine (C2.out _).mono ?_;rintro e w3 ⟨rfl,hb3⟩;have HB3:=zAA (HB2.out.trans (hb3.mono HB2.out.size));have HG3:=zAA (HG2.out.below hb3 HG2.out.lt);clear hb3 y0 y1 y2)|(go_at_call 38;refine (C3.out _).mono ?_;rintro e w4 ⟨Al,cl,rfl,hol,hb4⟩;have HB4:=zAA (HB3.out.trans (hb4.mono HB3.out.size));have HG4:=zAA (HG3.out.below hb4 HG3.out.lt);have HOL:=zAA hol;have y3:=HG4.out.cell 3;(try dsimp only at y3);clear hb4 hol))
  go_loopg [29] K (fun gk i=>fun wr=>∃(j:Nat),j+gk=K∧i= .int .i64 (j:Int)∧Hid (dT f ((aQ f).drop j) ((gs.map (·.g)).drop j)=RES)∧Hid (Below w.heap.size w wr)∧Hid (wr.ownsRow w.heap.size 3 1 (.slice Al K cl) K ((aQ f).map aY)))
  case atStart=>exact ⟨0,by omega,rfl,HRI,HB4,zAA (cO HOL.out HB3.out.size)⟩
  case round=>
   obtain ⟨j,hj,rfl,HJ,HB,HOW⟩:=hrel
   cases gk with
   |zero=>
    have hlt:¬((j:Int)<(K:Int)):=by omega
    have hr:=HJ.out
    rw [zAO (by have:=HKK.out;omega),zAO (by rw [zAN];have:=HL.out;omega)] at hr
    have hr:true=RES:=hr
    have hv:=HV.out
    rw [←hr,if_pos rfl] at hv
    subst hv
    clear hj hr
    go_wp2_with fail
    go_ret
    exact ⟨rfl,by first|exact HB.out|(rw [←hgg];exact HB.out)⟩
   |succ gk=>
    have hlt:((j:Int)<(K:Int)):=by omega
    have hj0:¬((j:Int)<0):=by omega
    have hjl:j<gs.length:=by rw [HL.out];omega
    have hjk:j<(aQ f).length:=by rw [HKK.out];omega
    obtain ⟨ad,rfl,_,c0,c1,c2,c3⟩:=mj (HROW.out.below HB.out) j hjl
    have hmem:=zAT hjl
    have hri:=HJ.out
    rw [BS j hjk (by rw [zAN];exact hjl),List.getElem_map] at hri
    obtain ⟨G,hG⟩:∃G,gs[j]=G:=⟨_,rfl⟩
    obtain ⟨nm,hnm⟩:∃x,(aQ f)[j]=x:=⟨_,rfl⟩
    have hnmm:nm∈aQ f:=by rw [←hnm];exact zAT hjk
    rw [hG,hnm,DF] at hri
    rw [hG] at hmem c0 c1 c2 c3
    obtain ⟨al,hal,hall,hcl⟩:=(jc HOW.out).int j hjk
    rw [hnm] at hcl
    have hat:=(HGS.out _ hmem).below HB.out
    have hsm:=HS3.out _ hmem
    have hwj:IntKind.i64.wrap ((j:Int)+1)=(j:Int)+1:=by rw [IntKind.wrap_i64];omega
    have HRJ:=zAA hri;have HJ2:=zAA hj
    obtain ⟨num,qu,gsp,gA,gc,ms,mA,mc⟩:=G
    dsimp only at c0 c1 c2 c3 hri
    have hba:=((Below.refl _ wr).alloc (zAP _) (.cells #[.int .i64 num,.int .i64 qu,.slice gA gsp.length gc,.slice mA ms.length mc] 51)).drew
    have HMB:=zAA (show ab (wr.alloc (.cells #[.int .i64 num,.int .i64 qu,.slice gA gsp.length gc,.slice mA ms.length mc] 51)).drew wr.heap.size 51 #[.int .i64 num,.int .i64 qu,.slice gA gsp.length gc,.slice mA ms.length mc] from ab.new wr _ _)
    have HBA:=zAA (HB.out.trans (hba.mono HB.out.size));have HOA:=zAA (cG HOW.out hba (zAP _))
    have hcl2:(wr.alloc (.cells #[.int .i64 num,.int .i64 qu,.slice gA gsp.length gc,.slice mA ms.length mc] 51)).drew.cell? (al.add j)=some (.int .i64 nm):=(hba.cell (by rw [db];exact hall)).trans hcl
    have HCL:=zAA hcl2
    have CG:num=nm→Hid (Calls Tryz.prog 39 #[.int .i64 f,pl ⟨num,qu,gsp,gA,gc,ms,mA,mc⟩] (wr.alloc (.cells #[.int .i64 num,.int .i64 qu,.slice gA gsp.length gc,.slice mA ms.length mc] 51)).drew fun e w'=>e= .returned (.bool (qm f ⟨num,qu,gsp,gA,gc,ms,mA,mc⟩))∧Below (wr.alloc (.cells #[.int .i64 num,.int .i64 qu,.slice gA gsp.length gc,.slice mA ms.length mc] 51)).drew.heap.size (wr.alloc (.cells #[.int .i64 num,.int .i64 qu,.slice gA gsp.length gc,.slice mA ms.length mc] 51)).drew w'):=fun e=>
     zAA (zC f ⟨num,qu,gsp,gA,gc,ms,mA,mc⟩ _ HF01.out (by show num∈aQ f;rw [e];exact hnmm) (hat.below hba) hsm)
    subst hal
    unfold pl at CG
    dsimp only at CG
    generalize qm f ⟨num,qu,gsp,gA,gc,ms,mA,mc⟩=gd at*
    have HST:Hid (ab (wr.alloc (.cells #[.int .i64 num,.int .i64 qu,.slice gA gsp.length gc,.slice mA ms.length mc] 51)).drew wr.heap.size 51 #[.int .i64 num,.int .i64 qu,.slice gA gsp.length gc,.slice mA ms.length mc]∧(wr.alloc (.cells #[.int .i64 num,.int .i64 qu,.slice gA gsp.length gc,.slice mA ms.length mc] 51)).drew.cell? (al.add j)=some (.int .i64 nm)):=zAA ⟨HMB.out,HCL.out⟩
    clear hmem hG hnm hnmm hat hsm hba hj hjl hjk HJ HB HOW hcl hcl2 hall hri
    by_cases hnum:num=nm
    ·have HCG:=CG hnum
     have hq:(num !=nm)=false:=by simpa using hnum
     clear CG
     have hnb:(num==nm)=true:=by simpa using hnum
     cases gd with
     |false=>
      have hr:=HRJ.out
      rw [hnb] at hr
      simp only [zAS,zAQ] at hr
      have hv:=HV.out
      rw [←hr] at hv
      simp only [zAK,if_false] at hv
      subst hv
      clear hnum hr hnb
      go_wp2_with fail
      refine eK (fun w'=>ab w' wr.heap.size 51 #[.int .i64 num,.int .i64 qu,.slice gA gsp.length gc,.slice mA ms.length mc]∧w'.cell? (al.add j)=some (.int .i64 nm)) 10 [(0,true),(1,true),(2,true),(3,true),(4,true),(5,true),(6,true),(7,true),(8,true),(9,true)] (by kernel_rfl) (by kernel_rfl) (fun _ _ d _ _ h=>by cases d<;>exact h) (by decide) (by simp only [zAC,zAD,Array.getD_eq_getD_getElem?,zAI,zAH,zAG,zAM];rfl) (by simp only [zAC,zAD];rfl) (HST.out) (fun PE hPE=>?_)
      iterate 10
       refine jd (v:=?_) rfl (by rfl) ?_ ?_
       rotate_left
       ·intro _ hSw;(try dsimp only at hSw);have a0:=hSw.1.cell 0;have a1:=hSw.2;have a2:=hSw.1.cell 1;have a3:=hSw.1.cell 2;have a4:=hSw.1.cell 3;(try dsimp only at a0 a2 a3 a4);go_simp;(try with_reducible rfl)
       simp only [zAB,zAF,zAE]
      (refine hPE _ _ ?_;simp only [zAJ,zAR];clear hPE PE)
      go_wp2_with (go_at_call 39;refine HCG.out.mono ?_;rintro e w5 ⟨rfl,hb5⟩;have HB5:=zAA (HBA.out.trans (hb5.mono HBA.out.size));clear hb5)
      go_ret
      exact ⟨rfl,by first|exact HB5.out|(rw [←hgg];exact HB5.out)⟩
     |true=>
      have hr:=HRJ.out
      rw [hnb] at hr
      simp only [zAS] at hr
      have HRN:=zAA hr
      clear hnum hr hnb
      go_wp2_with fail
      refine eK (fun w'=>ab w' wr.heap.size 51 #[.int .i64 num,.int .i64 qu,.slice gA gsp.length gc,.slice mA ms.length mc]∧w'.cell? (al.add j)=some (.int .i64 nm)) 10 [(0,true),(1,true),(2,true),(3,true),(4,true),(5,true),(6,true),(7,true),(8,true),(9,true)] (by kernel_rfl) (by kernel_rfl) (fun _ _ d _ _ h=>by cases d<;>exact h) (by decide) (by simp only [zAC,zAD,Array.getD_eq_getD_getElem?,zAI,zAH,zAG,zAM];rfl) (by simp only [zAC,zAD];rfl) (HST.out) (fun PE hPE=>?_)
      iterate 10
       refine jd (v:=?_) rfl (by rfl) ?_ ?_
       rotate_left
       ·intro _ hSw;(try dsimp only at hSw);have a0:=hSw.1.cell 0;have a1:=hSw.2;have a2:=hSw.1.cell 1;have a3:=hSw.1.cell 2;have a4:=hSw.1.cell 3;(try dsimp only at a0 a2 a3 a4);go_simp;(try with_reducible rfl)
       simp only [zAB,zAF,zAE]
      (refine hPE _ _ ?_;simp only [zAJ,zAR];clear hPE PE)
      go_wp2_with (go_at_call 39;refine HCG.out.mono ?_;rintro e w5 ⟨rfl,hb5⟩;have HB5:=zAA (HBA.out.trans (hb5.mono HBA.out.size));have HO5:=zAA (cG HOA.out hb5 (zAP _));clear hb5)
      go_roundg gk
      case measure=>omega
      case rel=>exact ⟨j+1,by have:=HJ2.out;omega,rfl,HRN,zAA (by first|exact HB5.out|(rw [←hgg];exact HB5.out)),zAA (by first|exact HO5.out|(rw [←hgg];exact HO5.out))⟩
    ·have hq:(num !=nm)=true:=by simpa using hnum
     have hr:=HRJ.out
     have hnb:(num==nm)=false:=by simpa using hnum
     rw [hnb] at hr
     simp only [zAQ] at hr
     have hv:=HV.out
     rw [←hr] at hv
     simp only [zAK,if_false] at hv
     subst hv
     clear CG hnum hr hnb
     go_wp2_with fail
     refine eK (fun w'=>ab w' wr.heap.size 51 #[.int .i64 num,.int .i64 qu,.slice gA gsp.length gc,.slice mA ms.length mc]∧w'.cell? (al.add j)=some (.int .i64 nm)) 10 [(0,true),(1,true),(2,true),(3,true),(4,true),(5,true),(6,true),(7,true),(8,true),(9,true)] (by kernel_rfl) (by kernel_rfl) (fun _ _ d _ _ h=>by cases d<;>exact h) (by decide) (by simp only [zAC,zAD,Array.getD_eq_getD_getElem?,zAI,zAH,zAG,zAM];rfl) (by simp only [zAC,zAD];rfl) (HST.out) (fun PE hPE=>?_)
     iterate 8
      refine jd (v:=?_) rfl (by rfl) ?_ ?_
      rotate_left
      ·intro _ hSw;(try dsimp only at hSw);have a0:=hSw.1.cell 0;have a1:=hSw.2;(try dsimp only at a0);go_simp;(try with_reducible rfl)
      simp only [zAB,zAF,zAE]
     iterate 2
      refine Ei rfl (by rfl) ?_
      simp only [zAB,zAF,zAE]
     (refine hPE _ _ ?_;simp only [zAJ,zAR];clear hPE PE)
     go_wp2_with fail
     go_ret
     exact ⟨rfl,by first|exact HBA.out|(rw [←hgg];exact HBA.out)⟩
end Go.Proofs.YthhijgcfbjcgiaaGreatDoor
