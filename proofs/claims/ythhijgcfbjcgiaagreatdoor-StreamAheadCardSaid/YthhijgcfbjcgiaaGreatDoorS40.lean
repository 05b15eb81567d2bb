/- Good -/
import Derived.Test.YthhijgcfbjcgiaaGreatDoorS27
import Derived.Test.YthhijgcfbjcgiaaGreatDoorS34
import Derived.Test.YthhijgcfbjcgiaaGreatDoorS30
import Derived.Deep.LoopGhost
namespace Go.Proofs.YthhijgcfbjcgiaaGreatDoor
open Go Go.RowKit
attribute [local go_sem] Oper.semAt_some
open Go.Lib renaming hid→zAA
open Bool renaming false_and→zAB,true_and→zAC,false_eq_true→zAD
open Nat renaming le_refl→zAE
def qm (f:Int) (p:cV):Bool:=iW p.qu p.sp.length&&dU f p.num 0 (p.ms.map (·.m))
theorem DF (f n:Int) (p:cV):jq f n p.g=(p.num==n&&qm f p):=by
 unfold jq qm iW cV.g
 dsimp only
 rw [Bool.eq_iff_iff]
 simp only [Bool.and_eq_true,decide_eq_true_eq,beq_iff_eq]
 constructor
 ·rintro ⟨⟨⟨⟨rfl,a⟩,b⟩,c⟩,d⟩
  exact ⟨rfl,⟨⟨a,b⟩,c⟩,d⟩
 ·rintro ⟨rfl,⟨⟨a,b⟩,c⟩,d⟩
  exact ⟨⟨⟨⟨rfl,a⟩,b⟩,c⟩,d⟩
set_option maxRecDepth 100000 in
set_option maxHeartbeats 8000000 in
theorem zC (f:Int) (p:cV) (w:World) (hf:f=0∨f=1) (hn:p.num∈aQ f) (hg:jZ w p) (hs:ra p):
  Calls Tryz.prog 39 #[.int .i64 f,pl p] w fun e w'=>e= .returned (.bool (qm f p))∧Below w.heap.size w w':=by
 obtain ⟨num,qu,sp,sA,sc,ms,A,c⟩:=p
 obtain ⟨hsp,hrow,hms⟩:=hg
 obtain ⟨hs1,hs2,hs3⟩:=hs
 dsimp only at hsp hrow hms hs1 hs2 hs3 hn
 unfold qm pl
 dsimp only
 have HROW:=zAA hrow;have HMS:=zAA hms;have HS3:=zAA hs3;have HFN:=zAA (And.intro hf hn)
 obtain ⟨RES,hres⟩:∃b,(iW qu sp.length&&dU f num 0 (ms.map (·.m)))=b:=⟨_,rfl⟩
 rw [hres]
 have C1:=zAA (fun W (h:Below w.heap.size w W)=>ux qu sp sA sp.length sc W (hsp.below h) rfl)
 obtain ⟨k,hk⟩:∃k,sp.length=k:=⟨_,rfl⟩
 obtain ⟨L,hL⟩:∃L,ms.length=L:=⟨_,rfl⟩
 rw [hk] at C1 hres
 rw [hk,hL]
 have HRES:=zAA hres;have HL:=zAA hL
 rw [hL] at hs2
 have hB0:Below w.heap.size w (w.alloc (.cells #[.int .i64 num,.int .i64 qu,.slice sA k sc,.slice A L c] 51)):=(Below.refl _ _).alloc (zAE _) _
 have hG0:=ab.new w 51 #[.int .i64 num,.int .i64 qu,.slice sA k sc,.slice A L c]
 have HB0:=zAA hB0;have HG0:=zAA hG0
 have C1':=zAA (C1.out _ hB0)
 generalize ax qu.toNat 5++dw sp=txt at C1'
 clear hsp hrow hms hs1 hs3 hn hf hres hk hL hB0 hG0 C1
 cases hpu:iW qu k with
 |false=>
  have hr:=HRES.out
  rw [hpu,zAB] at hr
  subst hr
  rw [hpu] at C1'
  simp only [zAD,if_false] at C1'
  clear hpu
  go_enter Tryz.func39,Tryz.ntmps39
  go_wp2_with (go_at_call 75;refine C1'.out.mono ?_;rintro e w2 ⟨rfl,rfl⟩)
  go_ret
  exact ⟨rfl,HB0.out⟩
 |true=>
  rw [hpu] at C1'
  simp only [if_true] at C1'
  have HRI:Hid (dU f num 0 (ms.map (·.m))=RES):=zAA (by rw [←HRES.out,hpu,zAC])
  clear hpu
  obtain ⟨gg,hgg⟩:∃gg,w.heap.size=gg:=⟨_,rfl⟩
  have HGG:=zAA hgg
  rw [hgg] at HG0
  go_enter Tryz.func39,Tryz.ntmps39
  go_wp2_with (go_at_call 75;refine C1'.out.mono ?_;rintro e w2 ⟨rfl,rfl⟩)
  (try rw [hgg])
  generalize w.alloc (.cells #[.int .i64 num,.int .i64 qu,.slice sA k sc,.slice A L c] 51)=W1 at HB0 HG0⊢
  clear hgg C1'
  go_loopg [7,23] L (fun gk la i=>fun wr=>∃(j:Nat) (last:Int),j+gk=L∧i= .int .i64 (j:Int)∧la= .int .i64 last∧Hid (dU f num last ((ms.drop j).map (·.m))=RES)∧Hid (Below w.heap.size w wr)∧Hid (ab wr gg 51 #[.int .i64 num,.int .i64 qu,.slice sA k sc,.slice A L c]))
  case atStart=>exact ⟨0,0,by omega,rfl,rfl,HRI,HB0,HG0⟩
  case round=>
   obtain ⟨j,last,hj,rfl,rfl,HJ,HB,HG⟩:=hrel
   cases gk with
   |zero=>
    have hlt:¬((j:Int)<(L:Int)):=by omega
    have hr:=HJ.out
    rw [List.drop_of_length_le (by have:=HL.out;omega)] at hr
    have hr:true=RES:=hr
    subst hr
    clear hj
    go_wp2_with fail
    go_ret
    exact ⟨rfl,HB.out⟩
   |succ gk=>
    have hlt:((j:Int)<(L:Int)):=by omega
    have hj0:¬((j:Int)<0):=by omega
    have hjl:j<ms.length:=by rw [HL.out];omega
    obtain ⟨ad,rfl,_,c0,c1,c2,c3,c4,c5,c6⟩:=mo (HROW.out.below HB.out) j hjl
    have hmem:=List.getElem_mem hjl
    have hdr:ms.drop j=ms[j]::ms.drop (j+1):=List.drop_eq_getElem_cons hjl
    obtain ⟨⟨m,xs,Am,cm⟩,hm⟩:∃m,ms[j]=m:=⟨_,rfl⟩
    rw [hm] at hmem hdr c0 c1 c2 c3 c4 c5 c6
    dsimp only at c0 c1 c2 c3 c4 c5 c6
    have hri:=HJ.out
    rw [hdr,List.map_cons,dU] at hri
    dsimp only at hri
    have hat:=(HMS.out _ hmem).below HB.out
    have hba:=(Below.refl _ wr).alloc (zAE _) (.cells #[.int .i64 m.ad,.int .i64 m.kd,.int .i64 m.qu,.int .i64 m.x,.int .i64 m.y,.int .i64 m.pa,.slice Am xs.length cm] 55)
    have CK:=zAA (qM m xs Am cm _ hat.e ((hat.below hba).bks (HS3.out _ hmem)))
    have HMB:=zAA (ab.new wr 55 #[.int .i64 m.ad,.int .i64 m.kd,.int .i64 m.qu,.int .i64 m.x,.int .i64 m.y,.int .i64 m.pa,.slice Am xs.length cm])
    have HBA:=zAA (HB.out.trans (hba.mono HB.out.size));have HGA:=zAA (HG.out.below hba HG.out.lt)
    have hwj:IntKind.i64.wrap ((j:Int)+1)=(j:Int)+1:=by rw [IntKind.wrap_i64];omega
    have HRJ:=zAA hri;have HJ2:=zAA hj
    unfold fx at CK
    clear hmem hdr hm hri hat hba hj hjl HJ HB HG
    cases hok:kQ m with
    |false=>
     have hr:=HRJ.out
     rw [hok] at hr
     simp only [zAB] at hr
     subst hr
     rw [hok] at CK
     simp only [zAD,if_false] at CK
     clear hok
     go_wp2_with (go_at_call 76;refine CK.out.mono ?_;rintro e w3 ⟨rfl,hb3⟩;have HB3:=zAA (HBA.out.trans (hb3.mono HBA.out.size));clear hb3)
     go_ret
     exact ⟨rfl,HB3.out⟩
    |true=>
     rw [hok] at CK
     simp only [if_true] at CK
     have hmok:=(iH m).1 hok
     have hr:=HRJ.out
     rw [hok,zAC] at hr
     have CF:=zAA (fun W=>qV m Am xs.length cm f num hmok HFN.out.1 HFN.out.2 W)
     unfold fx at CF
     by_cases hla:last<m.ad
     ·have hle:¬(m.ad≤last):=by omega
      have hle':decide (m.ad≤last)=false:=by simpa using hle
      rw [decide_eq_true hla,zAC] at hr
      have HR2:=zAA hr
      clear hok hmok hla hr
      cases hft:kf f num m with
      |false=>
       have hr:=HR2.out
       rw [hft,zAB] at hr
       subst hr
       rw [hft] at CF
       clear hft
       go_wp2_with (first|(go_at_call 76;refine CK.out.mono ?_;rintro e w3 ⟨rfl,hb3⟩;have HB3:=zAA (HBA.out.trans (hb3.mono HBA.out.size));have hm3:=HMB.out.below hb3 (by simp);have z0:=hm3.cell 0;have z1:=hm3.cell 1;have z2:=hm3.cell 2;have z3:=hm3.cell 3;have z4:=hm3.cell 4;have z5:=hm3.cell 5;have z6:=hm3.cell 6;have hq3:=HGA.out.below hb3 HGA.out.lt;have q0:=hq3.cell 0;(try dsimp only at z0 z1 z2 z3 z4 z5 z6 q0);clear hb3 hm3 hq3)|(go_at_call 77;refine (CF.out _).mono ?_;rintro e w4 ⟨rfl,hb4⟩;have HB4:=zAA (HB3.out.trans (hb4.mono HB3.out.size));clear hb4))
       go_ret
       exact ⟨rfl,HB4.out⟩
      |true=>
       have hr:=HR2.out
       rw [hft,zAC] at hr
       have HRN:=zAA hr
       rw [hft] at CF
       clear hft hr
       go_wp2_with (first|(go_at_call 76;refine CK.out.mono ?_;rintro e w3 ⟨rfl,hb3⟩;have HB3:=zAA (HBA.out.trans (hb3.mono HBA.out.size));have hm3:=HMB.out.below hb3 (by simp);have HM3:=zAA hm3;have z0:=hm3.cell 0;have z1:=hm3.cell 1;have z2:=hm3.cell 2;have z3:=hm3.cell 3;have z4:=hm3.cell 4;have z5:=hm3.cell 5;have z6:=hm3.cell 6;have hq3:=HGA.out.below hb3 HGA.out.lt;have HQ3:=zAA hq3;have q0:=hq3.cell 0;(try dsimp only at z0 z1 z2 z3 z4 z5 z6 q0);clear hb3 hm3 hq3)|(go_at_call 77;refine (CF.out _).mono ?_;rintro e w4 ⟨rfl,hb4⟩;have HB4:=zAA (HB3.out.trans (hb4.mono HB3.out.size));have y0:=(HM3.out.below hb4 HM3.out.lt).cell 0;have HQ4:=zAA (HQ3.out.below hb4 HQ3.out.lt);(try dsimp only at y0);clear hb4))
       go_roundg gk
       case measure=>omega
       case rel=>exact ⟨j+1,m.ad,by have:=HJ2.out;omega,rfl,rfl,HRN,HB4,HQ4⟩
     ·have hle:m.ad≤last:=by omega
      have hle':decide (m.ad≤last)=true:=by simpa using hle
      rw [decide_eq_false hla] at hr
      simp only [zAB] at hr
      subst hr
      clear hok hmok hla
      go_wp2_with (go_at_call 76;refine CK.out.mono ?_;rintro e w3 ⟨rfl,hb3⟩;have HB3:=zAA (HBA.out.trans (hb3.mono HBA.out.size));have hm3:=HMB.out.below hb3 (by simp);have z0:=hm3.cell 0;(try dsimp only at z0);clear hb3 hm3)
      go_ret
      exact ⟨rfl,HB3.out⟩
end Go.Proofs.YthhijgcfbjcgiaaGreatDoor
