/- MChk -/
import Derived.Test.YthhijgcfbjcgiaaGreatDoorS18
import Derived.Deep.DeepCutAuto
namespace Go.Proofs.YthhijgcfbjcgiaaGreatDoor
open Go Go.RowKit
attribute [local go_sem] Oper.semAt_some
open Go.Lib renaming hid→zAA
open Bool renaming eq_iff_iff→zAB,false_or→zAC
open Nat renaming le_trans→zAD,le_refl→zAE
def FW (kd qu:Int):Bool:=if pQ kd then decide (1≤qu)&&decide (qu≤31) else qu==0
theorem I8 (m:aU) (h:gY m.kd=true):kQ m= !((decide (m.ad<1)||decide (33<m.ad)|| !aH m.x|| !aH m.y||(!pV m.kd&&(m.x !=0||m.y !=0)))||(!FW m.kd m.qu||decide (m.pa<0)||decide ((if pI m.kd||pC m.kd then (63:Int) else 0)<m.pa)||(pI m.kd&&m.pa !=63)||(pC m.kd&&m.pa==0)||((m.bl.length:Int) !=((cI m.pa:Nat):Int)))||m.bl.any fun x=>cK x (pI m.kd) !=0):=by
 obtain ⟨ad,kd,qu,x,y,pa,bl⟩:=m
 unfold kQ FW
 dsimp only at h⊢
 rw [h]
 have ha:(bl.all fun x=>cK x (pI kd)==0)= !(bl.any fun x=>cK x (pI kd) !=0):=by
  induction bl with
  |nil=>rfl
  |cons b bl ih=>simp only [List.all_cons,List.any_cons,ih,bne,Bool.not_or,Bool.not_not]
 have hl:((bl.length:Int) !=((cI pa:Nat):Int))= !(bl.length==cI pa):=by
  rw [bne,zAB]
  simp
  omega
 rw [ha,hl]
 generalize (bl.any fun x=>cK x (pI kd) !=0)=z
 generalize (bl.length==cI pa)=zl
 generalize aH x=px
 generalize aH y=py
 generalize pI kd=bI
 generalize pQ kd=bQ
 generalize pV kd=bV
 generalize pC kd=bC
 rw [zAB]
 cases bI<;>cases bQ<;>cases bV<;>cases bC<;>cases px<;>cases py<;>cases zl<;>cases z<;>simp<;>omega
set_option maxRecDepth 100000 in
set_option maxHeartbeats 8000000 in
theorem qM (m:aU) (xs:List dF) (A:Option Addr) (c:Nat) (w:World) (hm:m.bl=xs.map (·.1)) (hA:jY w A xs):Calls Tryz.prog 76 #[fx m A xs.length c] w fun e w'=>e= .returned (.int .i64 (if kQ m then 0 else 2))∧Below w.heap.size w w':=by
 have hany:(m.bl.any fun x=>cK x (pI m.kd) !=0)=xs.any (kJ (pI m.kd)):=by rw [hm,List.any_map];rfl
 have hlen:m.bl.length=xs.length:=by rw [hm,List.length_map]
 have hok:=I8 m
 rw [hany,hlen] at hok
 have hx64:=hA.len
 have HA:=zAA hA
 obtain ⟨ad,kd,qu,x,y,pa,bl⟩:=m
 clear hm hA hany hlen
 obtain ⟨OK,hOK⟩:∃b,kQ ⟨ad,kd,qu,x,y,pa,bl⟩=b:=⟨_,rfl⟩
 rw [hOK] at hok⊢
 unfold fx
 dsimp only at hok⊢
 have CO:=zAA (fun W=>nw kd W)
 have hB0:Below w.heap.size w (w.alloc (.cells #[.int .i64 ad,.int .i64 kd,.int .i64 qu,.int .i64 x,.int .i64 y,.int .i64 pa,.slice A xs.length c] 55)):=(Below.refl _ _).alloc (zAE _) _
 have hM0:ab (w.alloc (.cells #[.int .i64 ad,.int .i64 kd,.int .i64 qu,.int .i64 x,.int .i64 y,.int .i64 pa,.slice A xs.length c] 55)) w.heap.size 55 #[.int .i64 ad,.int .i64 kd,.int .i64 qu,.int .i64 x,.int .i64 y,.int .i64 pa,.slice A xs.length c]:=ab.new _ _ _
 have HB0:=zAA hB0;have HM0:=zAA hM0
 clear hB0 hM0
 cases hk:gY kd with
 |false=>
  have hof:OK=false:=by rw [←hOK];unfold kQ;dsimp only;rw [hk];rfl
  subst hof
  unfold kP mK at CO
  rw [hk,if_neg (by decide),if_neg (by decide)] at CO
  unfold FU at CO
  clear hok hk hOK
  go_enter Tryz.func76,Tryz.ntmps76
  go_wp2_with (go_at_call 106;refine (CO.out _).mono ?_;rintro e w2 ⟨rfl,hb2⟩;have HB2:=zAA hb2;clear hb2)
  go_ret
  exact ⟨rfl,(HB0.out.trans (HB2.out.mono HB0.out.size)).alloc (zAD HB0.out.size HB2.out.size) _⟩
 |true=>
  have hok:=hok hk
  unfold kP mK at CO
  rw [hk,if_pos rfl,if_pos rfl] at CO
  unfold qq at CO
  unfold FW at hok
  clear hk hOK
  have CON:=zAA (fun W g hW hg=>tu A c xs g (pI kd) (pQ kd) (pV kd) (pF kd) (pC kd) W hW hg)
  generalize pI kd=bI at*
  generalize pQ kd=bQ at*
  generalize pV kd=bV at*
  generalize pF kd=bF at*
  generalize pC kd=bC at*
  have PX:=zAA (fun W=>eu x W);have PY:=zAA (fun W=>eu y W)
  have PC:=zAA (fun W=>oW pa W)
  have hcn:(cI pa:Int)≤6:=by unfold cI;split<;>omega
  generalize aH x=px at*
  generalize aH y=py at*
  obtain ⟨cnt,hcnt⟩:∃k:Int,((cI pa:Nat):Int)=k:=⟨_,rfl⟩
  rw [hcnt] at hok PC hcn
  clear hcnt
  generalize xs.any (kJ bI)=ANY at*
  obtain ⟨n,hn⟩:∃n,xs.length=n:=⟨_,rfl⟩
  rw [hn] at hok hx64 HB0 HM0 CON⊢
  clear hn
  have HOK:=zAA hok
  clear hok
  go_enter Tryz.func76,Tryz.ntmps76
  go_upto_region 2 with (go_at_call 106;refine (CO.out _).mono ?_;rintro e w2 ⟨rfl,hb2⟩;have HB2:=zAA hb2;clear hb2)
  obtain ⟨g,hg⟩:∃g,w2.heap.size=g:=⟨_,rfl⟩
  have hP:ab (w2.alloc (.cells #[.bool bI,.bool bQ,.bool bV,.bool bF,.bool bC] 110)) g 110 #[.bool bI,.bool bQ,.bool bV,.bool bF,.bool bC]:=aD (ab.new _ _ _) hg
  have hM:=(HM0.out.below HB2.out HM0.out.lt).alloc (.cells #[.bool bI,.bool bQ,.bool bV,.bool bF,.bool bC] 110)
  have hB:=(HB0.out.trans (HB2.out.mono HB0.out.size)).alloc (zAD HB0.out.size HB2.out.size) (.cells #[.bool bI,.bool bQ,.bool bV,.bool bF,.bool bC] 110)
  simp only [hg]
  generalize w2.alloc (.cells #[.bool bI,.bool bQ,.bool bV,.bool bF,.bool bC] 110)=W1 at hP hM hB⊢
  have HP:=zAA hP;have HM:=zAA hM;have HB:=zAA hB
  clear hP hM hB hg HB2 HM0 HB0
  obtain ⟨b1,hb1⟩:∃b,(decide (ad<1)||decide (33<ad)|| !px|| !py||(!bV&&(x !=0||y !=0)))=b:=⟨_,rfl⟩
  rw [hb1] at HOK
  go_cut [52] (fun s52 wx=>W1=wx∧s52= .bool b1)
  case first=>
   have m0:=HM.out.cell 0;have m1:=HM.out.cell 1;have m2:=HM.out.cell 2;have m3:=HM.out.cell 3;have m4:=HM.out.cell 4;have m5:=HM.out.cell 5;have m6:=HM.out.cell 6;have p0:=HP.out.cell 0;have p1:=HP.out.cell 1;have p2:=HP.out.cell 2;have p4:=HP.out.cell 4
   have HXB:=zAA hb1
   clear hb1
   cases d1:decide (ad<1) with
   |true=>
    go_wp2_with (first|(go_at_call 126;refine (PX.out _).mono ?_;rintro e w' ⟨rfl,rfl⟩)|(go_at_call 126;refine (PY.out _).mono ?_;rintro e w' ⟨rfl,rfl⟩))
    go_meet
    case rel=>exact ⟨rfl,by rw [←HXB.out,d1];rfl⟩
   |false=>
    cases d2:decide (33<ad) with
    |true=>
     go_wp2_with (first|(go_at_call 126;refine (PX.out _).mono ?_;rintro e w' ⟨rfl,rfl⟩)|(go_at_call 126;refine (PY.out _).mono ?_;rintro e w' ⟨rfl,rfl⟩))
     go_meet
     case rel=>exact ⟨rfl,by rw [←HXB.out,d1,d2];rfl⟩
    |false=>
     cases px with
     |false=>
      go_wp2_with (first|(go_at_call 126;refine (PX.out _).mono ?_;rintro e w' ⟨rfl,rfl⟩)|(go_at_call 126;refine (PY.out _).mono ?_;rintro e w' ⟨rfl,rfl⟩))
      go_meet
      case rel=>exact ⟨rfl,by rw [←HXB.out,d1,d2];rfl⟩
     |true=>
      cases py with
      |false=>
       go_wp2_with (first|(go_at_call 126;refine (PX.out _).mono ?_;rintro e w' ⟨rfl,rfl⟩)|(go_at_call 126;refine (PY.out _).mono ?_;rintro e w' ⟨rfl,rfl⟩))
       go_meet
       case rel=>exact ⟨rfl,by rw [←HXB.out,d1,d2];rfl⟩
      |true=>
       cases bV with
       |true=>
        go_wp2_with (first|(go_at_call 126;refine (PX.out _).mono ?_;rintro e w' ⟨rfl,rfl⟩)|(go_at_call 126;refine (PY.out _).mono ?_;rintro e w' ⟨rfl,rfl⟩))
        go_meet
        case rel=>exact ⟨rfl,by rw [←HXB.out,d1,d2];rfl⟩
       |false=>
        cases d6:(x !=0) with
        |true=>
         go_wp2_with (first|(go_at_call 126;refine (PX.out _).mono ?_;rintro e w' ⟨rfl,rfl⟩)|(go_at_call 126;refine (PY.out _).mono ?_;rintro e w' ⟨rfl,rfl⟩))
         go_meet
         case rel=>exact ⟨rfl,by rw [←HXB.out,d1,d2,d6];rfl⟩
        |false=>
         cases d7:(y !=0) with
         |true=>
          go_wp2_with (first|(go_at_call 126;refine (PX.out _).mono ?_;rintro e w' ⟨rfl,rfl⟩)|(go_at_call 126;refine (PY.out _).mono ?_;rintro e w' ⟨rfl,rfl⟩))
          go_meet
          case rel=>exact ⟨rfl,by rw [←HXB.out,d1,d2,d6,d7];rfl⟩
         |false=>
          go_wp2_with (first|(go_at_call 126;refine (PX.out _).mono ?_;rintro e w' ⟨rfl,rfl⟩)|(go_at_call 126;refine (PY.out _).mono ?_;rintro e w' ⟨rfl,rfl⟩))
          go_meet
          case rel=>exact ⟨rfl,by rw [←HXB.out,d1,d2,d6,d7];rfl⟩
  obtain ⟨rfl,rfl⟩:=hcut
  clear hb1
  cases b1 with
  |true=>
   have hOf:OK=false:=by rw [HOK.out];rfl
   subst hOf
   go_wp2_with fail
   go_ret
   exact ⟨rfl,HB.out⟩
  |false=>
  rw [zAC] at HOK
  have m0:=HM.out.cell 0;have m1:=HM.out.cell 1;have m2:=HM.out.cell 2;have m3:=HM.out.cell 3;have m4:=HM.out.cell 4;have m5:=HM.out.cell 5;have m6:=HM.out.cell 6;have p0:=HP.out.cell 0;have p1:=HP.out.cell 1;have p2:=HP.out.cell 2;have p4:=HP.out.cell 4
  obtain ⟨qok,hqok⟩:∃b,(if bQ then decide (1≤qu)&&decide (qu≤31) else qu==0)=b:=⟨_,rfl⟩
  rw [hqok] at HOK
  go_upto_if 57 with fail
  go_cut [5] (fun s5 wx=>W1=wx∧s5= .bool qok)
  case first=>
   have HXB:=zAA hqok
   clear hqok
   cases bQ with
   |false=>
    go_wp2_with fail
    go_meet
    case rel=>exact ⟨rfl,by rw [←HXB.out];rfl⟩
   |true=>
    cases d1:decide (1≤qu) with
    |false=>
     go_wp2_with fail
     go_meet
     case rel=>exact ⟨rfl,by rw [←HXB.out,d1];rfl⟩
    |true=>
     cases d2:decide (qu≤31) with
     |false=>
      go_wp2_with fail
      go_meet
      case rel=>exact ⟨rfl,by rw [←HXB.out,d1,d2];rfl⟩
     |true=>
      go_wp2_with fail
      go_meet
      case rel=>exact ⟨rfl,by rw [←HXB.out,d1,d2];rfl⟩
  obtain ⟨rfl,rfl⟩:=hcut
  clear hqok
  go_upto_region 7 with fail
  go_cut [71] (fun s71 wx=>W1=wx∧s71= .bool (bI||bC))
  case first=>
   cases bI with
   |true=>
    go_wp2_with fail
    go_meet
    case rel=>exact ⟨rfl,rfl⟩
   |false=>
    go_wp2_with fail
    go_meet
    case rel=>exact ⟨rfl,rfl⟩
  obtain ⟨rfl,rfl⟩:=hcut
  obtain ⟨most,hmost⟩:∃b,(if bI||bC then (63:Int) else 0)=b:=⟨_,rfl⟩
  rw [hmost] at HOK
  go_upto_if 71 with fail
  go_cut [6] (fun s6 wx=>W1=wx∧s6= .int .i64 most)
  case first=>
   have HXB:=zAA hmost
   clear hmost
   cases hbc:(bI||bC) with
   |true=>
    go_wp2_with fail
    go_meet
    case rel=>exact ⟨rfl,by rw [←HXB.out,hbc];rfl⟩
   |false=>
    go_wp2_with fail
    go_meet
    case rel=>exact ⟨rfl,by rw [←HXB.out,hbc];rfl⟩
  obtain ⟨rfl,rfl⟩:=hcut
  clear hmost
  go_upto_region 10 with (go_at_call 127;refine (PC.out _).mono ?_;rintro e w3 ⟨rfl,hb3⟩;have HB3:=zAA hb3;clear hb3)
  clear m0 m1 m2 m3 m4 m5 m6 p0 p1 p2 p4
  have HM:=zAA (HM.out.below HB3.out HM.out.lt);have HP:=zAA (HP.out.below HB3.out HP.out.lt);have HB:=zAA (HB.out.trans (HB3.out.mono HB.out.size))
  have m0:=HM.out.cell 0;have m1:=HM.out.cell 1;have m2:=HM.out.cell 2;have m3:=HM.out.cell 3;have m4:=HM.out.cell 4;have m5:=HM.out.cell 5;have m6:=HM.out.cell 6;have p0:=HP.out.cell 0;have p1:=HP.out.cell 1;have p2:=HP.out.cell 2;have p4:=HP.out.cell 4
  obtain ⟨b2,hb2⟩:∃b,(!qok||decide (pa<0)||decide (most<pa)||(bI&&pa !=63)||(bC&&pa==0)||(n:Int) !=cnt)=b:=⟨_,rfl⟩
  rw [hb2] at HOK
  go_cut [112] (fun s wx=>w3=wx∧s= .bool b2)
  case first=>
   have HXB:=zAA hb2
   clear hb2
   cases qok with
   |false=>
    go_wp2_with (fail)
    go_meet
    case rel=>exact ⟨rfl,by rw [←HXB.out];rfl⟩
   |true=>
    cases d1:decide (pa<0) with
    |true=>
     go_wp2_with (fail)
     go_meet
     case rel=>exact ⟨rfl,by rw [←HXB.out,d1];rfl⟩
    |false=>
     cases d2:decide (most<pa) with
     |true=>
      go_wp2_with (fail)
      go_meet
      case rel=>exact ⟨rfl,by rw [←HXB.out,d1,d2];rfl⟩
     |false=>
      cases bI with
      |false=>
       cases bC with
       |false=>
        cases d9:((n:Int) !=cnt) with
        |true=>
         go_wp2_with (fail)
         go_meet
         case rel=>exact ⟨rfl,by rw [←HXB.out,d1,d2,d9];rfl⟩
        |false=>
         go_wp2_with (fail)
         go_meet
         case rel=>exact ⟨rfl,by rw [←HXB.out,d1,d2,d9];rfl⟩
       |true=>
        cases d8:(pa==0) with
        |true=>
         go_wp2_with (fail)
         go_meet
         case rel=>exact ⟨rfl,by rw [←HXB.out,d1,d2,d8];rfl⟩
        |false=>
         cases d9:((n:Int) !=cnt) with
         |true=>
          go_wp2_with (fail)
          go_meet
          case rel=>exact ⟨rfl,by rw [←HXB.out,d1,d2,d8,d9];rfl⟩
         |false=>
          go_wp2_with (fail)
          go_meet
          case rel=>exact ⟨rfl,by rw [←HXB.out,d1,d2,d8,d9];rfl⟩
      |true=>
       cases d7:(pa !=63) with
       |true=>
        go_wp2_with (fail)
        go_meet
        case rel=>exact ⟨rfl,by rw [←HXB.out,d1,d2,d7];rfl⟩
       |false=>
        cases bC with
        |false=>
         cases d9:((n:Int) !=cnt) with
         |true=>
          go_wp2_with (fail)
          go_meet
          case rel=>exact ⟨rfl,by rw [←HXB.out,d1,d2,d7,d9];rfl⟩
         |false=>
          go_wp2_with (fail)
          go_meet
          case rel=>exact ⟨rfl,by rw [←HXB.out,d1,d2,d7,d9];rfl⟩
        |true=>
         cases d8:(pa==0) with
         |true=>
          go_wp2_with (fail)
          go_meet
          case rel=>exact ⟨rfl,by rw [←HXB.out,d1,d2,d7,d8];rfl⟩
         |false=>
          cases d9:((n:Int) !=cnt) with
          |true=>
           go_wp2_with (fail)
           go_meet
           case rel=>exact ⟨rfl,by rw [←HXB.out,d1,d2,d7,d8,d9];rfl⟩
          |false=>
           go_wp2_with (fail)
           go_meet
           case rel=>exact ⟨rfl,by rw [←HXB.out,d1,d2,d7,d8,d9];rfl⟩
  obtain ⟨rfl,rfl⟩:=hcut
  clear hb2
  cases b2 with
  |true=>
   have hOf:OK=false:=by rw [HOK.out];rfl
   subst hOf
   go_wp2_with fail
   go_ret
   exact ⟨rfl,HB.out⟩
  |false=>
   rw [zAC] at HOK
   have CON:=zAA (CON.out _ _ (HA.out.below HB.out (zAE _)) HP.out)
   cases ANY with
   |true=>
    have hOf:OK=false:=by rw [HOK.out];rfl
    subst hOf
    go_wp2_with (go_at_call 128;refine CON.out.mono ?_;rintro e w4 ⟨rfl,hb4⟩;have HB4:=zAA hb4;clear hb4)
    go_ret
    exact ⟨rfl,HB.out.trans (HB4.out.mono HB.out.size)⟩
   |false=>
    have hOf:OK=true:=by rw [HOK.out];rfl
    subst hOf
    go_wp2_with (go_at_call 128;refine CON.out.mono ?_;rintro e w4 ⟨rfl,hb4⟩;have HB4:=zAA hb4;clear hb4)
    go_ret
    exact ⟨rfl,HB.out.trans (HB4.out.mono HB.out.size)⟩
end Go.Proofs.YthhijgcfbjcgiaaGreatDoor
