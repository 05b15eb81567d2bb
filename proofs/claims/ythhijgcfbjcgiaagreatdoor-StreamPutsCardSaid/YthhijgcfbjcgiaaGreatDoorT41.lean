/- MChk -/
import Derived.Test.YthhijgcfbjcgiaaGreatDoorT20
import Derived.Deep.DeepCutAuto
namespace Go.Proofs.YthhijgcfbjcgiaaGreatDoor
open Go Go.RowKit
attribute [local go_sem] Oper.semAt_some
open Go.Lib renaming hid→O
open Go.Value renaming bool→U,int→V,slice→OF
open Go.IntKind renaming i64→Z
open List renaming length→Y
open Go.Obj renaming cells→X
open Bool renaming eq_iff_iff→J,false_or→OA
open Nat renaming le_trans→OB,le_refl→OD
open Tryz renaming ntmps76→OC,func76→OE
def Gl (kd qu:Int):Bool:=if pQ kd then decide (1<=qu)&&decide (qu<=31) else qu==0
theorem Js (m:aX)(h:eT m.kd=true):iU m= !((decide (m.ad<1)||decide (33<m.ad)|| !aA m.x|| !aA m.y||(!pV m.kd&&(m.x !=0||m.y !=0)))||(!Gl m.kd m.qu||decide (m.pa<0)||decide ((if pI m.kd||pC m.kd then(63:Int) else 0)<m.pa)||(pI m.kd&&m.pa !=63)||(pC m.kd&&m.pa==0)||((Y m.bl:Int) !=((cC m.pa:Nat):Int)))||m.bl.any λx=>bP x (pI m.kd) !=0):=by
 obtain⟨ad,kd,qu,x,y,pa,bl⟩:=m;unfold iU Gl;dsimp only at h⊢;rw[h]
 have G:(bl.all λx=>bP x (pI kd)==0)= !(bl.any λx=>bP x (pI kd) !=0):=by
  induction bl with
  |nil=>rfl
  |cons b bl ih=>simp only[List.all_cons,List.any_cons,ih,bne,Bool.not_or,Bool.not_not]
 have hl:((Y bl:Int) !=((cC pa:Nat):Int))= !((Y bl)==cC pa):=by
  rw[bne,J];simp;omega
 rw[G,hl];generalize (bl.any λx=>bP x (pI kd) !=0)=z;generalize ((Y bl)==cC pa)=I;generalize aA x=px;generalize aA y=py;generalize pI kd=B;generalize pQ kd=C;generalize pV kd=D;generalize pC kd=j;rw[J]
 cases B<;>cases C<;>cases D<;>cases j<;>cases px<;>cases py<;>cases I<;>cases z<;>simp<;>omega
set_option maxRecDepth 100000 in
set_option maxHeartbeats 8000000 in
theorem qJ (m:aX)(xs:List dB)(A:Option Addr)(c:Nat)(w:World)(hm:m.bl=xs.map (·.1))(hA:ja w A xs):Calls Tryz.prog 76 #[dU m A (Y xs) c] w λe w'=>e=.returned (V Z (if iU m then 0 else 2))/\Below w.heap.size w w':=by
 have gj:(m.bl.any λx=>bP x (pI m.kd) !=0)=xs.any (kS (pI m.kd)):=by rw[hm,List.any_map];rfl
 have jg:Y m.bl=(Y xs):=by rw[hm,List.length_map]
 have G:=Js m;rw[gj,jg] at G;have JT:=hA.len;have HA:=O hA;obtain⟨ad,kd,qu,x,y,pa,bl⟩:=m;clear hm hA gj jg;obtain⟨OK,eE⟩:∃b,iU ⟨ad,kd,qu,x,y,pa,bl⟩=b:=⟨_,rfl⟩;rw[eE] at G⊢;unfold dU;dsimp only at G⊢;have CO:=O (λW=>nE kd W);have rG:Below w.heap.size w (w.alloc (X #[V Z ad,V Z kd,V Z qu,V Z x,V Z y,V Z pa,OF A (Y xs) c] 55)):=(Below.refl _ _).alloc (OD _) _;have Hl:ab (w.alloc (X #[V Z ad,V Z kd,V Z qu,V Z x,V Z y,V Z pa,OF A (Y xs) c] 55)) w.heap.size 55 #[V Z ad,V Z kd,V Z qu,V Z x,V Z y,V Z pa,OF A (Y xs) c]:=ab.new _ _ _;have N:=O rG;have dO:=O Hl;clear rG Hl
 cases hk:eT kd with
 |false=>
  have K4:OK=false:=(by rw[<-eE];unfold iU;dsimp only;rw[hk];rfl);subst K4;unfold ld mR at CO;rw[hk,if_neg (by decide),if_neg (by decide)] at CO;unfold Gi at CO;clear G hk eE
  go_enter OE,OC
  go_wp2_with (go_at_call 106;refine(CO.out _).mono ?_;rintro e w2 ⟨rfl,K⟩;have av:=O K;clear K)
  go_ret;exact⟨rfl,(N.out.trans (av.out.mono N.out.size)).alloc (OB N.out.size av.out.size) _⟩
 |true=>
  have G:=G hk;unfold ld mR at CO;rw[hk,if_pos rfl,if_pos rfl] at CO;unfold qo at CO;unfold Gl at G;clear hk eE;have cE:=O (λW g hW hg=>tj A c xs g (pI kd) (pQ kd) (pV kd) (pF kd) (pC kd) W hW hg);generalize pI kd=bI at*;generalize pQ kd=bQ at*;generalize pV kd=bV at*;generalize pF kd=bF at*;generalize pC kd=bC at*;have PX:=O (λW=>eB x W);have PY:=O (λW=>eB y W);have PC:=O (λW=>oT pa W);have K3:(cC pa:Int)<=6:=(by unfold cC;split<;>omega);generalize aA x=px at*;generalize aA y=py at*;obtain⟨cI,iP⟩:∃k:Int,((cC pa:Nat):Int)=k:=⟨_,rfl⟩;rw[iP] at G PC K3;clear iP;generalize xs.any (kS bI)=K0 at*;obtain⟨n,hn⟩:∃n,Y xs=n:=⟨_,rfl⟩;rw[hn] at G JT N dO cE⊢;clear hn;have I:=O G;clear G
  go_enter OE,OC
  go_upto_region 2 with(go_at_call 106;refine(CO.out _).mono ?_;rintro e w2 ⟨rfl,K⟩;have av:=O K;clear K)
  obtain⟨g,hg⟩:∃g,w2.heap.size=g:=⟨_,rfl⟩;have hP:ab (w2.alloc (X #[U bI,U bQ,U bV,U bF,U bC] 110)) g 110 #[U bI,U bQ,U bV,U bF,U bC]:=aE (ab.new _ _ _) hg;have hM:=(dO.out.below av.out dO.out.lt).alloc (X #[U bI,U bQ,U bV,U bF,U bC] 110);have hB:=(N.out.trans (av.out.mono N.out.size)).alloc (OB N.out.size av.out.size) (X #[U bI,U bQ,U bV,U bF,U bC] 110);simp only[hg];generalize w2.alloc (X #[U bI,U bQ,U bV,U bF,U bC] 110)=W1 at hP hM hB⊢;have T:=O hP;have C:=O hM;have HB:=O hB;clear hP hM hB hg av dO N;obtain⟨b1,fJ⟩:∃b,(decide (ad<1)||decide (33<ad)|| !px|| !py||(!bV&&(x !=0||y !=0)))=b:=⟨_,rfl⟩;rw[fJ] at I
  go_cut [52] (λK5 wx=>W1=wx/\K5=U b1)
  case first=>
   have m0:=C.out.cell 0;have m1:=C.out.cell 1;have m2:=C.out.cell 2;have m3:=C.out.cell 3;have m4:=C.out.cell 4;have m5:=C.out.cell 5;have m6:=C.out.cell 6;have p0:=T.out.cell 0;have p1:=T.out.cell 1;have p2:=T.out.cell 2;have p4:=T.out.cell 4;have j:=O fJ;clear fJ
   cases B:decide (ad<1) with
   |true=>
    go_wp2_with (first|(go_at_call 126;refine(PX.out _).mono ?_;rintro e w' ⟨rfl,rfl⟩)|(go_at_call 126;refine(PY.out _).mono ?_;rintro e w' ⟨rfl,rfl⟩))
    go_meet
    case rel=>exact⟨rfl,by rw[<-j.out,B];rfl⟩
   |false=>
    cases D:decide (33<ad) with
    |true=>
     go_wp2_with (first|(go_at_call 126;refine(PX.out _).mono ?_;rintro e w' ⟨rfl,rfl⟩)|(go_at_call 126;refine(PY.out _).mono ?_;rintro e w' ⟨rfl,rfl⟩))
     go_meet
     case rel=>exact⟨rfl,by rw[<-j.out,B,D];rfl⟩
    |false=>
     cases px with
     |false=>
      go_wp2_with (first|(go_at_call 126;refine(PX.out _).mono ?_;rintro e w' ⟨rfl,rfl⟩)|(go_at_call 126;refine(PY.out _).mono ?_;rintro e w' ⟨rfl,rfl⟩))
      go_meet
      case rel=>exact⟨rfl,by rw[<-j.out,B,D];rfl⟩
     |true=>
      cases py with
      |false=>
       go_wp2_with (first|(go_at_call 126;refine(PX.out _).mono ?_;rintro e w' ⟨rfl,rfl⟩)|(go_at_call 126;refine(PY.out _).mono ?_;rintro e w' ⟨rfl,rfl⟩))
       go_meet
       case rel=>exact⟨rfl,by rw[<-j.out,B,D];rfl⟩
      |true=>
       cases bV with
       |true=>
        go_wp2_with (first|(go_at_call 126;refine(PX.out _).mono ?_;rintro e w' ⟨rfl,rfl⟩)|(go_at_call 126;refine(PY.out _).mono ?_;rintro e w' ⟨rfl,rfl⟩))
        go_meet
        case rel=>exact⟨rfl,by rw[<-j.out,B,D];rfl⟩
       |false=>
        cases d6:(x !=0) with
        |true=>
         go_wp2_with (first|(go_at_call 126;refine(PX.out _).mono ?_;rintro e w' ⟨rfl,rfl⟩)|(go_at_call 126;refine(PY.out _).mono ?_;rintro e w' ⟨rfl,rfl⟩))
         go_meet
         case rel=>exact⟨rfl,by rw[<-j.out,B,D,d6];rfl⟩
        |false=>
         cases d7:(y !=0) with
         |true=>
          go_wp2_with (first|(go_at_call 126;refine(PX.out _).mono ?_;rintro e w' ⟨rfl,rfl⟩)|(go_at_call 126;refine(PY.out _).mono ?_;rintro e w' ⟨rfl,rfl⟩))
          go_meet
          case rel=>exact⟨rfl,by rw[<-j.out,B,D,d6,d7];rfl⟩
         |false=>
          go_wp2_with (first|(go_at_call 126;refine(PX.out _).mono ?_;rintro e w' ⟨rfl,rfl⟩)|(go_at_call 126;refine(PY.out _).mono ?_;rintro e w' ⟨rfl,rfl⟩))
          go_meet
          case rel=>exact⟨rfl,by rw[<-j.out,B,D,d6,d7];rfl⟩
  obtain⟨rfl,rfl⟩:=hcut;clear fJ
  cases b1 with
  |true=>
   have aJ:OK=false:=(by rw[I.out];rfl);subst aJ;go_wp2_with fail
   go_ret;exact⟨rfl,HB.out⟩
  |false=>
  rw[OA] at I;have m0:=C.out.cell 0;have m1:=C.out.cell 1;have m2:=C.out.cell 2;have m3:=C.out.cell 3;have m4:=C.out.cell 4;have m5:=C.out.cell 5;have m6:=C.out.cell 6;have p0:=T.out.cell 0;have p1:=T.out.cell 1;have p2:=T.out.cell 2;have p4:=T.out.cell 4;obtain⟨kU,bM⟩:∃b,(if bQ then decide (1<=qu)&&decide (qu<=31) else qu==0)=b:=⟨_,rfl⟩;rw[bM] at I
  go_upto_if 57 with fail
  go_cut [5] (λs5 wx=>W1=wx/\s5=U kU)
  case first=>
   have j:=O bM;clear bM
   cases bQ with
   |false=>
    go_wp2_with fail
    go_meet
    case rel=>exact⟨rfl,by rw[<-j.out];rfl⟩
   |true=>
    cases B:decide (1<=qu) with
    |false=>
     go_wp2_with fail
     go_meet
     case rel=>exact⟨rfl,by rw[<-j.out,B];rfl⟩
    |true=>
     cases D:decide (qu<=31) with
     |false=>
      go_wp2_with fail
      go_meet
      case rel=>exact⟨rfl,by rw[<-j.out,B,D];rfl⟩
     |true=>
      go_wp2_with fail
      go_meet
      case rel=>exact⟨rfl,by rw[<-j.out,B,D];rfl⟩
  obtain⟨rfl,rfl⟩:=hcut;clear bM
  go_upto_region 7 with fail
  go_cut [71] (λK6 wx=>W1=wx/\K6=U (bI||bC))
  case first=>
   cases bI with
   |true=>
    go_wp2_with fail
    go_meet
    case rel=>exact⟨rfl,rfl⟩
   |false=>
    go_wp2_with fail
    go_meet
    case rel=>exact⟨rfl,rfl⟩
  obtain⟨rfl,rfl⟩:=hcut;obtain⟨dy,M⟩:∃b,(if bI||bC then(63:Int) else 0)=b:=⟨_,rfl⟩;rw[M] at I
  go_upto_if 71 with fail
  go_cut [6] (λs6 wx=>W1=wx/\s6=V Z dy)
  case first=>
   have j:=O M;clear M
   cases Hu:(bI||bC) with
   |true=>
    go_wp2_with fail
    go_meet
    case rel=>exact⟨rfl,by rw[<-j.out,Hu];rfl⟩
   |false=>
    go_wp2_with fail
    go_meet
    case rel=>exact⟨rfl,by rw[<-j.out,Hu];rfl⟩
  obtain⟨rfl,rfl⟩:=hcut;clear M
  go_upto_region 10 with(go_at_call 127;refine(PC.out _).mono ?_;rintro e w3 ⟨rfl,Ht⟩;have jY:=O Ht;clear Ht)
  clear m0 m1 m2 m3 m4 m5 m6 p0 p1 p2 p4;have C:=O (C.out.below jY.out C.out.lt);have T:=O (T.out.below jY.out T.out.lt);have HB:=O (HB.out.trans (jY.out.mono HB.out.size));have m0:=C.out.cell 0;have m1:=C.out.cell 1;have m2:=C.out.cell 2;have m3:=C.out.cell 3;have m4:=C.out.cell 4;have m5:=C.out.cell 5;have m6:=C.out.cell 6;have p0:=T.out.cell 0;have p1:=T.out.cell 1;have p2:=T.out.cell 2;have p4:=T.out.cell 4;obtain⟨b2,K⟩:∃b,(!kU||decide (pa<0)||decide (dy<pa)||(bI&&pa !=63)||(bC&&pa==0)||(n:Int) !=cI)=b:=⟨_,rfl⟩;rw[K] at I
  go_cut [112] (λs wx=>w3=wx/\s=U b2)
  case first=>
   have j:=O K;clear K
   cases kU with
   |false=>
    go_wp2_with (fail)
    go_meet
    case rel=>exact⟨rfl,by rw[<-j.out];rfl⟩
   |true=>
    cases B:decide (pa<0) with
    |true=>
     go_wp2_with (fail)
     go_meet
     case rel=>exact⟨rfl,by rw[<-j.out,B];rfl⟩
    |false=>
     cases D:decide (dy<pa) with
     |true=>
      go_wp2_with (fail)
      go_meet
      case rel=>exact⟨rfl,by rw[<-j.out,B,D];rfl⟩
     |false=>
      cases bI with
      |false=>
       cases bC with
       |false=>
        cases d9:((n:Int) !=cI) with
        |true=>
         go_wp2_with (fail)
         go_meet
         case rel=>exact⟨rfl,by rw[<-j.out,B,D,d9];rfl⟩
        |false=>
         go_wp2_with (fail)
         go_meet
         case rel=>exact⟨rfl,by rw[<-j.out,B,D,d9];rfl⟩
       |true=>
        cases d8:(pa==0) with
        |true=>
         go_wp2_with (fail)
         go_meet
         case rel=>exact⟨rfl,by rw[<-j.out,B,D,d8];rfl⟩
        |false=>
         cases d9:((n:Int) !=cI) with
         |true=>
          go_wp2_with (fail)
          go_meet
          case rel=>exact⟨rfl,by rw[<-j.out,B,D,d8,d9];rfl⟩
         |false=>
          go_wp2_with (fail)
          go_meet
          case rel=>exact⟨rfl,by rw[<-j.out,B,D,d8,d9];rfl⟩
      |true=>
       cases d7:(pa !=63) with
       |true=>
        go_wp2_with (fail)
        go_meet
        case rel=>exact⟨rfl,by rw[<-j.out,B,D,d7];rfl⟩
       |false=>
        cases bC with
        |false=>
         cases d9:((n:Int) !=cI) with
         |true=>
          go_wp2_with (fail)
          go_meet
          case rel=>exact⟨rfl,by rw[<-j.out,B,D,d7,d9];rfl⟩
         |false=>
          go_wp2_with (fail)
          go_meet
          case rel=>exact⟨rfl,by rw[<-j.out,B,D,d7,d9];rfl⟩
        |true=>
         cases d8:(pa==0) with
         |true=>
          go_wp2_with (fail)
          go_meet
          case rel=>exact⟨rfl,by rw[<-j.out,B,D,d7,d8];rfl⟩
         |false=>
          cases d9:((n:Int) !=cI) with
          |true=>
           go_wp2_with (fail)
           go_meet
           case rel=>exact⟨rfl,by rw[<-j.out,B,D,d7,d8,d9];rfl⟩
          |false=>
           go_wp2_with (fail)
           go_meet
           case rel=>exact⟨rfl,by rw[<-j.out,B,D,d7,d8,d9];rfl⟩
  obtain⟨rfl,rfl⟩:=hcut;clear K
  cases b2 with
  |true=>
   have aJ:OK=false:=(by rw[I.out];rfl);subst aJ;go_wp2_with fail
   go_ret;exact⟨rfl,HB.out⟩
  |false=>
   rw[OA] at I;have cE:=O (cE.out _ _ (HA.out.below HB.out (OD _)) T.out)
   cases K0 with
   |true=>
    have aJ:OK=false:=(by rw[I.out];rfl);subst aJ;go_wp2_with (go_at_call 128;refine cE.out.mono ?_;rintro e w4 ⟨rfl,dv⟩;have kA:=O dv;clear dv)
    go_ret;exact⟨rfl,HB.out.trans (kA.out.mono HB.out.size)⟩
   |false=>
    have aJ:OK=true:=(by rw[I.out];rfl);subst aJ;go_wp2_with (go_at_call 128;refine cE.out.mono ?_;rintro e w4 ⟨rfl,dv⟩;have kA:=O dv;clear dv)
    go_ret;exact⟨rfl,HB.out.trans (kA.out.mono HB.out.size)⟩
end Go.Proofs.YthhijgcfbjcgiaaGreatDoor
