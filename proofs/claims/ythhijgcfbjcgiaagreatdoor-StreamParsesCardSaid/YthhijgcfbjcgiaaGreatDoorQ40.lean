/- MChk -/
import Derived.Test.YthhijgcfbjcgiaaGreatDoorQ20
import Derived.Deep.DeepCutAuto
namespace Go.Proofs.YthhijgcfbjcgiaaGreatDoor
open Go Go.RowKit
attribute [local go_sem] Oper.semAt_some
open Go.Lib renaming hid→O
open Go.Value renaming bool→U,int→V,slice→OF
open Go.IntKind renaming i64→Z
open List renaming length→Y
open Go.Obj renaming cells→X
open Bool renaming eq_iff_iff→J,false_or→OA
open Nat renaming le_trans→OB,le_refl→OD
open Tryz renaming ntmps76→OC,func76→OE
def GE (kd qu:Int):Bool:=if pQ kd then decide (1<=qu)&&decide (qu<=31) else qu==0
theorem JD (m:aT)(h:f9 m.kd=true):lk m= !((decide (m.ad<1)||decide (33<m.ad)|| !aK m.x|| !aK m.y||(!pV m.kd&&(m.x !=0||m.y !=0)))||(!GE m.kd m.qu||decide (m.pa<0)||decide ((if pI m.kd||pC m.kd then(63:Int) else 0)<m.pa)||(pI m.kd&&m.pa !=63)||(pC m.kd&&m.pa==0)||((Y m.bl:Int) !=((bO m.pa:Nat):Int)))||m.bl.any λx=>dl x (pI m.kd) !=0):=by
 obtain⟨ad,kd,qu,x,y,pa,bl⟩:=m;unfold lk GE;dsimp only at h⊢;rw[h]
 have G:(bl.all λx=>dl x (pI kd)==0)= !(bl.any λx=>dl x (pI kd) !=0):=by
  induction bl with
  |nil=>rfl
  |cons b bl ih=>simp only[List.all_cons,List.any_cons,ih,bne,Bool.not_or,Bool.not_not]
 have hl:((Y bl:Int) !=((bO pa:Nat):Int))= !((Y bl)==bO pa):=by
  rw[bne,J];simp;omega
 rw[G,hl];generalize (bl.any λx=>dl x (pI kd) !=0)=z;generalize ((Y bl)==bO pa)=I;generalize aK x=px;generalize aK y=py;generalize pI kd=B;generalize pQ kd=C;generalize pV kd=D;generalize pC kd=j;rw[J]
 cases B<;>cases C<;>cases D<;>cases j<;>cases px<;>cases py<;>cases I<;>cases z<;>simp<;>omega
set_option maxRecDepth 100000 in
set_option maxHeartbeats 8000000 in
theorem qR (m:aT)(xs:List ew)(A:Option Addr)(c:Nat)(w:World)(hm:m.bl=xs.map (·.1))(hA:kh w A xs):Calls Tryz.prog 76 #[fI m A (Y xs) c] w λe w'=>e=.returned (V Z (if lk m then 0 else 2))/\Below w.heap.size w w':=by
 have gy:(m.bl.any λx=>dl x (pI m.kd) !=0)=xs.any (kS (pI m.kd)):=by rw[hm,List.any_map];rfl
 have hU:Y m.bl=(Y xs):=by rw[hm,List.length_map]
 have G:=JD m;rw[gy,hU] at G;have Iq:=hA.len;have HA:=O hA;obtain⟨ad,kd,qu,x,y,pa,bl⟩:=m;clear hm hA gy hU;obtain⟨OK,eE⟩:∃b,lk ⟨ad,kd,qu,x,y,pa,bl⟩=b:=⟨_,rfl⟩;rw[eE] at G⊢;unfold fI;dsimp only at G⊢;have CO:=O (λW=>nA kd W);have rX:Below w.heap.size w (w.alloc (X #[V Z ad,V Z kd,V Z qu,V Z x,V Z y,V Z pa,OF A (Y xs) c] 55)):=(Below.refl _ _).alloc (OD _) _;have wj:ab (w.alloc (X #[V Z ad,V Z kd,V Z qu,V Z x,V Z y,V Z pa,OF A (Y xs) c] 55)) w.heap.size 55 #[V Z ad,V Z kd,V Z qu,V Z x,V Z y,V Z pa,OF A (Y xs) c]:=ab.new _ _ _;have N:=O rX;have dY:=O wj;clear rX wj
 cases hk:f9 kd with
 |false=>
  have K1:OK=false:=(by rw[<-eE];unfold lk;dsimp only;rw[hk];rfl);subst K1;unfold li mN at CO;rw[hk,if_neg (by decide),if_neg (by decide)] at CO;unfold GD at CO;clear G hk eE
  go_enter OE,OC
  go_wp2_with (go_at_call 106;refine(CO.out _).mono ?_;rintro e w2 ⟨rfl,K⟩;have aB:=O K;clear K)
  go_ret;exact⟨rfl,(N.out.trans (aB.out.mono N.out.size)).alloc (OB N.out.size aB.out.size) _⟩
 |true=>
  have G:=G hk;unfold li mN at CO;rw[hk,if_pos rfl,if_pos rfl] at CO;unfold qy at CO;unfold GE at G;clear hk eE;have cz:=O (λW g hW hg=>tP A c xs g (pI kd) (pQ kd) (pV kd) (pF kd) (pC kd) W hW hg);generalize pI kd=bI at*;generalize pQ kd=bQ at*;generalize pV kd=bV at*;generalize pF kd=bF at*;generalize pC kd=bC at*;have PX:=O (λW=>eC x W);have PY:=O (λW=>eC y W);have PC:=O (λW=>oW pa W);have K0:(bO pa:Int)<=6:=(by unfold bO;split<;>omega);generalize aK x=px at*;generalize aK y=py at*;obtain⟨dt,gJ⟩:∃k:Int,((bO pa:Nat):Int)=k:=⟨_,rfl⟩;rw[gJ] at G PC K0;clear gJ;generalize xs.any (kS bI)=J2 at*;obtain⟨n,hn⟩:∃n,Y xs=n:=⟨_,rfl⟩;rw[hn] at G Iq N dY cz⊢;clear hn;have I:=O G;clear G
  go_enter OE,OC
  go_upto_region 2 with(go_at_call 106;refine(CO.out _).mono ?_;rintro e w2 ⟨rfl,K⟩;have aB:=O K;clear K)
  obtain⟨g,hg⟩:∃g,w2.heap.size=g:=⟨_,rfl⟩;have hP:ab (w2.alloc (X #[U bI,U bQ,U bV,U bF,U bC] 110)) g 110 #[U bI,U bQ,U bV,U bF,U bC]:=aH (ab.new _ _ _) hg;have hM:=(dY.out.below aB.out dY.out.lt).alloc (X #[U bI,U bQ,U bV,U bF,U bC] 110);have hB:=(N.out.trans (aB.out.mono N.out.size)).alloc (OB N.out.size aB.out.size) (X #[U bI,U bQ,U bV,U bF,U bC] 110);simp only[hg];generalize w2.alloc (X #[U bI,U bQ,U bV,U bF,U bC] 110)=W1 at hP hM hB⊢;have T:=O hP;have C:=O hM;have HB:=O hB;clear hP hM hB hg aB dY N;obtain⟨b1,fW⟩:∃b,(decide (ad<1)||decide (33<ad)|| !px|| !py||(!bV&&(x !=0||y !=0)))=b:=⟨_,rfl⟩;rw[fW] at I
  go_cut [52] (λK2 wx=>W1=wx/\K2=U b1)
  case first=>
   have m0:=C.out.cell 0;have m1:=C.out.cell 1;have m2:=C.out.cell 2;have m3:=C.out.cell 3;have m4:=C.out.cell 4;have m5:=C.out.cell 5;have m6:=C.out.cell 6;have p0:=T.out.cell 0;have p1:=T.out.cell 1;have p2:=T.out.cell 2;have p4:=T.out.cell 4;have j:=O fW;clear fW
   cases B:decide (ad<1) with
   |true=>
    go_wp2_with (first|(go_at_call 126;refine(PX.out _).mono ?_;rintro e w' ⟨rfl,rfl⟩)|(go_at_call 126;refine(PY.out _).mono ?_;rintro e w' ⟨rfl,rfl⟩))
    go_meet
    case rel=>exact⟨rfl,by rw[<-j.out,B];rfl⟩
   |false=>
    cases D:decide (33<ad) with
    |true=>
     go_wp2_with (first|(go_at_call 126;refine(PX.out _).mono ?_;rintro e w' ⟨rfl,rfl⟩)|(go_at_call 126;refine(PY.out _).mono ?_;rintro e w' ⟨rfl,rfl⟩))
     go_meet
     case rel=>exact⟨rfl,by rw[<-j.out,B,D];rfl⟩
    |false=>
     cases px with
     |false=>
      go_wp2_with (first|(go_at_call 126;refine(PX.out _).mono ?_;rintro e w' ⟨rfl,rfl⟩)|(go_at_call 126;refine(PY.out _).mono ?_;rintro e w' ⟨rfl,rfl⟩))
      go_meet
      case rel=>exact⟨rfl,by rw[<-j.out,B,D];rfl⟩
     |true=>
      cases py with
      |false=>
       go_wp2_with (first|(go_at_call 126;refine(PX.out _).mono ?_;rintro e w' ⟨rfl,rfl⟩)|(go_at_call 126;refine(PY.out _).mono ?_;rintro e w' ⟨rfl,rfl⟩))
       go_meet
       case rel=>exact⟨rfl,by rw[<-j.out,B,D];rfl⟩
      |true=>
       cases bV with
       |true=>
        go_wp2_with (first|(go_at_call 126;refine(PX.out _).mono ?_;rintro e w' ⟨rfl,rfl⟩)|(go_at_call 126;refine(PY.out _).mono ?_;rintro e w' ⟨rfl,rfl⟩))
        go_meet
        case rel=>exact⟨rfl,by rw[<-j.out,B,D];rfl⟩
       |false=>
        cases d6:(x !=0) with
        |true=>
         go_wp2_with (first|(go_at_call 126;refine(PX.out _).mono ?_;rintro e w' ⟨rfl,rfl⟩)|(go_at_call 126;refine(PY.out _).mono ?_;rintro e w' ⟨rfl,rfl⟩))
         go_meet
         case rel=>exact⟨rfl,by rw[<-j.out,B,D,d6];rfl⟩
        |false=>
         cases d7:(y !=0) with
         |true=>
          go_wp2_with (first|(go_at_call 126;refine(PX.out _).mono ?_;rintro e w' ⟨rfl,rfl⟩)|(go_at_call 126;refine(PY.out _).mono ?_;rintro e w' ⟨rfl,rfl⟩))
          go_meet
          case rel=>exact⟨rfl,by rw[<-j.out,B,D,d6,d7];rfl⟩
         |false=>
          go_wp2_with (first|(go_at_call 126;refine(PX.out _).mono ?_;rintro e w' ⟨rfl,rfl⟩)|(go_at_call 126;refine(PY.out _).mono ?_;rintro e w' ⟨rfl,rfl⟩))
          go_meet
          case rel=>exact⟨rfl,by rw[<-j.out,B,D,d6,d7];rfl⟩
  obtain⟨rfl,rfl⟩:=hcut;clear fW
  cases b1 with
  |true=>
   have aC:OK=false:=(by rw[I.out];rfl);subst aC;go_wp2_with fail
   go_ret;exact⟨rfl,HB.out⟩
  |false=>
  rw[OA] at I;have m0:=C.out.cell 0;have m1:=C.out.cell 1;have m2:=C.out.cell 2;have m3:=C.out.cell 3;have m4:=C.out.cell 4;have m5:=C.out.cell 5;have m6:=C.out.cell 6;have p0:=T.out.cell 0;have p1:=T.out.cell 1;have p2:=T.out.cell 2;have p4:=T.out.cell 4;obtain⟨kz,bE⟩:∃b,(if bQ then decide (1<=qu)&&decide (qu<=31) else qu==0)=b:=⟨_,rfl⟩;rw[bE] at I
  go_upto_if 57 with fail
  go_cut [5] (λs5 wx=>W1=wx/\s5=U kz)
  case first=>
   have j:=O bE;clear bE
   cases bQ with
   |false=>
    go_wp2_with fail
    go_meet
    case rel=>exact⟨rfl,by rw[<-j.out];rfl⟩
   |true=>
    cases B:decide (1<=qu) with
    |false=>
     go_wp2_with fail
     go_meet
     case rel=>exact⟨rfl,by rw[<-j.out,B];rfl⟩
    |true=>
     cases D:decide (qu<=31) with
     |false=>
      go_wp2_with fail
      go_meet
      case rel=>exact⟨rfl,by rw[<-j.out,B,D];rfl⟩
     |true=>
      go_wp2_with fail
      go_meet
      case rel=>exact⟨rfl,by rw[<-j.out,B,D];rfl⟩
  obtain⟨rfl,rfl⟩:=hcut;clear bE
  go_upto_region 7 with fail
  go_cut [71] (λK3 wx=>W1=wx/\K3=U (bI||bC))
  case first=>
   cases bI with
   |true=>
    go_wp2_with fail
    go_meet
    case rel=>exact⟨rfl,rfl⟩
   |false=>
    go_wp2_with fail
    go_meet
    case rel=>exact⟨rfl,rfl⟩
  obtain⟨rfl,rfl⟩:=hcut;obtain⟨dE,M⟩:∃b,(if bI||bC then(63:Int) else 0)=b:=⟨_,rfl⟩;rw[M] at I
  go_upto_if 71 with fail
  go_cut [6] (λs6 wx=>W1=wx/\s6=V Z dE)
  case first=>
   have j:=O M;clear M
   cases Ip:(bI||bC) with
   |true=>
    go_wp2_with fail
    go_meet
    case rel=>exact⟨rfl,by rw[<-j.out,Ip];rfl⟩
   |false=>
    go_wp2_with fail
    go_meet
    case rel=>exact⟨rfl,by rw[<-j.out,Ip];rfl⟩
  obtain⟨rfl,rfl⟩:=hcut;clear M
  go_upto_region 10 with(go_at_call 127;refine(PC.out _).mono ?_;rintro e w3 ⟨rfl,Io⟩;have ja:=O Io;clear Io)
  clear m0 m1 m2 m3 m4 m5 m6 p0 p1 p2 p4;have C:=O (C.out.below ja.out C.out.lt);have T:=O (T.out.below ja.out T.out.lt);have HB:=O (HB.out.trans (ja.out.mono HB.out.size));have m0:=C.out.cell 0;have m1:=C.out.cell 1;have m2:=C.out.cell 2;have m3:=C.out.cell 3;have m4:=C.out.cell 4;have m5:=C.out.cell 5;have m6:=C.out.cell 6;have p0:=T.out.cell 0;have p1:=T.out.cell 1;have p2:=T.out.cell 2;have p4:=T.out.cell 4;obtain⟨b2,K⟩:∃b,(!kz||decide (pa<0)||decide (dE<pa)||(bI&&pa !=63)||(bC&&pa==0)||(n:Int) !=dt)=b:=⟨_,rfl⟩;rw[K] at I
  go_cut [112] (λs wx=>w3=wx/\s=U b2)
  case first=>
   have j:=O K;clear K
   cases kz with
   |false=>
    go_wp2_with (fail)
    go_meet
    case rel=>exact⟨rfl,by rw[<-j.out];rfl⟩
   |true=>
    cases B:decide (pa<0) with
    |true=>
     go_wp2_with (fail)
     go_meet
     case rel=>exact⟨rfl,by rw[<-j.out,B];rfl⟩
    |false=>
     cases D:decide (dE<pa) with
     |true=>
      go_wp2_with (fail)
      go_meet
      case rel=>exact⟨rfl,by rw[<-j.out,B,D];rfl⟩
     |false=>
      cases bI with
      |false=>
       cases bC with
       |false=>
        cases d9:((n:Int) !=dt) with
        |true=>
         go_wp2_with (fail)
         go_meet
         case rel=>exact⟨rfl,by rw[<-j.out,B,D,d9];rfl⟩
        |false=>
         go_wp2_with (fail)
         go_meet
         case rel=>exact⟨rfl,by rw[<-j.out,B,D,d9];rfl⟩
       |true=>
        cases d8:(pa==0) with
        |true=>
         go_wp2_with (fail)
         go_meet
         case rel=>exact⟨rfl,by rw[<-j.out,B,D,d8];rfl⟩
        |false=>
         cases d9:((n:Int) !=dt) with
         |true=>
          go_wp2_with (fail)
          go_meet
          case rel=>exact⟨rfl,by rw[<-j.out,B,D,d8,d9];rfl⟩
         |false=>
          go_wp2_with (fail)
          go_meet
          case rel=>exact⟨rfl,by rw[<-j.out,B,D,d8,d9];rfl⟩
      |true=>
       cases d7:(pa !=63) with
       |true=>
        go_wp2_with (fail)
        go_meet
        case rel=>exact⟨rfl,by rw[<-j.out,B,D,d7];rfl⟩
       |false=>
        cases bC with
        |false=>
         cases d9:((n:Int) !=dt) with
         |true=>
          go_wp2_with (fail)
          go_meet
          case rel=>exact⟨rfl,by rw[<-j.out,B,D,d7,d9];rfl⟩
         |false=>
          go_wp2_with (fail)
          go_meet
          case rel=>exact⟨rfl,by rw[<-j.out,B,D,d7,d9];rfl⟩
        |true=>
         cases d8:(pa==0) with
         |true=>
          go_wp2_with (fail)
          go_meet
          case rel=>exact⟨rfl,by rw[<-j.out,B,D,d7,d8];rfl⟩
         |false=>
          cases d9:((n:Int) !=dt) with
          |true=>
           go_wp2_with (fail)
           go_meet
           case rel=>exact⟨rfl,by rw[<-j.out,B,D,d7,d8,d9];rfl⟩
          |false=>
           go_wp2_with (fail)
           go_meet
           case rel=>exact⟨rfl,by rw[<-j.out,B,D,d7,d8,d9];rfl⟩
  obtain⟨rfl,rfl⟩:=hcut;clear K
  cases b2 with
  |true=>
   have aC:OK=false:=(by rw[I.out];rfl);subst aC;go_wp2_with fail
   go_ret;exact⟨rfl,HB.out⟩
  |false=>
   rw[OA] at I;have cz:=O (cz.out _ _ (HA.out.below HB.out (OD _)) T.out)
   cases J2 with
   |true=>
    have aC:OK=false:=(by rw[I.out];rfl);subst aC;go_wp2_with (go_at_call 128;refine cz.out.mono ?_;rintro e w4 ⟨rfl,dD⟩;have jT:=O dD;clear dD)
    go_ret;exact⟨rfl,HB.out.trans (jT.out.mono HB.out.size)⟩
   |false=>
    have aC:OK=true:=(by rw[I.out];rfl);subst aC;go_wp2_with (go_at_call 128;refine cz.out.mono ?_;rintro e w4 ⟨rfl,dD⟩;have jT:=O dD;clear dD)
    go_ret;exact⟨rfl,HB.out.trans (jT.out.mono HB.out.size)⟩
end Go.Proofs.YthhijgcfbjcgiaaGreatDoor
