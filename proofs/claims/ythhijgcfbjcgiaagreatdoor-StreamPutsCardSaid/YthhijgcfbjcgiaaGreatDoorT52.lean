/- RChk -/
import Derived.Test.YthhijgcfbjcgiaaGreatDoorT45
import Derived.Test.YthhijgcfbjcgiaaGreatDoorT47
namespace Go.Proofs.YthhijgcfbjcgiaaGreatDoor
open Go Go.RowKit
attribute [local go_sem] Oper.semAt_some
open Go.Lib renaming hid→O
open List renaming setIfInBounds_toArray→U,set_cons_succ→Y,set_cons_zero→X,drop_succ_cons→OC,length→OE,drop_zero→OF,drop_of_length_le→OG,getElem_mem→OJ,length_map→OK
open Go.Value renaming slice→Z,int→OA
open Go.IntKind renaming i64→J,wrap_i64→OO,i64→OP
open Bool renaming false_eq_true→OB,true_and→OD,false_and→OH
open Go.Obj renaming cells→OI
open Nat renaming le_refl→OL
open Tryz renaming ntmps16→OM,func16→ON
structure oN (w:World) (f:Int) (Al:Option Addr) (K cl gg:Nat) (sh:Array Value) (g7:Nat) (cs:Array Value) (W:World):Prop where
 be:Below w.heap.size w W
 row:W.ownsRow w.heap.size 3 1 (Z Al K cl) K ((aK f).map aH)
 sh:ab W gg 35 sh
 gr:ab W g7 51 cs
theorem oN.below {w:World}{f:Int}{B:Option Addr}{K cl G D:Nat}{sh cs:Array Value}{W C:World}(k:oN w f B K cl G sh D cs W)(j:Below W.heap.size W C):oN w f B K cl G sh D cs C:=
 ⟨k.be.trans (j.mono k.be.size),bL k.row j (OL _),k.sh.below j k.sh.lt,k.gr.below j k.gr.lt⟩
theorem oN.drew {w:World}{f:Int}{j:Option Addr}{K cl C B:Nat}{sh cs:Array Value}{W:World}(k:oN w f j K cl C sh B cs W):oN w f j K cl C sh B cs W.drew:=k.below (Below.refl _ _).drew
theorem mU {a b c d e g:Bool}{R:Bool}(h:(a&&b&&c&&d&&e&&g)=R)(k:a=false\/b=false\/c=false\/d=false):R=false:=by
 rw[<-h];rcases k with rfl|rfl|rfl|rfl<;>simp
set_option maxRecDepth 100000 in
set_option maxHeartbeats 8000000 in
theorem qT (s:a8)(w:World)(hs:fo w s)(hS:eF s):Calls Tryz.prog 16 #[fY s] w λe w'=>e=.returned (OA J (if cN s.s then 0 else 2))/\Below w.heap.size w w':=by
 obtain⟨tm,ty,sp,sA,sc,gs,A,c⟩:=s;obtain⟨Ls,Kz,Kv⟩:=hs;obtain⟨Lp,Lq,L4⟩:=hS;dsimp only at Ls Kz Kv Lp Lq L4;unfold fY cN a8.s;dsimp only;have Lg:=O Kz;have Lv:=O Kv;have LB:=O L4;obtain⟨K4,eE⟩:∃b,(qG ⟨tm,ty,sp⟩&&dX (dJ ty) (aK (dJ ty)) (gs.map (·.g)))=b:=⟨_,rfl⟩;rw[eE];have Ll:qG ⟨tm,ty,sp⟩=mo tm ty (OE sp):=rfl;rw[Ll] at eE;have C1:=O (λW=>qP tm ty sA (OE sp) sc W);have C2:=O (λKG W=>yb tm ty sA (OE sp) sc KG W);have Ht:dJ ty=0\/dJ ty=1:=by unfold dJ;omega
 obtain⟨f,hf⟩:∃f,dJ ty=f:=⟨_,rfl⟩;rw[hf] at eE C2 Ht;have C3:=O (λW=>pL f Ht W);obtain⟨k,hk⟩:∃k,OE sp=k:=⟨_,rfl⟩;obtain⟨L,hL⟩:∃L,OE gs=L:=⟨_,rfl⟩;obtain⟨K,hK⟩:∃K,(aK f).length=K:=⟨_,rfl⟩;have LJ:K<=12:=by rw[<-hK];exact ip f
 rw[hk] at C1 C2 eE;unfold tb at C3;rw[hK] at C3;rw[hk,hL];have KI:=O eE;have HL:=O hL;have KQ:=O hK;have L5:=O Ht;rw[hL] at Lq;have Lh:Below w.heap.size w (w.alloc (OI #[OA J tm,OA J ty,Z sA k sc,Z A L c] 35)):=(Below.refl _ _).alloc (OL _) _;obtain⟨gg,dv⟩:∃gg,w.heap.size=gg:=⟨_,rfl⟩;have Li:ab (w.alloc (OI #[OA J tm,OA J ty,Z sA k sc,Z A L c] 35)) gg 35 #[OA J tm,OA J ty,Z sA k sc,Z A L c]:=aE (ab.new _ _ _) dv;have JT:=O Lh;have KA:=O Li;clear Ls Kz Kv Lp L4 Ll Ht hf eE hk hL hK Lh Li
 cases iP:mo tm ty k with
 |false=>
  have C:=KI.out;rw[iP,OH] at C;subst C;rw[iP] at C1;simp only[OB,if_false] at C1⊢;clear iP dv
  go_enter ON,OM
  go_wp2_with (go_at_call 40;refine(C1.out _).mono ?_;rintro e w2 ⟨rfl,cI⟩;have jY:=O (JT.out.trans (cI.mono JT.out.size));clear cI)
  go_ret;exact⟨rfl,jY.out⟩
 |true=>
 rw[iP] at C1;simp only[if_true] at C1;have KG:0<=ty/\ty<=63:=by unfold mo at iP;simp at iP;omega
 have C2:=O (C2.out KG);clear KG;have Ld:Hid (dX f (aK f) (gs.map (·.g))=K4):=O (by rw[<-KI.out,iP,OD]);clear iP;obtain⟨V,hV⟩:∃V:Int,(if K4 then(0:Int) else 2)=V:=⟨_,rfl⟩;rw[hV];have HV:=O hV;clear hV
 cases KV:((L:Int) !=(K:Int)) with
 |true=>
  have LD:V=2:=by
   have LG:K≠L:=(by intro h;subst h;simp at KV);rw[<-HV.out]
   cases hR:K4 with
   |false=>rfl
   |true=>
    have h:=Ld.out;rw[hR] at h;have:=(kI _ _ h).2;rw[OK,HL.out,KQ.out] at this;exact absurd this.symm LG
  subst LD
  go_enter ON,OM
  go_wp2_with (first|(go_at_call 40;refine(C1.out _).mono ?_;rintro e w2 ⟨rfl,cI⟩;have jY:=O (JT.out.trans (cI.mono JT.out.size));have kA:=O (KA.out.below cI KA.out.lt);have y:=kA.out;have y0:=y.cell 0;have y1:=y.cell 1;have y2:=y.cell 2;(try dsimp only at y0 y1 y2);clear cI y)|(go_at_call 41;refine(C2.out _).mono ?_;rintro e w3 ⟨rfl,kU⟩;have K0:=O (jY.out.trans (kU.mono jY.out.size));have K6:=O (kA.out.below kU kA.out.lt);clear kU y0 y1 y2)|(go_at_call 42;refine(C3.out _).mono ?_;rintro e w4 ⟨Al,cl,rfl,Ky,rG⟩;have KN:=O (K0.out.trans (rG.mono K0.out.size));have KB:=O (K6.out.below rG K6.out.lt);have La:=O Ky;have y3:=KB.out.cell 3;(try dsimp only at y3);clear rG Ky))
  go_ret;exact⟨rfl,KN.out⟩
 |false=>
  have Lj:K=L:=(by have h:(L:Int)=(K:Int):=(by simpa using KV);omega);subst Lj;clear KV
  go_enter ON,OM
  go_wp2_with (first|(go_at_call 40;refine(C1.out _).mono ?_;rintro e w2 ⟨rfl,cI⟩;have jY:=O (JT.out.trans (cI.mono JT.out.size));have kA:=O (KA.out.below cI KA.out.lt);have y:=kA.out;have y0:=y.cell 0;have y1:=y.cell 1;have y2:=y.cell 2;(try dsimp only at y0 y1 y2);clear cI y)|(go_at_call 41;refine(C2.out _).mono ?_;rintro e w3 ⟨rfl,kU⟩;have K0:=O (jY.out.trans (kU.mono jY.out.size));have K6:=O (kA.out.below kU kA.out.lt);clear kU y0 y1 y2)|(go_at_call 42;refine(C3.out _).mono ?_;rintro e w4 ⟨Al,cl,rfl,Ky,rG⟩;have KN:=O (K0.out.trans (rG.mono K0.out.size));have KB:=O (K6.out.below rG K6.out.lt);have La:=O Ky;have y3:=KB.out.cell 3;(try dsimp only at y3);clear rG Ky))
  go_loopg [6] K (λgk i=> λwr=>∃(j:Nat),j+gk=K/\i=OA J (j:Int)/\Hid (dX f ((aK f).drop j) ((gs.map (·.g)).drop j)=K4)/\Hid (Below w.heap.size w wr)/\Hid (wr.ownsRow w.heap.size 3 1 (Z Al K cl) K ((aK f).map aH))/\Hid (ab wr gg 35 #[OA J tm,OA J ty,Z sA k sc,Z A K c]))
  case atStart=>exact⟨0,by omega,rfl,Ld,KN,O (cJ La.out K0.out.size),KB⟩
  case round=>
   obtain⟨j,hj,rfl,HJ,HB,KT,KC⟩:=hrel;clear y3;have y3:=KC.out.cell 3;(try dsimp only at y3)
   cases gk with
   |zero=>
    have LF:¬((j:Int)<(K:Int)):=(by omega);have C:=HJ.out;rw[OG (by have:=KQ.out;omega),OG (by rw[OK];have:=HL.out;omega)] at C;have C:true=K4:=C;have I:=HV.out;rw[<-C,if_pos rfl] at I;subst I;clear hj C;go_wp2_with fail
    go_ret;exact⟨rfl,by first|exact HB.out|(rw[<-dv];exact HB.out)⟩
   |succ go=>
    have LF:((j:Int)<(K:Int)):=(by omega);have LM:¬((j:Int)<0):=(by omega);have KE:j<(OE gs):=(by rw[HL.out];omega);have KD:j<(aK f).length:=(by rw[KQ.out];omega);obtain⟨ad,rfl,_,c0,c1,c2,c3⟩:=jM (Lg.out.below HB.out) j KE;have D:=OJ KE;have av:=HJ.out;rw[rV j KD (by rw[OK];exact KE),List.getElem_map] at av;obtain⟨G,hG⟩:∃G,gs[j]=G:=⟨_,rfl⟩;obtain⟨nm,KF⟩:∃x,(aK f)[j]=x:=⟨_,rfl⟩;have KM:nm∈aK f:=(by rw[<-KF];exact OJ KD);rw[hG,KF] at av;rw[hG] at D c0 c1 c2 c3;obtain⟨al,LE,KJ,KW⟩:=(fG KT.out).int j KD;rw[KF] at KW;have Kv:=Lv.out _ D;have LH:=LB.out _ D;have LN:OP.wrap ((j:Int)+1)=(j:Int)+1:=(by rw[OO];omega);have Lw:=O hj;obtain⟨num,qu,LC,gA,gc,ms,mA,mc⟩:=G;obtain⟨_,Hl,Kw⟩:=Kv;obtain⟨_,Hu,dO⟩:=LH;dsimp only at c0 c1 c2 c3 Hl Kw Hu dO;unfold j7 cQ.g at av;dsimp only at av;obtain⟨sk,Lr⟩:∃x,OE LC=x:=⟨_,rfl⟩;obtain⟨mn,L0⟩:∃x,OE ms=x:=⟨_,rfl⟩;rw[Lr] at c2 av;rw[L0] at c3 Hu;have L7:=O L0;have K9:=O Hl;have KH:=O Kw;have L8:=O Hu;have L9:=O dO;have Ly:=O KM;have K3:=O av;obtain⟨g7,Lk⟩:∃g,wr.heap.size=g:=⟨_,rfl⟩;have Ku:=((Below.refl _ wr).alloc (OL _) (OI #[OA J num,OA J qu,Z gA sk gc,Z mA mn mc] 51)).drew;have KZ:ab (wr.alloc (OI #[OA J num,OA J qu,Z gA sk gc,Z mA mn mc] 51)).drew g7 51 #[OA J num,OA J qu,Z gA sk gc,Z mA mn mc]:=aE (ab.new wr _ _) Lk;have K8:=O KZ;have aJ:=O (HB.out.trans (Ku.mono HB.out.size));have KR:=O (bL KT.out Ku (OL _));have KO:=O (KC.out.below Ku KC.out.lt);have KK:(wr.alloc (OI #[OA J num,OA J qu,Z gA sk gc,Z mA mn mc] 51)).drew.cell? (al.add j)=some (OA J nm):=(Ku.cell (by rw[dh];exact KJ)).trans KW;subst LE;have KU:Hid (ab (wr.alloc (OI #[OA J num,OA J qu,Z gA sk gc,Z mA mn mc] 51)).drew g7 51 #[OA J num,OA J qu,Z gA sk gc,Z mA mn mc]/\(wr.alloc (OI #[OA J num,OA J qu,Z gA sk gc,Z mA mn mc] 51)).drew.cell? (al.add j)=some (OA J nm)):=O ⟨KZ,KK⟩;clear D hG KF KM Ku hj KE KD HJ HB KT KC KW KK KJ av KZ Hl Kw Hu dO Lr L0;go_wp2_with fail
    refine dx (λw'=>ab w' g7 51 #[OA J num,OA J qu,Z gA sk gc,Z mA mn mc]/\w'.cell? (al.add j)=some (OA J nm)) 6 [(0,true),(1,true),(2,true),(3,true),(4,true),(5,true)] (KU.out) (λPE M=>?_)
    iterate 6
     refine bh (v:=?_) rfl (by rfl) ?_ ?_
     rotate_left
     ·intro _ B;(try dsimp only at B);have a0:=B.1.cell 0;have a1:=B.2;(try dsimp only at a0);go_simp;(try with_reducible rfl)
     simp only[U,X,Y]
    (refine M _ _ ?_;simp only[OC,OF];clear M PE)
    have v1:=K8.out.cell 1;have v2:=K8.out.cell 2;(try dsimp only at v1 v2)
    cases e1:(num !=nm) with
    |true=>
     have hk:(num==nm)=false:=(by simpa using e1);have C:=mU K3.out (.inl hk);have I:=HV.out;rw[C] at I;simp only[OB,if_false] at I;subst I;clear C;go_wp2_with fail
     go_ret;exact⟨rfl,by first|exact aJ.out|(rw[<-dv];exact aJ.out)⟩
    |false=>
    cases e2:decide (qu<1) with
    |true=>
     have hk:decide (1<=qu)=false:=(by simp at e2⊢;omega);have C:=mU K3.out (.inr (.inl hk));have I:=HV.out;rw[C] at I;simp only[OB,if_false] at I;subst I;clear C;go_wp2_with fail
     go_ret;exact⟨rfl,by first|exact aJ.out|(rw[<-dv];exact aJ.out)⟩
    |false=>
    cases e3:decide ((31:Int)<qu) with
    |true=>
     have hk:decide (qu<=31)=false:=(by simp at e3⊢;omega);have C:=mU K3.out (.inr (.inr (.inl hk)));have I:=HV.out;rw[C] at I;simp only[OB,if_false] at I;subst I;clear C;go_wp2_with fail
     go_ret;exact⟨rfl,by first|exact aJ.out|(rw[<-dv];exact aJ.out)⟩
    |false=>
    cases e4:decide ((32:Int)<(sk:Int)) with
    |true=>
     have hk:decide (sk<=32)=false:=(by simp at e4⊢;omega);have C:=mU K3.out (.inr (.inr (.inr hk)));have I:=HV.out;rw[C] at I;simp only[OB,if_false] at I;subst I;clear C;go_wp2_with fail
     go_ret;exact⟨rfl,by first|exact aJ.out|(rw[<-dv];exact aJ.out)⟩
    |false=>
    have Lo:num=nm:=(by simpa using e1);subst Lo;have C:=K3.out;rw[show (num==num)=true by simp,show decide (1<=qu)=true by(simp at e2⊢;omega),show decide (qu<=31)=true by(simp at e3⊢;omega),show decide (sk<=32)=true by(simp at e4⊢;omega)] at C;simp only[OD] at C;have LA:=O C;have L6:Hid (oN w f (some al) K cl gg #[OA J tm,OA J ty,Z sA k sc,Z (some ad) K c] g7 #[OA J num,OA J qu,Z gA sk gc,Z mA mn mc] (wr.alloc (OI #[OA J num,OA J qu,Z gA sk gc,Z mA mn mc] 51)).drew):=O ⟨aJ.out,KR.out,KO.out,K8.out⟩;clear C;go_wp2_with fail
    generalize (wr.alloc (OI #[OA J num,OA J qu,Z gA sk gc,Z mA mn mc] 51)).drew=w8 at L6 v1 v2 KU K8 aJ KR KO⊢;clear v1 v2 KU K8 aJ KR KO e1 e2 e3 e4 c0 c1 c2 c3 y3 Lk K3
    go_loopg [8,9] mn (λgk la i=> λwr=>∃(j2:Nat)(last:Int),j2+gk=mn/\la=OA J last/\i=OA J (j2:Int)/\Hid ((eC f num last ((ms.drop j2).map (·.m))&&dX f ((aK f).drop (j+1)) ((gs.map (·.g)).drop (j+1)))=K4)/\Hid (oN w f (some al) K cl gg #[OA J tm,OA J ty,Z sA k sc,Z (some ad) K c] g7 #[OA J num,OA J qu,Z gA sk gc,Z mA mn mc] wr))
    case atStart=>exact⟨0,0,by omega,rfl,rfl,LA,L6⟩
    case round=>
     obtain⟨j2,last,KY,rfl,rfl,Kt,HK⟩:=hrel;have z3:=HK.out.gr.cell 3;(try dsimp only at z3)
     cases gk with
     |zero=>
      have Ln:¬((j2:Int)<(mn:Int)):=(by omega);have C:=Kt.out;rw[OG (by have:=L7.out;omega),List.map_nil,eC,OD] at C;have Lf:=O C;clear C KY;go_wp2_with fail
      go_roundg go
      case measure=>omega
      case rel=>exact⟨j+1,by have:=Lw.out;omega,rfl,Lf,O HK.out.be,O HK.out.row,O HK.out.sh⟩
     |succ gi=>
      have Ln:((j2:Int)<(mn:Int)):=(by omega);have LK:¬((j2:Int)<0):=(by omega);have jg:j2<(OE ms):=(by rw[L7.out];omega);have LL:OP.wrap ((j2:Int)+1)=(j2:Int)+1:=(by have:=L8.out;rw[OO];omega);obtain⟨am,rfl,_,d0,d1,d2,d3,d4,d5,d6⟩:=iB (K9.out.below HK.out.be) j2 jg;clear d0 d1 d2 d3 d4 d5 d6;have bM:=O (λW (hb:Below w.heap.size w W)=>iB (K9.out.below hb) j2 jg);have D:=OJ jg;have KX:ms.drop j2=ms[j2]::ms.drop (j2+1):=List.drop_eq_getElem_cons jg;obtain⟨⟨m,xs,Am,cm⟩,hm⟩:∃m,ms[j2]=m:=⟨_,rfl⟩;rw[hm] at D KX bM;dsimp only at bM;have av:=Kt.out;rw[KX,List.map_cons,eC] at av;dsimp only at av;have Kx:=KH.out _ D;have dO:=L9.out _ D;have Lu:m.bl=xs.map (·.1):=Kx.e;have CK:=O (λW (hb:Below w.heap.size w W)=>qS m xs Am cm W Lu (((KH.out _ D).below hb).bks dO));have CF:=O (λW (fJ:wh m)=>Dc m Am (OE xs) cm f num fJ L5.out Ly.out W);unfold dU at CF;obtain⟨xl,Lt⟩:∃n,OE xs=n:=⟨_,rfl⟩;rw[Lt] at CK CF bM;have Le:=O av;have Lx:=O KY;have T:=O HK.out.drew;clear D KX hm av Kx dO Lu Lt jg KY Kt
      cases fJ:iU m with
      |false=>
       have C:=Le.out;rw[fJ] at C;simp only[OH] at C;have I:=HV.out;rw[<-C] at I;simp only[OB,if_false] at I;subst I;rw[fJ] at CK;simp only[OB,if_false] at CK;clear fJ C;go_wp2_with fail
       refine dx (λw'=>oN w f (some al) K cl gg #[OA J tm,OA J ty,Z sA k sc,Z (some ad) K c] g7 #[OA J num,OA J qu,Z gA sk gc,Z (some am) mn mc] w') 26 [(0,true),(1,true),(2,true),(3,true),(4,true),(5,false),(6,true),(7,true),(8,true),(9,true),(10,true),(11,true),(12,true),(13,true),(14,true),(15,true),(16,true),(17,true),(18,true),(19,true),(20,true),(21,true),(22,true),(23,true),(24,true),(25,true)] (T.out) (λPE M=>?_)
       iterate 5
        refine bh (v:=?_) rfl (by rfl) ?_ ?_
        rotate_left
        ·intro _ B;(try dsimp only at B);obtain⟨_,e,_,d0,d1,d2,d3,d4,d5,d6⟩:=bM.out _ B.be;cases e;have a0:=B.gr.cell 0;have a3:=B.gr.cell 3;(try dsimp only at a0 a3);go_simp;(try with_reducible rfl)
        simp only[U,X,Y]
       refine kM rfl (by rfl) (by first|(go_simp;done)|(go_simp;rfl)) (CK.out _ T.out.be) ?_;rintro e w9 ⟨rfl,cE⟩;have N:=O (T.out.below cE);clear cE;refine⟨_,rfl,N.out,?_⟩;simp only[U,X,Y]
       iterate 2
        refine bh (v:=?_) rfl (by rfl) ?_ ?_
        rotate_left
        ·intro _ B;(try dsimp only at B);go_simp;(try with_reducible rfl)
        simp only[U,X,Y]
       iterate 8
        refine iw rfl (by rfl) ?_
        simp only[U,X,Y]
       iterate 2
        refine bh (v:=?_) rfl (by rfl) ?_ ?_
        rotate_left
        ·intro _ B;(try dsimp only at B);go_simp;(try with_reducible rfl)
        simp only[U,X,Y]
       iterate 8
        refine iw rfl (by rfl) ?_
        simp only[U,X,Y]
       (refine M _ _ ?_;simp only[OC,OF];clear M PE)
       go_wp2_with fail
       go_ret;exact⟨rfl,by first|exact N.out.be|(rw[<-dv];exact N.out.be)⟩
      |true=>
       rw[fJ] at CK;simp only[if_true] at CK;have KL:=(iO m).1 fJ;have CF:=O (λW=>CF.out W KL);have C:=Le.out;rw[fJ,OD] at C;have Lb:=O C;clear fJ KL C
       cases Lm:decide (m.ad<=last) with
       |true=>
        have C:=Lb.out;rw[show decide (last<m.ad)=false by(simp at Lm⊢;omega)] at C;simp only[OH] at C;have I:=HV.out;rw[<-C] at I;simp only[OB,if_false] at I;subst I;clear C;go_wp2_with fail
        refine dx (λw'=>oN w f (some al) K cl gg #[OA J tm,OA J ty,Z sA k sc,Z (some ad) K c] g7 #[OA J num,OA J qu,Z gA sk gc,Z (some am) mn mc] w') 26 [(0,true),(1,true),(2,true),(3,true),(4,true),(5,false),(6,true),(7,true),(8,true),(9,true),(10,true),(11,true),(12,true),(13,true),(14,true),(15,true),(16,true),(17,true),(18,true),(19,true),(20,true),(21,true),(22,true),(23,true),(24,true),(25,true)] (T.out) (λPE M=>?_)
        iterate 5
         refine bh (v:=?_) rfl (by rfl) ?_ ?_
         rotate_left
         ·intro _ B;(try dsimp only at B);obtain⟨_,e,_,d0,d1,d2,d3,d4,d5,d6⟩:=bM.out _ B.be;cases e;have a0:=B.gr.cell 0;have a3:=B.gr.cell 3;(try dsimp only at a0 a3);go_simp;(try with_reducible rfl)
         simp only[U,X,Y]
        refine kM rfl (by rfl) (by first|(go_simp;done)|(go_simp;rfl)) (CK.out _ T.out.be) ?_;rintro e w9 ⟨rfl,cE⟩;have N:=O (T.out.below cE);clear cE;refine⟨_,rfl,N.out,?_⟩;simp only[U,X,Y]
        iterate 12
         refine bh (v:=?_) rfl (by rfl) ?_ ?_
         rotate_left
         ·intro _ B;(try dsimp only at B);obtain⟨_,e,_,d0,d1,d2,d3,d4,d5,d6⟩:=bM.out _ B.be;cases e;have a0:=B.gr.cell 0;have a3:=B.gr.cell 3;(try dsimp only at a0 a3);go_simp;(try with_reducible rfl)
         simp only[U,X,Y]
        iterate 8
         refine iw rfl (by rfl) ?_
         simp only[U,X,Y]
        (refine M _ _ ?_;simp only[OC,OF];clear M PE)
        go_wp2_with fail
        go_ret;exact⟨rfl,by first|exact N.out.be|(rw[<-dv];exact N.out.be)⟩
       |false=>
        have C:=Lb.out;rw[show decide (last<m.ad)=true by(simp at Lm⊢;omega),OD] at C;have Lc:=O C;clear C
        cases K5:iL f num m with
        |false=>
         have C:=Lc.out;rw[K5] at C;simp only[OH] at C;have I:=HV.out;rw[<-C] at I;simp only[OB,if_false] at I;subst I;rw[K5] at CF;clear C K5;go_wp2_with fail
         refine dx (λw'=>oN w f (some al) K cl gg #[OA J tm,OA J ty,Z sA k sc,Z (some ad) K c] g7 #[OA J num,OA J qu,Z gA sk gc,Z (some am) mn mc] w') 26 [(0,true),(1,true),(2,true),(3,true),(4,true),(5,false),(6,true),(7,true),(8,true),(9,true),(10,true),(11,true),(12,true),(13,true),(14,true),(15,true),(16,true),(17,true),(18,true),(19,true),(20,true),(21,true),(22,true),(23,true),(24,true),(25,true)] (T.out) (λPE M=>?_)
         iterate 5
          refine bh (v:=?_) rfl (by rfl) ?_ ?_
          rotate_left
          ·intro _ B;(try dsimp only at B);obtain⟨_,e,_,d0,d1,d2,d3,d4,d5,d6⟩:=bM.out _ B.be;cases e;have a0:=B.gr.cell 0;have a3:=B.gr.cell 3;(try dsimp only at a0 a3);go_simp;(try with_reducible rfl)
          simp only[U,X,Y]
         refine kM rfl (by rfl) (by first|(go_simp;done)|(go_simp;rfl)) (CK.out _ T.out.be) ?_;rintro e w9 ⟨rfl,cE⟩;have N:=O (T.out.below cE);clear cE;refine⟨_,rfl,N.out,?_⟩;simp only[U,X,Y]
         iterate 20
          refine bh (v:=?_) rfl (by rfl) ?_ ?_
          rotate_left
          ·intro _ B;(try dsimp only at B);obtain⟨_,e,_,d0,d1,d2,d3,d4,d5,d6⟩:=bM.out _ B.be;cases e;have a0:=B.gr.cell 0;have a3:=B.gr.cell 3;(try dsimp only at a0 a3);go_simp;(try with_reducible rfl)
          simp only[U,X,Y]
         (refine M _ _ ?_;simp only[OC,OF];clear M PE)
         go_wp2_with (go_at_call 44;refine(CF.out _).mono ?_;rintro e LI ⟨rfl,gj⟩;have dy:=O (N.out.below gj);clear gj)
         go_ret;exact⟨rfl,by first|exact dy.out.be|(rw[<-dv];exact dy.out.be)⟩
        |true=>
         have C:=Lc.out;rw[K5,OD] at C;have Lz:=O C;rw[K5] at CF;clear C K5;go_wp2_with fail
         refine dx (λw'=>oN w f (some al) K cl gg #[OA J tm,OA J ty,Z sA k sc,Z (some ad) K c] g7 #[OA J num,OA J qu,Z gA sk gc,Z (some am) mn mc] w') 26 [(0,true),(1,true),(2,true),(3,true),(4,true),(5,false),(6,true),(7,true),(8,true),(9,true),(10,true),(11,true),(12,true),(13,true),(14,true),(15,true),(16,true),(17,true),(18,true),(19,true),(20,true),(21,true),(22,true),(23,true),(24,true),(25,true)] (T.out) (λPE M=>?_)
         iterate 5
          refine bh (v:=?_) rfl (by rfl) ?_ ?_
          rotate_left
          ·intro _ B;(try dsimp only at B);obtain⟨_,e,_,d0,d1,d2,d3,d4,d5,d6⟩:=bM.out _ B.be;cases e;have a0:=B.gr.cell 0;have a3:=B.gr.cell 3;(try dsimp only at a0 a3);go_simp;(try with_reducible rfl)
          simp only[U,X,Y]
         refine kM rfl (by rfl) (by first|(go_simp;done)|(go_simp;rfl)) (CK.out _ T.out.be) ?_;rintro e w9 ⟨rfl,cE⟩;have N:=O (T.out.below cE);clear cE;refine⟨_,rfl,N.out,?_⟩;simp only[U,X,Y]
         iterate 20
          refine bh (v:=?_) rfl (by rfl) ?_ ?_
          rotate_left
          ·intro _ B;(try dsimp only at B);obtain⟨_,e,_,d0,d1,d2,d3,d4,d5,d6⟩:=bM.out _ B.be;cases e;have a0:=B.gr.cell 0;have a3:=B.gr.cell 3;(try dsimp only at a0 a3);go_simp;(try with_reducible rfl)
          simp only[U,X,Y]
         (refine M _ _ ?_;simp only[OC,OF];clear M PE)
         go_wp2_with (go_at_call 44;refine(CF.out _).mono ?_;rintro e LI ⟨rfl,gj⟩;have dy:=O (N.out.below gj);obtain⟨_,e,_,d0,d1,d2,d3,d4,d5,d6⟩:=bM.out _ dy.out.be;cases e;have t3:=dy.out.gr.cell 3;(try dsimp only at t3);clear gj)
         go_roundg gi
         case measure=>omega
         case rel=>exact⟨j2+1,m.ad,by have:=Lx.out;omega,rfl,rfl,Lz,dy⟩
end Go.Proofs.YthhijgcfbjcgiaaGreatDoor
