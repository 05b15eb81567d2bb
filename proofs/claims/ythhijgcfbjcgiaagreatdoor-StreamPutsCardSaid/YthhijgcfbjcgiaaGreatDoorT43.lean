/- Good, Ref12, Ref12b, Ref12c, Ref19 -/
import Derived.Test.YthhijgcfbjcgiaaGreatDoorT32
import Derived.Test.YthhijgcfbjcgiaaGreatDoorT36
import Derived.Test.YthhijgcfbjcgiaaGreatDoorT33
import Derived.Test.YthhijgcfbjcgiaaGreatDoorT42
namespace Go.Proofs.YthhijgcfbjcgiaaGreatDoor
open Go Go.RowKit
attribute [local go_sem] Oper.semAt_some
set_option maxHeartbeats 16000000
set_option maxRecDepth 100000
open Go.Lib renaming hid→O
open Go.Value renaming int→U,slice→OA,bool→OC,string→OW,agg→Oo,tuple→Oq
open Go.IntKind renaming i64→Z,wrap_i64→OR,i64→Ob
open List renaming length→V,setIfInBounds_toArray→Y,set_cons_succ→X,set_cons_zero→J,getElem?_eq_getElem→OG,append_assoc→OK,getD_eq_getElem?_getD→OM,take_of_length_le→OQ,getElem_mem→OX,length_take→OY,drop_succ_cons→Od,length_append→Of,drop_nil→Ol
open Bool renaming false_and→OB,true_and→OF,and_false→OL,false_ne_true→OO,false_eq_true→Oe,eq_iff_iff→Oi
open Tryz renaming ntmps116→OD,func116→OE,prog→OI,ntmps81→OS,func81→OU,ntmps133→OV,func133→Oa,ntmps79→Og,func79→Oh,results72→Oj,ntmps39→Om,func39→On
open Go.Obj renaming cells→OH
open Nat renaming le_succ→OJ,le_refl→ON
open Go.Ending renaming returned→OP
open Go.Proofs.YthhijgcfbjcgiaaGreatDoor.bY renaming take→OT,step→Oc
open Option renaming getD_some→OZ
def qj (f:Int) (p:cQ):Bool:=jb p.qu (V p.sp)&&eC f p.num 0 (p.ms.map (·.m))
theorem D4 (f n:Int)(p:cQ):j7 f n p.g=(p.num==n&&qj f p):=by
 unfold j7 qj jb cQ.g;dsimp only;rw[Oi];simp only[Bool.and_eq_true,decide_eq_true_eq,beq_iff_eq];constructor
 ·rintro⟨⟨⟨⟨rfl,a⟩,b⟩,c⟩,d⟩
  exact⟨rfl,⟨⟨a,b⟩,c⟩,d⟩
 ·rintro⟨rfl,⟨⟨a,b⟩,c⟩,d⟩
  exact⟨⟨⟨⟨rfl,a⟩,b⟩,c⟩,d⟩
theorem zU (f:Int)(p:cQ)(w:World)(hf:f=0\/f=1)(hn:p.num∈aK f)(hg:km w p)(hs:ra p):
  Calls OI 39 #[U Z f,pg p] w λe w'=>e=OP (OC (qj f p))/\Below w.heap.size w w':=by
 obtain⟨num,qu,sp,sA,sc,ms,A,c⟩:=p;obtain⟨K5,dv,K3⟩:=hg;obtain⟨Ky,Kz,K4⟩:=hs;dsimp only at K5 dv K3 Ky Kz K4 hn;unfold qj pg;dsimp only;have Kv:=O dv;have KB:=O K3;have KF:=O K4;have K6:=O (And.intro hf hn);obtain⟨Hl,av⟩:∃b,(jb qu (V sp)&&eC f num 0 (ms.map (·.m)))=b:=⟨_,rfl⟩;rw[av];have C1:=O (λW (h:Below w.heap.size w W)=>uw qu sp sA (V sp) sc W (K5.below h) rfl);obtain⟨k,hk⟩:∃k,V sp=k:=⟨_,rfl⟩;obtain⟨L,hL⟩:∃L,V ms=L:=⟨_,rfl⟩;rw[hk] at C1 av;rw[hk,hL];have jg:=O av;have HL:=O hL;rw[hL] at Kz;have Ht:Below w.heap.size w (w.alloc (OH #[U Z num,U Z qu,OA sA k sc,OA A L c] 51)):=(Below.refl _ _).alloc (ON _) _;have Kw:=ab.new w 51 #[U Z num,U Z qu,OA sA k sc,OA A L c];have jY:=O Ht;have kU:=O Kw;have I:=O (C1.out _ Ht);generalize ak qu.toNat 5++dL sp=KK at I;clear K5 dv K3 Ky K4 hn hf av hk hL Ht Kw C1
 cases bM:jb qu k with
 |false=>
  have D:=jg.out;rw[bM,OB] at D;subst D;rw[bM] at I;simp only[Oe,if_false] at I;clear bM
  go_enter On,Om
  go_wp2_with (go_at_call 75;refine I.out.mono ?_;rintro e w2 ⟨rfl,rfl⟩)
  go_ret;exact⟨rfl,jY.out⟩
 |true=>
  rw[bM] at I;simp only[if_true] at I;have KD:Hid (eC f num 0 (ms.map (·.m))=Hl):=O (by rw[<-jg.out,bM,OF]);clear bM;obtain⟨gg,eE⟩:∃gg,w.heap.size=gg:=⟨_,rfl⟩;have KH:=O eE;rw[eE] at kU
  go_enter On,Om
  go_wp2_with (go_at_call 75;refine I.out.mono ?_;rintro e w2 ⟨rfl,rfl⟩)
  (try rw[eE]);generalize w.alloc (OH #[U Z num,U Z qu,OA sA k sc,OA A L c] 51)=W1 at jY kU⊢;clear eE I
  go_loopg [7,23] L (λgk la i=> λwr=>∃(j:Nat)(last:Int),j+gk=L/\i=U Z (j:Int)/\la=U Z last/\Hid (eC f num last ((ms.drop j).map (·.m))=Hl)/\Hid (Below w.heap.size w wr)/\Hid (ab wr gg 51 #[U Z num,U Z qu,OA sA k sc,OA A L c]))
  case atStart=>exact⟨0,0,by omega,rfl,rfl,KD,jY,kU⟩
  case round=>
   obtain⟨j,last,hj,rfl,rfl,HJ,HB,HG⟩:=hrel
   cases gk with
   |zero=>
    have KG:¬((j:Int)<(L:Int)):=(by omega);have D:=HJ.out;rw[List.drop_of_length_le (by have:=HL.out;omega)] at D;have D:true=Hl:=D;subst D;clear hj;go_wp2_with fail
    go_ret;exact⟨rfl,HB.out⟩
   |succ gk=>
    have KG:((j:Int)<(L:Int)):=(by omega);have KI:¬((j:Int)<0):=(by omega);have fJ:j<(V ms):=(by rw[HL.out];omega);obtain⟨ad,rfl,_,c0,c1,c2,c3,c4,c5,c6⟩:=iB (Kv.out.below HB.out) j fJ;have T:=OX fJ;have JT:ms.drop j=ms[j]::ms.drop (j+1):=List.drop_eq_getElem_cons fJ;obtain⟨⟨m,xs,Am,cm⟩,hm⟩:∃m,ms[j]=m:=⟨_,rfl⟩;rw[hm] at T JT c0 c1 c2 c3 c4 c5 c6;dsimp only at c0 c1 c2 c3 c4 c5 c6;have iP:=HJ.out;rw[JT,List.map_cons,eC] at iP;dsimp only at iP;have Hu:=(KB.out _ T).below HB.out;have dO:=(Below.refl _ wr).alloc (ON _) (OH #[U Z m.ad,U Z m.kd,U Z m.qu,U Z m.x,U Z m.y,U Z m.pa,OA Am (V xs) cm] 55);have CK:=O (qJ m xs Am cm _ Hu.e ((Hu.below dO).bks (KF.out _ T)));have rG:=O (ab.new wr 55 #[U Z m.ad,U Z m.kd,U Z m.qu,U Z m.x,U Z m.y,U Z m.pa,OA Am (V xs) cm]);have K:=O (HB.out.trans (dO.mono HB.out.size));have dy:=O (HG.out.below dO HG.out.lt);have KJ:Ob.wrap ((j:Int)+1)=(j:Int)+1:=(by rw[OR];omega);have Ku:=O iP;have KA:=O hj;unfold dU at CK;clear T JT hm iP Hu dO hj fJ HJ HB HG
    cases M:iU m with
    |false=>
     have D:=Ku.out;rw[M] at D;simp only[OB] at D;subst D;rw[M] at CK;simp only[Oe,if_false] at CK;clear M;go_wp2_with (go_at_call 76;refine CK.out.mono ?_;rintro e w3 ⟨rfl,C⟩;have G:=O (K.out.trans (C.mono K.out.size));clear C)
     go_ret;exact⟨rfl,G.out⟩
    |true=>
     rw[M] at CK;simp only[if_true] at CK;have cI:=(iO m).1 M;have D:=Ku.out;rw[M,OF] at D;have CF:=O (λW=>qV m Am (V xs) cm f num cI K6.out.1 K6.out.2 W);unfold dU at CF
     by_cases gj:last<m.ad
     ·have K0:¬(m.ad<=last):=by omega
      have Kx:decide (m.ad<=last)=false:=(by simpa using K0);rw[decide_eq_true gj,OF] at D;have Kt:=O D;clear M cI gj D
      cases aJ:iL f num m with
      |false=>
       have D:=Kt.out;rw[aJ,OB] at D;subst D;rw[aJ] at CF;clear aJ;go_wp2_with (first|(go_at_call 76;refine CK.out.mono ?_;rintro e w3 ⟨rfl,C⟩;have G:=O (K.out.trans (C.mono K.out.size));have B:=rG.out.below C (by simp);have z0:=B.cell 0;have z1:=B.cell 1;have z2:=B.cell 2;have z3:=B.cell 3;have z4:=B.cell 4;have z5:=B.cell 5;have z6:=B.cell 6;have cE:=dy.out.below C dy.out.lt;have q0:=cE.cell 0;(try dsimp only at z0 z1 z2 z3 z4 z5 z6 q0);clear C B cE)|(go_at_call 77;refine(CF.out _).mono ?_;rintro e w4 ⟨rfl,N⟩;have kA:=O (G.out.trans (N.mono G.out.size));clear N))
       go_ret;exact⟨rfl,kA.out⟩
      |true=>
       have D:=Kt.out;rw[aJ,OF] at D;have KE:=O D;rw[aJ] at CF;clear aJ D;go_wp2_with (first|(go_at_call 76;refine CK.out.mono ?_;rintro e w3 ⟨rfl,C⟩;have G:=O (K.out.trans (C.mono K.out.size));have B:=rG.out.below C (by simp);have K8:=O B;have z0:=B.cell 0;have z1:=B.cell 1;have z2:=B.cell 2;have z3:=B.cell 3;have z4:=B.cell 4;have z5:=B.cell 5;have z6:=B.cell 6;have cE:=dy.out.below C dy.out.lt;have K9:=O cE;have q0:=cE.cell 0;(try dsimp only at z0 z1 z2 z3 z4 z5 z6 q0);clear C B cE)|(go_at_call 77;refine(CF.out _).mono ?_;rintro e w4 ⟨rfl,N⟩;have kA:=O (G.out.trans (N.mono G.out.size));have y0:=(K8.out.below N K8.out.lt).cell 0;have KC:=O (K9.out.below N K9.out.lt);(try dsimp only at y0);clear N))
       go_roundg gk
       case measure=>omega
       case rel=>exact⟨j+1,m.ad,by have:=KA.out;omega,rfl,rfl,KE,kA,KC⟩
     ·have K0:m.ad<=last:=by omega
      have Kx:decide (m.ad<=last)=true:=(by simpa using K0);rw[decide_eq_false gj] at D;simp only[OB] at D;subst D;clear M cI gj;go_wp2_with (go_at_call 76;refine CK.out.mono ?_;rintro e w3 ⟨rfl,C⟩;have G:=O (K.out.trans (C.mono K.out.size));have B:=rG.out.below C (by simp);have z0:=B.cell 0;(try dsimp only at z0);clear C B)
      go_ret;exact⟨rfl,G.out⟩
theorem zM (intra:Bool)(w:World):Calls OI 135 #[OC intra] w λe w'=>e=OP (U Z (dl intra))/\w=w':=by
 cases intra
 all_goals
  go_enter Tryz.func135,Tryz.ntmps135
  go_wp2_with fail
  go_ret
  exact⟨rfl,rfl⟩
def wH (n:Int):Bool:=decide (1<=n)&&decide (n<=255)&&n !=128
theorem C5 (n:Int)(w:World):Calls OI 133 #[U Z n] w λe w'=>e=OP (OC (wH n))/\w=w':=by
 unfold wH
 cases a:decide (1<=n) with
 |false=>
  go_enter Oa,OV
  go_wp2_with fail
  go_ret;exact⟨rfl,rfl⟩
 |true=>
  cases b:decide (n<=255) with
  |false=>
   go_enter Oa,OV
   go_wp2_with fail
   go_ret;exact⟨rfl,rfl⟩
  |true=>
   cases c:(n !=128) with
   |false=>
    go_enter Oa,OV
    go_wp2_with fail
    go_ret;exact⟨rfl,rfl⟩
   |true=>
    go_enter Oa,OV
    go_wp2_with fail
    go_ret;exact⟨rfl,rfl⟩
theorem Fx (n:Int):(decide (n<1)||decide (255<n)||n==128)= !wH n:=by
 unfold wH;rw[Oi];simp
 try omega
theorem nu (dc:Int)(l:List (Int×Int))(A:Option Addr)(n c:Nat)(intra:Bool)(w:World)(hS:Sl w A (az bd l))(hn:V l=n)(hsz:n<=1099511627776):Calls OI 81 #[Oo #[U Z dc,OA A n c],OC intra] w λe w'=>e=OP (U Z (bP ⟨dc,l⟩ intra))/\Below w.heap.size w w':=by
 have bM:dl intra=0\/dl intra=1:=by cases intra;exact .inl rfl;exact .inr rfl
 have C1:=O (λW=>zM intra W);have C2:=O (λW hW=>x7 l A n c (dl intra) bM W hW hn hsz);have C3:=O (λW=>C5 dc W);unfold bP;dsimp only;rw[Fx];obtain⟨cb,aJ⟩:∃cb,wH dc=cb:=⟨_,rfl⟩;rw[aJ] at C3⊢;have cE:(l==[])=(n==0):=by cases l<;>simp at hn⊢<;>omega
 rw[cE];have HS:=O hS;have z0:=ab.new w 93 #[U Z dc,OA A n c];have b0:=(Below.refl _ w).alloc (ON _) (OH #[U Z dc,OA A n c] 93);have dy:=O z0;have M:=O b0;obtain⟨fr,K⟩:∃fr,dl intra=fr:=⟨_,rfl⟩;rw[K] at C1 C2⊢;obtain⟨sp,T⟩:∃sp,bG l fr=sp:=⟨_,rfl⟩;have av:=O T;rw[T];have G:=O (show ab (w.alloc (OH #[U Z dc,OA A n c] 93)).drew w.heap.size 93 #[U Z dc,OA A n c] from z0.drew1);have y0:=G.out.cell 0;have y1:=G.out.cell 1;(try dsimp only at y0 y1);have D:=O (show Below w.heap.size w (w.alloc (OH #[U Z dc,OA A n c] 93)).drew from b0.drew);clear hS hn aJ cE z0 b0 bM K T
 cases intra with
 |true=>
  cases cb with
  |false=>
   go_enter OU,OS
   go_wp2_with (go_at_call 133;refine(C3.out _).mono ?_;rintro e w' ⟨rfl,rfl⟩)
   go_ret;exact⟨rfl,M.out⟩
  |true=>
   go_enter OU,OS
   go_wp2_with (go_at_call 133;refine(C3.out _).mono ?_;rintro e w' ⟨rfl,rfl⟩)
   refine aP (λw'=>w'.cell? ⟨w.heap.size,0,none⟩=some (U Z dc)/\w'.cell? ⟨w.heap.size,1,none⟩=some (OA A n c)) 10 (OT 0 (OT 1 (OT 2 (Oc 3 (Oc 4 (OT 5 (OT 6 (OT 7 (Oc 8 (Oc 9 .done)))))))))) (⟨y0,y1⟩) (λPE I=>?_)
   iterate 3
    refine af (v:=?_) rfl (by rfl) ?_ ?_
    rotate_left
    ·intro _ B;(try dsimp only at B);obtain⟨s0,s1⟩:=B;go_simp;(try with_reducible rfl)
    simp only[Y,J,X]
   refine aG (f:=135) rfl (by rfl) (by first|(go_simp;done)|(go_simp;rfl)) (C1.out _) ?_;rintro e w2 ⟨rfl,rfl⟩;refine⟨_,rfl,_,λ_ h=>h,⟨y0,y1⟩,?_⟩;simp only[Y,J,X];refine aG (f:=134) rfl (by rfl) (by first|(go_simp;done)|(go_simp;rfl)) (C2.out _ (HS.out.below D.out)) ?_;rintro e w3 ⟨v,rfl,C,_,_⟩;rw[av.out];have j:=G.out.below C G.out.lt;have N:=O (D.out.trans (C.mono D.out.size));refine⟨_,rfl,_,λ_ h=>h,⟨j.cell 0,j.cell 1⟩,?_⟩;simp only[Y,J,X]
   iterate 3
    refine af (v:=?_) rfl (by rfl) ?_ ?_
    rotate_left
    ·intro _ B;(try dsimp only at B);go_simp;(try with_reducible rfl)
    simp only[Y,J,X]
   refine aj (v:=?_) (w':=?_) rfl (by rfl) ?_ ?_ ?_;rotate_left 2
   ·go_simp;(try (constructor<;>with_reducible rfl))
   ·exact⟨j.cell 0,j.cell 1⟩
   simp only[Y,J,X];refine aj (v:=?_) (w':=?_) rfl (by rfl) ?_ ?_ ?_;rotate_left 2
   ·go_simp;(try (constructor<;>with_reducible rfl))
   ·exact⟨j.cell 0,j.cell 1⟩
   simp only[Y,J,X];refine I _ _ ?_;clear I PE;simp only[Od,Ol];clear C j y0 y1;go_wp2_with fail
   refine⟨rfl,?_⟩;go_wp2_with fail
   go_ret;exact⟨rfl,N.out⟩
 |false=>
  cases hd:(dc !=0) with
  |true=>
   go_enter OU,OS
   go_wp2_with fail
   go_ret;exact⟨rfl,M.out⟩
  |false=>
   cases cI:(n==0) with
   |true=>
    have dv:((n:Int)==0)=true:=by simpa using cI
    go_enter OU,OS
    go_wp2_with fail
    go_ret;exact⟨rfl,M.out⟩
   |false=>
    have dv:((n:Int)==0)=false:=by simpa using cI
    go_enter OU,OS
    go_wp2_with fail
    refine aP (λw'=>w'.cell? ⟨w.heap.size,0,none⟩=some (U Z dc)/\w'.cell? ⟨w.heap.size,1,none⟩=some (OA A n c)) 10 (OT 0 (OT 1 (OT 2 (Oc 3 (Oc 4 (OT 5 (OT 6 (OT 7 (Oc 8 (Oc 9 .done)))))))))) (⟨y0,y1⟩) (λPE I=>?_)
    iterate 3
     refine af (v:=?_) rfl (by rfl) ?_ ?_
     rotate_left
     ·intro _ B;(try dsimp only at B);obtain⟨s0,s1⟩:=B;go_simp;(try with_reducible rfl)
     simp only[Y,J,X]
    refine aG (f:=135) rfl (by rfl) (by first|(go_simp;done)|(go_simp;rfl)) (C1.out _) ?_;rintro e w2 ⟨rfl,rfl⟩;refine⟨_,rfl,_,λ_ h=>h,⟨y0,y1⟩,?_⟩;simp only[Y,J,X];refine aG (f:=134) rfl (by rfl) (by first|(go_simp;done)|(go_simp;rfl)) (C2.out _ (HS.out.below D.out)) ?_;rintro e w3 ⟨v,rfl,C,_,_⟩;rw[av.out];have j:=G.out.below C G.out.lt;have N:=O (D.out.trans (C.mono D.out.size));refine⟨_,rfl,_,λ_ h=>h,⟨j.cell 0,j.cell 1⟩,?_⟩;simp only[Y,J,X]
    iterate 3
     refine af (v:=?_) rfl (by rfl) ?_ ?_
     rotate_left
     ·intro _ B;(try dsimp only at B);go_simp;(try with_reducible rfl)
     simp only[Y,J,X]
    refine aj (v:=?_) (w':=?_) rfl (by rfl) ?_ ?_ ?_;rotate_left 2
    ·go_simp;(try (constructor<;>with_reducible rfl))
    ·exact⟨j.cell 0,j.cell 1⟩
    simp only[Y,J,X];refine aj (v:=?_) (w':=?_) rfl (by rfl) ?_ ?_ ?_;rotate_left 2
    ·go_simp;(try (constructor<;>with_reducible rfl))
    ·exact⟨j.cell 0,j.cell 1⟩
    simp only[Y,J,X];refine I _ _ ?_;clear I PE;simp only[Od,Ol];clear C j y0 y1;go_wp2_with fail
    refine⟨rfl,?_⟩;go_wp2_with fail
    go_ret;exact⟨rfl,N.out⟩
theorem qC:∀(L:List (Int×Int))(p:Int×Int)(first:Bool),bR (L++[p]) first=bR L first++cw p (first&&L==[])
 |[],p,first=>by simp[bR]
 |q::L,p,first=>by
  show cw q first++bR (L++[p]) false=(cw q first++bR L false)++cw p (first&&false);rw[qC L p false,OL,OB,OK]
theorem EE (dc:Int)(l:List (Int×Int))(A:Option Addr)(n c:Nat)(intra:Bool)(w:World)(I:Sl w A (az bd l))(hn:V l=n)(K8:bP ⟨dc,l⟩ intra=0):Calls OI 122 #[Oo #[U Z dc,OA A n c],OC intra] w λe w'=>e=OP (Oq #[OW (bs (bN ⟨dc,l⟩ intra)),U Z 0])/\Below w.heap.size w w':=by
 obtain⟨K9,K5⟩:=qe K8;dsimp only at K9 K5;have KI:0<=dl intra/\dl intra<=1:=by cases intra<;>decide
 obtain⟨KJ,KK⟩:=kO l _ KI.1 (by omega) K9;have kA:n<=64:=by omega
 have CK:=O (λW hW=>nu dc l A n c intra W hW hn (by omega));rw[K8] at CK;have HS:=O I;have HN:=O hn;have Kx:=O KK;have cE:=O kA;have HL:=O (λj=>nV (l.take j) (!intra));have z0:=ab.new w 93 #[U Z dc,OA A n c];have b0:=(Below.refl _ w).alloc (ON _) (OH #[U Z dc,OA A n c] 93);have Hu:=O z0;have gj:=O b0;have KG:∀(W:World)(A:Option Addr)(l:List UInt8)(n c:Nat),Sl W A (l.map ag)->V l=n->(convert 25 9 (OA A n c)).run OI W= .ok (OW (bs l)) W:= λW A l n c h hn=>g8 (P:=OI) 25 9 5 (by kernel_rfl) (by kernel_rfl) (by kernel_rfl) h n c hn;have Kz:=O KG;obtain⟨D,hD⟩:∃D,(if intra then ak dc.toNat 8 else[])=D:=⟨_,rfl⟩;have KA:V D<=8:=by rw[<-hD];split;rw[bf];exact ON _;simp
 unfold bN;dsimp only;rw[hD];have HD:=O hD;have KO:=O K5;have iP:=O KA;clear KG I hn KK K9 K8 KJ KI z0 b0 hD K5 kA KA
 go_enter Tryz.func122,Tryz.ntmps122
 go_wp2_with fail
 refine(CK.out _ (HS.out.below gj.out)).mono ?_;rintro e w1 ⟨rfl,JT⟩;have K:=O (gj.out.trans (JT.mono gj.out.size));have T:=O (Hu.out.below JT Hu.out.lt);obtain⟨gz,K6⟩:∃gz,w.heap.size=gz:=⟨_,rfl⟩;rw[K6] at T⊢;have L4:=O K6;clear JT Hu gj CK K6
 have hM:∃M,V D=M/\M<=8/\(intra=true->M=8/\∃d:Nat,dc=(d:Int)/\d<256/\D=ak d 8)/\(intra=false->M=0):=by
  refine⟨V D,rfl,iP.out,λh=>?_,λh=>?_⟩
  ·have h1:=KO.out h
   have h2:=HD.out;rw[if_pos h] at h2;exact⟨by rw[<-h2,bf],dc.toNat,by omega,by omega,h2.symm⟩
  ·have h2:=HD.out
   rw[if_neg (by rw[h];decide)] at h2;rw[<-h2];rfl
 obtain⟨M,KC,KD,KF,KE⟩:=hM;have KQ:=O KC;have Kv:=O KF;have KR:=O KE;have L5:=O KD
 have Ku:Hid (∀j,j<V l->bR (l.take (j+1)) (!intra)=bR (l.take j) (!intra)++cw (l.getD j (0,0)) (!intra&&(j==0))):=O (λj hj=>by
  rw[List.take_add_one,OG hj,Option.toList_some,qC]
  have e:(l.take j==[])=(j==0):=by
   cases j with
   |zero=>rfl
   |succ j=>
    cases l with
    |nil=>simp at hj
    |cons p l=>rfl
  rw[e,OM,OG hj,OZ])
 clear KC KF KE KD;go_wp2_with fail
 go_loopg [7,8] M (λg t s=> λwx=>∃(q:Nat),q+g=M/\t=OW (bs (D.take q))/\s=U Z (7 - (q:Int))/\Hid (Below w1.heap.size w1 wx))
 case atStart=>exact⟨0,by omega,by simp[bs],by simp,O (Below.refl _ _)⟩
 case round=>
  obtain⟨q,hq,rfl,rfl,G⟩:=hrel;have z1:=T.out.below G.out T.out.lt;have y0:=z1.cell 0;have y1:=z1.cell 1;(try dsimp only at y0 y1)
  cases gk with
  |succ g=>
   cases intra with
   |false=>have:=KR.out rfl;omega
   |true=>
    obtain⟨h8,d,hd,K3,KB⟩:=Kv.out rfl;subst hd;obtain⟨r,hr⟩:∃r:Nat,7 - q=r:=⟨_,rfl⟩;have KL:7 - (q:Int)=(r:Int):=(by omega);have fJ:=um d 8 q (by omega);rw[show 8 - 1 - q=r by omega,<-KB] at fJ;obtain⟨L,hL⟩:∃L,D.take q=L:=⟨_,rfl⟩;have KW:V L<=8:=(by rw[<-hL,OY];have:=iP.out;omega);rw[hL] at fJ⊢;obtain⟨y,hy⟩:∃y,d / 2 ^ r=y:=⟨_,rfl⟩;have L9:((d:Int) / 2 ^ r)=(y:Int):=(by rw[<-hy];exact_mod_cast rfl);have KV:y<=d:=(by rw[<-hy];exact Nat.div_le_self _ _);have L8:(0:Int)<=(y:Int):=(by omega);have L0:(y:Int)<=4294967296:=(by omega);rw[hy] at fJ;rw[KL];have jY:0<=(r:Int):=(by omega);have KY:(r:Int)<=31:=(by omega);have KZ:(r:Int)<=64:=(by omega);have L7:(r:Int).toNat=r:=(by omega);have L6:¬((r:Int)<0):=(by omega);have KN:Ob.wrap ((r:Int) - 1)=(r:Int) - 1:=(by rw[OR];omega);have jg:=O fJ;have HQ:=O hq;have HR:=O hr;have Ky:=O (show q+1<=8 by omega);clear hL fJ hq hr KL hy KV KB h8 K3 z1
    by_cases hz:y % 2=0
    ·have KU:(y:Int) % 2=0:=by omega
     rw[if_pos hz] at jg;have KH:=Kz.out (wr.alloc (OH #[U .u8 48] 5)) (some ⟨wr.heap.size,0,none⟩) [48] 1 1 (ab.sl (ab.new wr 5 #[U .u8 48]) 0) rfl;clear hz;go_wp2_with fail
     go_roundg g
     case measure=>omega
     case rel=>exact⟨q+1,by have:=HQ.out;omega,by rw[jg.out],by rw[show (7:Int) - ((q+1:Nat):Int)=(r:Int) - 1 by have:=Ky.out;have:=HR.out;omega],O (G.out.alloc G.out.size _)⟩
    ·have KU:(y:Int) % 2=1:=by omega
     rw[if_neg hz] at jg;have KH:=Kz.out (wr.alloc (OH #[U .u8 49] 5)) (some ⟨wr.heap.size,0,none⟩) [49] 1 1 (ab.sl (ab.new wr 5 #[U .u8 49]) 0) rfl;clear hz;go_wp2_with fail
     go_roundg g
     case measure=>omega
     case rel=>exact⟨q+1,by have:=HQ.out;omega,by rw[jg.out],by rw[show (7:Int) - ((q+1:Nat):Int)=(r:Int) - 1 by have:=Ky.out;have:=HR.out;omega],O (G.out.alloc G.out.size _)⟩
  |zero=>
   obtain rfl:q=M:=by omega
   have jY:¬(intra=true/\0<=7 - (q:Int)):= λh=>by have:=(Kv.out h.1).1;omega
   have KM:D.take q=D:=OQ (by have:=KQ.out;omega);rw[KM];have Kw:Hid (D=D++bR (l.take 0) (!intra)):=O (by simp[bR]);clear KM hq
   cases intra with
   |true=>
    have KX:¬(0<=7 - (q:Int)):= λh=>jY ⟨rfl,h⟩;clear jY;go_wp2_with fail
    go_loopg [7,9] n (λg t s=> λwx=>∃(j:Nat),j+g=n/\t=OW (bs (D++bR (l.take j) (!true)))/\s=U Z (j:Int)/\Hid (Below w1.heap.size w1 wx))
    case atStart=>exact⟨0,by omega,by rw[<-Kw.out],rfl,G⟩
    case round=>
     clear y0 y1 z1 G;obtain⟨j,hj,rfl,rfl,G⟩:=hrel;have z1:=T.out.below G.out T.out.lt;have y0:=z1.cell 0;have y1:=z1.cell 1;(try dsimp only at y0 y1);have dy:=HL.out j;have K4:=iP.out;have Kt:(l.take j).length<=64:=(by rw[OY];have:=HN.out;have:=cE.out;omega);obtain⟨S,I⟩:∃S,D++bR (l.take j) (!true)=S:=⟨_,rfl⟩;have KT:V S<=1400:=(by rw[<-I,Of];omega);clear dy K4 Kt z1
     cases gk with
     |zero=>
      obtain rfl:j=n:=by omega
      have dO:¬((j:Int)<(j:Int)):=(by omega);have av:=I;rw[OQ (by have:=HN.out;omega)] at av;rw[I];have Hl:=O av;have kU:=O (K.out.trans (G.out.mono K.out.size));clear I av hj;go_wp2_with fail
      go_ret2;refine⟨?_,kU.out⟩;have e:D++(bR l false++bz)=S++bz:=(by rw[<-Hl.out,OK];rfl);rw[e];show Ending.returned (Oq #[OW (bs S++bs bz),U Z 0])=_;rw[eL]
     |succ g=>
      have dO:((j:Int)<(n:Int)):=(by omega);have C:j<(V l):=(by have:=HN.out;omega);obtain⟨ad,rfl,_,c0,c1⟩:=fH (HS.out.below (K.out.trans (G.out.mono K.out.size))) j C;have B:=Ku.out j C;have bM:=Kx.out l[j] (OX C);rw[show l.getD j (0,0)=l[j] by rw[OM,OG C,OZ]] at B;obtain⟨⟨p1,p2⟩,eE⟩:∃p,l[j]=p:=⟨_,rfl⟩;rw[eE] at c0 c1 B bM;dsimp only at c0 c1;have dv:((j:Int)==0)=(j==0):=(by cases j<;>simp<;>omega);obtain⟨b,hb⟩:∃b,((j:Int)==0)=b:=⟨_,rfl⟩;rw[dv] at hb;rw[hb] at B;rw[hb] at dv;have CP:=O (λW=>uQ p1 p2 false W bM);rw[Bj] at CP;obtain⟨cp,aJ⟩:∃cp,cw (p1,p2) false=cp:=⟨_,rfl⟩;have K0:=qg (p1,p2) false;rw[aJ] at CP K0;have N:bR (l.take (j+1)) (!true)=bR (l.take j) (!true)++cp:=(by rw[B,<-aJ];rfl);have rG:=O (show S++cp=D++bR (l.take (j+1)) (!true) by rw[N,<-OK,I]);rw[I];have HJ:=O hj;have KN:Ob.wrap ((j:Int)+1)=(j:Int)+1:=(by have:=cE.out;rw[OR];omega);clear I B N aJ bM eE C hj hb;go_wp2_with (go_at_call 173;refine(CP.out _).mono ?_;rintro e w3 ⟨rfl,cI⟩;have Ht:=O (G.out.trans (cI.mono G.out.size));clear cI)
      go_roundg g
      case measure=>omega
      case rel=>exact⟨j+1,by have:=HJ.out;omega,by rw[rG.out],rfl,Ht⟩
   |false=>
    clear jY;go_wp2_with fail
    go_loopg [7,9] n (λg t s=> λwx=>∃(j:Nat),j+g=n/\t=OW (bs (D++bR (l.take j) (!false)))/\s=U Z (j:Int)/\Hid (Below w1.heap.size w1 wx))
    case atStart=>exact⟨0,by omega,by rw[<-Kw.out],rfl,G⟩
    case round=>
     clear y0 y1 z1 G;obtain⟨j,hj,rfl,rfl,G⟩:=hrel;have z1:=T.out.below G.out T.out.lt;have y0:=z1.cell 0;have y1:=z1.cell 1;(try dsimp only at y0 y1);have dy:=HL.out j;have K4:=iP.out;have Kt:(l.take j).length<=64:=(by rw[OY];have:=HN.out;have:=cE.out;omega);obtain⟨S,I⟩:∃S,D++bR (l.take j) (!false)=S:=⟨_,rfl⟩;have KT:V S<=1400:=(by rw[<-I,Of];omega);clear dy K4 Kt z1
     cases gk with
     |zero=>
      obtain rfl:j=n:=by omega
      have dO:¬((j:Int)<(j:Int)):=(by omega);have av:=I;rw[OQ (by have:=HN.out;omega)] at av;rw[I];have Hl:=O av;have kU:=O (K.out.trans (G.out.mono K.out.size));clear I av hj;go_wp2_with fail
      go_ret2;refine⟨?_,kU.out⟩;have e:D++(bR l true++bz)=S++bz:=(by rw[<-Hl.out,OK];rfl);rw[e];show Ending.returned (Oq #[OW (bs S++bs bz),U Z 0])=_;rw[eL]
     |succ g=>
      have dO:((j:Int)<(n:Int)):=(by omega);have C:j<(V l):=(by have:=HN.out;omega);obtain⟨ad,rfl,_,c0,c1⟩:=fH (HS.out.below (K.out.trans (G.out.mono K.out.size))) j C;have B:=Ku.out j C;have bM:=Kx.out l[j] (OX C);rw[show l.getD j (0,0)=l[j] by rw[OM,OG C,OZ]] at B;obtain⟨⟨p1,p2⟩,eE⟩:∃p,l[j]=p:=⟨_,rfl⟩;rw[eE] at c0 c1 B bM;dsimp only at c0 c1;have dv:((j:Int)==0)=(j==0):=(by cases j<;>simp<;>omega);obtain⟨b,hb⟩:∃b,((j:Int)==0)=b:=⟨_,rfl⟩;rw[dv] at hb;rw[hb] at B;rw[hb] at dv;have CP:=O (λW=>uQ p1 p2 b W bM);rw[Bj] at CP;obtain⟨cp,aJ⟩:∃cp,cw (p1,p2) b=cp:=⟨_,rfl⟩;have K0:=qg (p1,p2) b;rw[aJ] at CP K0;have N:bR (l.take (j+1)) (!false)=bR (l.take j) (!false)++cp:=(by rw[B,<-aJ];rfl);have rG:=O (show S++cp=D++bR (l.take (j+1)) (!false) by rw[N,<-OK,I]);rw[I];have HJ:=O hj;have KN:Ob.wrap ((j:Int)+1)=(j:Int)+1:=(by have:=cE.out;rw[OR];omega);clear I B N aJ bM eE C hj hb;go_wp2_with (go_at_call 173;refine(CP.out _).mono ?_;rintro e w3 ⟨rfl,cI⟩;have Ht:=O (G.out.trans (cI.mono G.out.size));clear cI)
      go_roundg g
      case measure=>omega
      case rel=>exact⟨j+1,by have:=HJ.out;omega,by rw[rG.out],rfl,Ht⟩
theorem FN {l:List UInt8}{i:Int}{first:Bool}(h:(nZ l i first).2.2.2≠0):(nZ l i first).2.1=false:=by
 unfold nZ at h⊢;dsimp only at h⊢
 split
 ·rfl
 split
 ·rename_i j h2
  rw[if_neg j,if_pos h2] at h;exact absurd rfl h
 split
 ·split
  ·rfl
  ·split<;>rfl
 ·split<;>rfl
structure jS (l:List UInt8) (i:Int) (f0:Bool) (left0:Int) (L:List (Int×Int)) (p a:Int):Prop where
 p0:0<=p
 p1:p<=9223372036854775807
 p8:p<=8*(V l:Int)\/p=i
 a0:(V L:Int)<=a
 a1:a<=64
 eq:bp l 66 i f0 left0=(L++(bp l (66 - V L) p (f0&&(V L)==0) (64 - a)).1,(bp l (66 - V L) p (f0&&(V L)==0) (64 - a)).2)
theorem ju (l:List UInt8)(f:Nat)(i:Int)(first:Bool)(left:Int):bp l (f+1) i first left=
  (let r:=aS l i first
  if r.2.1 then([],i+r.2.2.1,0) else if r.2.2.2 !=0 then([],0,r.2.2.2) else
  if left - (r.1.1+1)<0 then([],0,11) else
  let q:=bp l f (i+r.2.2.1) false (left - (r.1.1+1))
  (r.1::q.1,q.2.1,q.2.2)):=rfl
theorem jS.open {l:List UInt8}{i:Int}{j:Bool}{left0:Int}{L:List (Int×Int)}{p a:Int}(h:jS l i j left0 L p a):∃g,66 - V L=g+1/\65 - V L=g:=⟨65 - V L,by have:=h.a0;have:=h.a1;omega,rfl⟩
theorem jS.err {l:List UInt8}{i:Int}{j:Bool}{left0:Int}{L:List (Int×Int)}{p a I K bt er:Int}{C:Bool}(h:jS l i j left0 L p a)(D:aS l p (j&&(V L)==0)=((I,K),C,bt,er))(he:er≠0):bp l 66 i j left0=(L,0,er):=by
 obtain⟨g,G,_⟩:=h.open;have B:=h.eq
 have h2:C=false:=by
  have:= @FN l p (j&&(V L)==0);rw[G8,D] at this;exact this he
 rw[G,ju l g p,D] at B;dsimp only at B;rw[h2,if_neg OO,if_pos (by simpa using he)] at B
 simpa using B
theorem jS.stop {l:List UInt8}{i:Int}{B:Bool}{left0:Int}{L:List (Int×Int)}{p a G I bt:Int}(h:jS l i B left0 L p a)(C:aS l p (B&&(V L)==0)=((G,I),true,bt,0)):bp l 66 i B left0=(L,p+bt,0):=by
 obtain⟨g,D,_⟩:=h.open;have j:=h.eq;rw[D,ju l g p,C] at j;dsimp only at j;rw[if_pos rfl] at j
 simpa using j
theorem jS.over {l:List UInt8}{i:Int}{B:Bool}{left0:Int}{L:List (Int×Int)}{p a C I bt:Int}(h:jS l i B left0 L p a)(D:aS l p (B&&(V L)==0)=((C,I),false,bt,0))(K:63<a+C):bp l 66 i B left0=(L,0,11):=by
 obtain⟨g,G,_⟩:=h.open;have j:=h.eq;rw[G,ju l g p,D] at j;dsimp only at j;rw[if_neg OO,if_neg (by decide),if_pos (by omega)] at j
 simpa using j
theorem jS.ok {l:List UInt8}{i:Int}{B:Bool}{left0:Int}{L:List (Int×Int)}{p a G T bt:Int}{I:Bool}(h:jS l i B left0 L p a)(_hi8:8*(V l:Int)<=9223372036854775807)(j:aS l p (B&&(V L)==0)=((G,T),I,bt,0)):
  1<=bt/\p+bt<=8*(V l:Int)/\(I=false->0<=G/\G<=63):=by
 have N:p<=8*(V l:Int):=by
  rcases Int.lt_or_le (8*(V l:Int)) p with C|C
  ·exfalso
   have M:=h.p0;unfold aS at j;rw[if_neg (by omega),if_pos C] at j;injection j with _ j;injection j with _ j;injection j with _ j
   cases j
  ·exact C
 have:=lO l p (B&&(V L)==0) h.p0 N;rw[j] at this;obtain⟨q0,q1,K,D,_⟩:=this;dsimp only at q0 q1 K D;have M:=h.p0;exact⟨K rfl,by omega,λhe=>⟨(D rfl he).1,(D rfl he).2.1⟩⟩
theorem jS.next {l:List UInt8}{i:Int}{C:Bool}{left0:Int}{L:List (Int×Int)}{p a j I bt:Int}(h:jS l i C left0 L p a)(G:8*(V l:Int)<=9223372036854775807)(K:aS l p (C&&(V L)==0)=((j,I),false,bt,0))(ho:¬63<a+j):jS l i C left0 (L++[(j,I)]) (p+bt) (a+j+1):=by
 obtain⟨b1,M,N⟩:=h.ok G K;have b4:=N rfl;obtain⟨g,hg,aJ⟩:=h.open;have D:=h.eq;rw[hg,ju l g p,K] at D;dsimp only at D;rw[if_neg OO,if_neg (by decide),if_neg (by omega)] at D;have B:(L++[(j,I)]).length=V L+1:=by simp
 have h0:=h.p0;have av:=h.a0;refine⟨by omega,by omega,.inl M,by rw[B];omega,by omega,?_⟩;have T:66 - (V L+1)=g:=by omega
 have e2:(C&&(V L)+1==0)=false:=by simp
 have e3:64 - (a+j+1)=64 - a - (j+1):=by omega
 rw[B,T,e2,e3,D];simp
def je (t:Bool) (n lo j:Int):Bool:=if t then decide (lo<=n)&&decide (n<=j) else n==0
theorem jH (t:Bool)(n lo j:Int)(w:World):Calls OI 79 #[OC t,U Z n,U Z lo,U Z j] w λe w'=>e=OP (OC (je t n lo j))/\w=w':=by
 cases t with
 |false=>
  unfold je;rw[if_neg OO]
  go_enter Oh,Og
  go_wp2_with fail
  go_ret;exact⟨rfl,rfl⟩
 |true=>
  unfold je;rw[if_pos rfl]
  cases a:decide (lo<=n) with
  |false=>
   go_enter Oh,Og
   go_wp2_with fail
   go_ret;exact⟨rfl,rfl⟩
  |true=>
   go_enter Oh,Og
   go_wp2_with fail
   go_ret;exact⟨rfl,rfl⟩
theorem zO (x:bA)(ad:Int)(w:World):Calls OI 116 #[Oo #[U Z x.ad,OC x.had,U Z x.x,U Z x.y],U Z ad] w λe w'=>e=OP (OC (da x ad))/\Below w.heap.size w w':=by
 obtain⟨la,lh,j,B⟩:=x;unfold da aA;dsimp only;have C:=O ((Below.refl _ w).alloc (ON _) (OH #[U Z la,OC lh,U Z j,U Z B] 102))
 by_cases a1:la<0
 ·have e1:decide (la<0)=true:=decide_eq_true a1
  have D:decide (0<=la)=false:=(by simp;omega);rw[D];simp only[OB];clear a1 D
  go_enter OE,OD
  go_wp2_with fail
  go_ret;exact⟨rfl,C.out⟩
 have e1:decide (la<0)=false:=decide_eq_false a1;have D:decide (0<=la)=true:=by simp;omega
 rw[D];clear a1 D
 by_cases a2:la<ad
 ·have e2:decide (ad<=la)=false:=by simp;omega
  have G:decide (la<ad)=true:=decide_eq_true a2;rw[G];clear a2 G
  by_cases N:j< -15
  ·have e3:decide (j< -15)=true:=decide_eq_true N
   have f3:decide (-15<=j)=false:=(by simp;omega);rw[f3];simp only[OB,OL,OF];clear N f3
   go_enter OE,OD
   go_wp2_with fail
   go_ret;exact⟨rfl,C.out⟩
  have e3:decide (j< -15)=false:=decide_eq_false N;have f3:decide (-15<=j)=true:=(by simp;omega);rw[f3];clear N f3
  by_cases T:15<j
  ·have e4:decide (15<j)=true:=decide_eq_true T
   have I:decide (j<=15)=false:=(by simp;omega);rw[I];simp only[OB,OL,OF];clear T I
   go_enter OE,OD
   go_wp2_with fail
   go_ret;exact⟨rfl,C.out⟩
  have e4:decide (15<j)=false:=decide_eq_false T;have I:decide (j<=15)=true:=(by simp;omega);rw[I];clear T I
  by_cases a5:B< -15
  ·have e5:decide (B< -15)=true:=decide_eq_true a5
   have K:decide (-15<=B)=false:=(by simp;omega);rw[K];simp only[OB,OL,OF];clear a5 K
   go_enter OE,OD
   go_wp2_with fail
   go_ret;exact⟨rfl,C.out⟩
  have e5:decide (B< -15)=false:=decide_eq_false a5;have K:decide (-15<=B)=true:=(by simp;omega);rw[K];clear a5 K
  by_cases a6:15<B
  ·have e6:decide (15<B)=true:=decide_eq_true a6
   have M:decide (B<=15)=false:=(by simp;omega);rw[M];simp only[OB,OL,OF];clear a6 M
   go_enter OE,OD
   go_wp2_with fail
   go_ret;exact⟨rfl,C.out⟩
  have e6:decide (15<B)=false:=decide_eq_false a6;have M:decide (B<=15)=true:=(by simp;omega);rw[M];clear a6 M
  cases lh with
  |true=>
   go_enter OE,OD
   go_wp2_with fail
   go_ret;exact⟨rfl,C.out⟩
  |false=>
   cases a7:(j==0) with
   |true=>
    go_enter OE,OD
    go_wp2_with fail
    go_ret;exact⟨rfl,C.out⟩
   |false=>
    go_enter OE,OD
    go_wp2_with fail
    go_ret;exact⟨rfl,C.out⟩
 ·have e2:decide (ad<=la)=true:=by simp;omega
  have G:decide (la<ad)=false:=decide_eq_false a2;rw[G];simp only[OB,OL];clear a2 G
  go_enter OE,OD
  go_wp2_with fail
  go_ret;exact⟨rfl,C.out⟩
theorem zN (m:aX)(A:Option Addr)(n c:Nat)(w:World):Calls OI 72 #[Oo #[U Z m.ad,U Z m.kd,U Z m.qu,U Z m.x,U Z m.y,U Z m.pa,OA A n c]] w λe w'=>e=OP (Oo #[U Z (dT m).ad,OC (dT m).had,U Z (dT m).x,U Z (dT m).y])/\Below w.heap.size w w':=by
 obtain⟨ad,kd,qu,mx,my,pa,bl⟩:=m;have I:=O (λW=>ox kd W);have hb:=((Below.refl _ w).alloc (ON _) (OH #[U Z ad,U Z kd,U Z qu,U Z mx,U Z my,U Z pa,OA A n c] 55)).alloc (by simp) (OH #[U Z 0,OC false,U Z 0,U Z 0] 102)
 have hc:aa [(w.heap.size,55,#[U Z ad,U Z kd,U Z qu,U Z mx,U Z my,U Z pa,OA A n c]),(w.heap.size+1,102,#[U Z 0,OC false,U Z 0,U Z 0])] ((w.alloc (OH #[U Z ad,U Z kd,U Z qu,U Z mx,U Z my,U Z pa,OA A n c] 55)).alloc (OH #[U Z 0,OC false,U Z 0,U Z 0] 102)):=
  aa.cons ((ab.new w _ _).alloc _) (aa.cons (aE (ab.new _ _ _) (by simp)) (ai _))
 have HB:=O hb;have HC:=O hc;unfold dT;dsimp only;obtain⟨v,hv⟩:∃v,pV kd=v:=⟨_,rfl⟩;unfold lY rx at I;obtain⟨oe,N⟩:∃oe:Int,(if eT kd then 0 else 18)=oe:=⟨_,rfl⟩;rw[hv] at I⊢;rw[N] at I;clear hb hc hv N
 go_enter Tryz.func72,Tryz.ntmps72
 go_wp2_with fail
 refine(I.out _).mono ?_;rintro e w1 ⟨rfl,D⟩;have G:=HB.out.trans (D.mono HB.out.size);have K:=O (G.alloc G.size (OH #[OC (pI kd),OC (pQ kd),OC v,OC (pF kd),OC (pC kd)] 110));have B:=(HC.out.below D).alloc (OH #[OC (pI kd),OC (pQ kd),OC v,OC (pF kd),OC (pC kd)] 110);have M:=O B;have x6:=B.head;have C:=B.tail.head;have u0:=x6.cell 0;have u1:=x6.cell 3;have u2:=x6.cell 4;have v0:=C.cell 0;have v1:=C.cell 1;have v2:=C.cell 2;have v3:=C.cell 3;have f0:=C.frozen 0;have f1:=C.frozen 1;have f2:=C.frozen 2;have f3:=C.frozen 3;(try dsimp only at u0 u1 u2 v0 v1 v2 v3 f0 f1 f2 f3);clear D G B x6 C I
 cases v with
 |true=>
  go_wp2_with fail
  have j:=((((M.out.tail.head.set_ 0 (U Z ad)).set_ 1 (OC true)).set_ 2 (U Z mx)).set_ 3 (U Z my));have T:=j.cell 0;have s1:=j.cell 1;have s2:=j.cell 2;have s3:=j.cell 3;simp at T s1 s2 s3;refine bodyPost_ret (by simp[results,Oj,go_sem,T,s1,s2,s3];try rfl) rfl ?_;exact⟨rfl,(((K.out.setCell (p:=⟨w.heap.size+1,0,none⟩) (OJ _) _).setCell (p:=⟨w.heap.size+1,1,none⟩) (OJ _) _).setCell (p:=⟨w.heap.size+1,2,none⟩) (OJ _) _).setCell (p:=⟨w.heap.size+1,3,none⟩) (OJ _) _⟩
 |false=>
  go_wp2_with fail
  have j:=((((M.out.tail.head.set_ 0 (U Z ad)).set_ 1 (OC false)).set_ 2 (U Z 0)).set_ 3 (U Z 0));have T:=j.cell 0;have s1:=j.cell 1;have s2:=j.cell 2;have s3:=j.cell 3;simp at T s1 s2 s3;refine bodyPost_ret (by simp[results,Oj,go_sem,T,s1,s2,s3];try rfl) rfl ?_;exact⟨rfl,(((K.out.setCell (p:=⟨w.heap.size+1,0,none⟩) (OJ _) _).setCell (p:=⟨w.heap.size+1,1,none⟩) (OJ _) _).setCell (p:=⟨w.heap.size+1,2,none⟩) (OJ _) _).setCell (p:=⟨w.heap.size+1,3,none⟩) (OJ _) _⟩
end Go.Proofs.YthhijgcfbjcgiaaGreatDoor
