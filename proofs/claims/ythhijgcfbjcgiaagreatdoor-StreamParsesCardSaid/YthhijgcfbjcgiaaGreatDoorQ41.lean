/- BPut, MPut -/
import Derived.Test.YthhijgcfbjcgiaaGreatDoorQ27
import Derived.Test.YthhijgcfbjcgiaaGreatDoorQ40
import Derived.Test.YthhijgcfbjcgiaaGreatDoorQ33
namespace Go.Proofs.YthhijgcfbjcgiaaGreatDoor
open Go Go.RowKit
attribute [local go_sem] Oper.semAt_some
set_option maxHeartbeats 16000000
set_option maxRecDepth 100000
open Go.Lib renaming hid→O,IsBuilder→OF,BuilderAt→Ou,join→Ow
open Go.Value renaming int→U,bool→X,slice→J,string→OA,pointer→OH
open Go.IntKind renaming i64→Z,wrap_i64→OL,i64→OU
open List renaming length→V,length_append→Y,length_map→OC,append_assoc→OG,map_append→OI,setIfInBounds_toArray→OM,getElem?_map→OO,take_of_length_le→OP,all_eq_true→OQ,getElem_mem→OR,append_nil→OS,mem_of_getElem?→OT,set_cons_succ→OV,set_cons_zero→OW,take_add_one→OY,drop_eq_getElem_cons→OZ,length_cons→Ob,drop_eq_nil_of_le→Od,getElem?_range→Oe,flatten_cons→Ol,length_take→On,map_map→Ox
open Go.Obj renaming cells→OB
open Nat renaming le_of_lt→OD,le_refl→OE,lt_of_lt_of_le→OJ,eq_zero_or_pos→Of,le_trans→Og,lt_or_ge→Oy,zero_add→Oz
open Tryz renaming prog→ON,Builder_String_any→Oc,ntmps63→Oh,func63→Om,ntmps112→Ov,func112→O0
open Go.Ending renaming returned→OX
open Bool renaming and_eq_true→Oa,or_eq_true→Oq
open Go.Proofs.YthhijgcfbjcgiaaGreatDoor.cb renaming take→Oi
open Int renaming toNat_natCast→Oj
open Go.World renaming size_alloc→Oo,drew→Ot
theorem mT:∀(l:List (Int×Int))(a:Int),0<=a->a<=64->cI l a=0->(V l:Int)+a<=64/\∀p∈l,gu p=true
 |[],a,h0,h1,_=>⟨by simpa using h1,λp B=>by cases B⟩
 |p::l,a,h0,h1,h=>by
  rw[rb] at h
  split at h
  ·omega
  ·rename_i c1
   split at h
   ·omega
   ·rename_i c2
    simp only[Oq,Bool.not_eq_true',beq_iff_eq,decide_eq_true_eq,not_or,Bool.and_eq_false_iff,decide_eq_false_iff_not] at c1 c2;obtain⟨i1,C⟩:=mT l (a+p.1+1) (by omega) (by omega) h;refine⟨by simp only[Ob];omega,λq j=>?_⟩;rcases List.mem_cons.1 j with rfl|j
    ·simp only[gu,Oa,decide_eq_true_eq,bne_iff_ne,ne_eq]
     omega
    ·exact C q j
theorem tL {x:bH}{intra:Bool}(h:dl x intra=0):cI x.l (eB intra)=0/\(intra=true->1<=x.dc/\x.dc<=255):=by
 unfold dl at h
 split at h
 ·omega
 ·rename_i c1
  split at h
  ·omega
  ·refine⟨h,λj=>?_⟩
   subst j;simp only[Bool.true_and,Oq,beq_iff_eq,decide_eq_true_eq,not_or] at c1;omega
theorem kI (p:Int×Int)(f:Bool):(dA p f).length<=21:=by
 unfold dA
 split
 ·simp[pl,aD,eh]
 ·have h:=oG p (aQ f) (yJ f)
  rw[Y];have h2:(if p.2<0 then[(49:UInt8)] else[48]).length=1:=(by split<;>rfl);omega
theorem FV (d j:Nat)(h:j<8):(aD d 8).take (j+1)=(aD d 8).take j++[if d / 2 ^ (7 - j) % 2=0 then 48 else 49]:=by
 rw[OY];congr 1
 have B:(aD d 8)[j]? =some (if d / 2 ^ (7 - j) % 2=0 then 48 else 49):=by
  unfold aD;rw[OO,Oe h];rfl
 rw[B];rfl
theorem Ie (d j:Nat):(48:Int)+((d / 2 ^ j % 2:Nat):Int)=(((if d / 2 ^ j % 2=0 then 48 else 49:UInt8).toNat:Nat):Int):=by
 have h:d / 2 ^ j % 2=0\/d / 2 ^ j % 2=1:=by omega
 rcases h with h|h<;>rw[h]<;>rfl
theorem si {T e:TypeId}{B b:Nat}{p:Value}{cs:List Value}{w w':World}(h:Ou T e B b p cs w)(D:Below w.heap.size w w'):Ou T e B b p cs w':=by
 have hl:=h.lt;obtain⟨G,v,j,I,C⟩:=h;exact⟨G,v,(D.block b hl).trans j,cC I D (OE _),C⟩
theorem gL {T e:TypeId}{B b:Nat}{cs:List Value}{w w':World}(h:OF T e B b cs w)(j:Below w.heap.size w w'):OF T e B b cs w':=by
 rcases h with h|h
 ·exact .inl (si h j)
 ·exact .inr (si h j)
theorem l7 {w W j:World}{p:aL}{B:Nat}(h:ar w [p] [] W)(C:Below B W j)(D:w.heap.size<=B)(h2:p.1<B):ar w [p] [] j:=
 ⟨h.1.trans (C.mono D),aa.cons (h.2.1.head.below C h2) (ag _),aA _⟩
theorem D4 (x:bH)(A:Option Addr)(n c:Nat)(intra:Bool)(w:World)(hS:Sl w A (av bj x.l))(hn:V x.l=n)(hc:dl x intra=0)(hT:Tz w)(hs:Ts w):
  Calls ON 112 #[.agg #[U Z x.dc,J A n c],X intra] w λe w'=>e=OX (.tuple #[OA (bs (cP x intra)),U Z 0])/\Below w.heap.size w w':=by
 obtain⟨KQ,KM⟩:=tL hc;have KN:0<=eB intra/\eB intra<=1:=by cases intra<;>decide
 obtain⟨L0,KO⟩:=mT x.l (eB intra) KN.1 (by omega) KQ;have L4:n<=64:=by omega
 have C1:=O (λW hW=>qJ x A n c intra W hW hn (by omega));rw[hc] at C1;obtain⟨BP,K6⟩:∃BP,cP x intra=BP:=⟨_,rfl⟩;rw[K6];unfold cP at K6;obtain⟨dc,l⟩:=x;dsimp only at*;have HS:=O hS;have HN:=O hn;have HT:=O hT;have Hs:=O hs;have KL:=O KO;have K3:=O K6;clear hS hn hT hs KO K6 hc KQ KN L0;have hX:ab (w.alloc (OB #[U Z dc,J A n c] 93)) w.heap.size 93 #[U Z dc,J A n c]:=ab.new w _ _;have HX:=O hX;have eE:=O ((Below.refl w.heap.size w).alloc (OE _) (OB #[U Z dc,J A n c] 93));have K5:=O (HS.out.below eE.out);clear hX
 cases intra with
 |false=>
  simp only[Bool.not_false,Bool.false_eq_true,if_false,List.nil_append] at K3;clear KM
  go_enter O0,Ov
  go_wp2_with (go_at_call 130;refine(C1.out _ K5.out).mono ?_;rintro e w2 ⟨rfl,kz⟩;have dD:=O (HX.out.below kz HX.out.lt);have fW:=O (eE.out.trans (kz.mono eE.out.size));clear kz;have hz:=dD.out.alloc (OB #[OH none,J none 0 0] 174);have x0:=hz.cell 0;have x1:=hz.cell 1;clear hz)
  obtain⟨b,hb⟩:∃b,w2.heap.size=b:=⟨_,rfl⟩;have ja:ar w [(w.heap.size,93,#[U Z dc,J A n c])] [] (w2.alloc (OB #[OH none,J none 0 0] 174)):=⟨fW.out.alloc fW.out.size _,aa.cons (dD.out.alloc _) (ag _),aA _⟩;have jT:OF 174 5 b b [] (w2.alloc (OB #[OH none,J none 0 0] 174)):=hb▸qm w2;have Io:(w2.alloc (OB #[OH none,J none 0 0] 174)).heap.size=b+1:=(by rw[Oo,hb]);have K2:w.heap.size<b:=hb▸dD.out.lt;rw[hb];clear x0 x1;generalize w2.alloc (OB #[OH none,J none 0 0] 174)=W0 at ja jT Io⊢;have Kr:=O ja;have KE:=O jT;have KG:=O Io;have M:=O K2;clear hb ja jT Io K2 dD fW HX eE K5 C1
  go_loopg [35] n (λg v=> λwr=>∃(j:Nat)(B:List UInt8),j+g=n/\v=U Z (j:Int)/\V B<=8+21*j/\Hid (B++(eA (l.drop j) (if j=0 then true else false)++bD)=BP)/\Hid (OF 174 5 b b (B.map af) wr)/\Hid (ar w [(w.heap.size,93,#[U Z dc,J A n c])] [] wr)/\Hid (b<wr.heap.size))
  case atStart=>exact⟨0,[],by omega,rfl,by simp,O (by rw[<-K3.out];simp),KE,Kr,O (by rw[KG.out];omega)⟩
  case round=>
   obtain⟨j,B,hj,rfl,dY,HA,HI,HC,HZ⟩:=hrel
   cases gk with
   |zero=>
    have KK:j=n:=(by omega);subst KK;have K0:¬((j:Int)<(j:Int)):=(by omega);have K8:Hid (Calls ON 153 #[OH (some ⟨b,0,none⟩)] wr λe w'=>e=OX (OA (bs B))/\Below b wr w'):=O (Oc b b B wr HI.out (by have:=HZ.out;omega));have KX:V B<=1352:=(by omega);have KY:V bD=2:=rfl;have KZ:V B+V bD<=1354:=(by omega);have HE:=O (show B++bD=BP by have h:=HA.out;rw[Od (by rw[HN.out];omega)] at h;exact h);go_wp2_with (first|(go_at_call 153;refine K8.out.mono ?_;rintro e w' ⟨rfl,J2⟩;have K9:=O J2;clear J2)|(go_at_call 166;refine(uI _).mono ?_;rintro e w' ⟨rfl,rfl⟩))
    go_ret2;refine⟨?_,HC.out.1.trans (K9.out.mono (by have:=HZ.out;have:=M.out;omega))⟩;rw[<-HE.out,<-uG];rfl
   |succ g=>
    have K0:((j:Int)<(n:Int)):=(by omega);have wj:j<(V l):=(by rw[HN.out];omega);obtain⟨ad,rfl,KV,c0,c1⟩:=jj (HS.out.below HC.out.1) j wj;have Iq:=O (KL.out l[j] (OR _));have HD:=O (OZ wj);obtain⟨⟨p1,p2⟩,K1⟩:∃p,l[j]=p:=⟨_,rfl⟩;rw[K1] at c0 c1 Iq HD;dsimp only at c0 c1;have KR:OU.wrap ((j:Int)+1)=(j:Int)+1:=(by rw[OL];omega);clear K1 wj;have G:=O dY;have HJ:=O hj;obtain⟨g0,KW⟩:∃g0,wr.heap.size=g0:=⟨_,rfl⟩;have KF:=O (HT.out.below (HC.out.1.alloc HC.out.1.size (OB #[U Z p1,U Z p2] 189)));have KI:=O (Hs.out.below (HC.out.1.alloc HC.out.1.size (OB #[U Z p1,U Z p2] 189)));have CP:=O (λf=>uJ (p1,p2) f _ KF.out KI.out Iq.out);dsimp only at CP;have HW:=O (λl2 w3 h1 h2 h3=>iK b b (B.map af) l2 w3 h1 h2 h3);obtain⟨DJ,rX⟩:∃DJ,l.drop (j+1)=DJ:=⟨_,rfl⟩;rw[rX] at HD;have Ip:=O rX;clear rX dY hj;rcases Of j with bE|bE
    ·have HF:=O (kI (p1,p2) true)
     have KJ:((j:Int)==0)=true:=(by simp;omega);have hU:=O bE;clear bE
     have T:Hid (B++dA (p1,p2) true++(eA DJ (if j+1=0 then true else false)++bD)=BP):=O (by
      have h:=HA.out;rw[HD.out,if_pos hU.out] at h;rw[if_neg (by omega),<-h];show _=B++(dA (p1,p2) true++eA DJ false++bD);simp only[OG])
     obtain⟨cp,aC⟩:∃cp,dA (p1,p2) true=cp:=⟨_,rfl⟩;have N:=O (CP.out true);rw[aC] at HF T N;clear aC HA HD;have I:=O (show (B.map af).length+V cp<=140737488355328 by rw[OC];have:=HF.out;have:=G.out;omega);go_wp2_with (first|(go_at_call 164;refine N.out.mono ?_;rintro e w3 ⟨rfl,C⟩;have gJ:=O (gL (gL HI.out ((Below.refl _ _).alloc (OE _) _)) C);have gy:=O (aO (ao HC.out _) C);have aB:=O (show b<w3.heap.size by have:=HZ.out;have:=C.size;simp at this;omega);clear C)|(go_at_call 165;refine(iK b b _ _ _ gJ.out I.out (OD aB.out)).mono ?_;rintro e w4 ⟨rfl,K,D⟩;have dt:=O K;have cz:=O (l7 gy.out D (OD M.out) M.out);have dE:=O (OJ aB.out D.size);clear K D))
     go_roundg g
     case measure=>omega
     case rel=>
      refine⟨j+1,B++cp,by have:=HJ.out;omega,rfl,by rw[Y];have:=HF.out;have:=G.out;omega,?_,O (by rw[OI];exact dt.out),cz,dE⟩;rw[Ip.out];exact T
    ·have HF:=O (kI (p1,p2) false)
     have KJ:((j:Int)==0)=false:=(by simp;omega);have hU:=O bE;clear bE
     have T:Hid (B++dA (p1,p2) false++(eA DJ (if j+1=0 then true else false)++bD)=BP):=O (by
      have h:=HA.out;rw[HD.out,if_neg (by have:=hU.out;omega)] at h;rw[if_neg (by omega),<-h];show _=B++(dA (p1,p2) false++eA DJ false++bD);simp only[OG])
     obtain⟨cp,aC⟩:∃cp,dA (p1,p2) false=cp:=⟨_,rfl⟩;have N:=O (CP.out false);rw[aC] at HF T N;clear aC HA HD;have I:=O (show (B.map af).length+V cp<=140737488355328 by rw[OC];have:=HF.out;have:=G.out;omega);go_wp2_with (first|(go_at_call 164;refine N.out.mono ?_;rintro e w3 ⟨rfl,C⟩;have gJ:=O (gL (gL HI.out ((Below.refl _ _).alloc (OE _) _)) C);have gy:=O (aO (ao HC.out _) C);have aB:=O (show b<w3.heap.size by have:=HZ.out;have:=C.size;simp at this;omega);clear C)|(go_at_call 165;refine(iK b b _ _ _ gJ.out I.out (OD aB.out)).mono ?_;rintro e w4 ⟨rfl,K,D⟩;have dt:=O K;have cz:=O (l7 gy.out D (OD M.out) M.out);have dE:=O (OJ aB.out D.size);clear K D))
     go_roundg g
     case measure=>omega
     case rel=>
      refine⟨j+1,B++cp,by have:=HJ.out;omega,rfl,by rw[Y];have:=HF.out;have:=G.out;omega,?_,O (by rw[OI];exact dt.out),cz,dE⟩;rw[Ip.out];exact T
 |true=>
  obtain⟨L5,L6⟩:=KM rfl;obtain⟨d,rfl⟩:∃d:Nat,dc=(d:Int):=⟨dc.toNat,by omega⟩;simp only[Bool.not_true,if_true,Oj] at K3
  go_enter O0,Ov
  go_wp2_with (go_at_call 130;refine(C1.out _ K5.out).mono ?_;rintro e w2 ⟨rfl,kz⟩;have dD:=O (HX.out.below kz HX.out.lt);have fW:=O (eE.out.trans (kz.mono eE.out.size));clear kz;have hz:=dD.out.alloc (OB #[OH none,J none 0 0] 174);have x0:=hz.cell 0;have x1:=hz.cell 1;clear hz)
  obtain⟨b,hb⟩:∃b,w2.heap.size=b:=⟨_,rfl⟩;have ja:ar w [(w.heap.size,93,#[U Z (d:Int),J A n c])] [] (w2.alloc (OB #[OH none,J none 0 0] 174)):=⟨fW.out.alloc fW.out.size _,aa.cons (dD.out.alloc _) (ag _),aA _⟩;have jT:OF 174 5 b b [] (w2.alloc (OB #[OH none,J none 0 0] 174)):=hb▸qm w2;have Io:(w2.alloc (OB #[OH none,J none 0 0] 174)).heap.size=b+1:=(by rw[Oo,hb]);have K2:w.heap.size<b:=hb▸dD.out.lt;rw[hb];clear x0 x1;generalize w2.alloc (OB #[OH none,J none 0 0] 174)=W0 at ja jT Io⊢;have Kr:=O ja;have KE:=O jT;have KG:=O Io;have M:=O K2;clear hb ja jT Io K2 dD fW HX eE K5 C1
  go_loopg [8] 8 (λg v=> λwr=>∃j:Nat,j+g=8/\v=U Z (7 - (j:Int))/\Hid (OF 174 5 b b (((aD d 8).take j).map af) wr)/\Hid (ar w [(w.heap.size,93,#[U Z (d:Int),J A n c])] [] wr)/\Hid (b<wr.heap.size))
  case atStart=>exact⟨0,by omega,rfl,KE,Kr,O (by rw[KG.out];omega)⟩
  case round=>
   obtain⟨j,hj,rfl,K4,KC,KH⟩:=hrel;have hs:=KC.out.2.1.head;dsimp only at hs;have x0:=hs.cell 0;have x1:=hs.cell 1;clear hs
   cases gk with
   |zero=>
    obtain rfl:j=8:=by omega
    have K0:¬(0<=7 - ((8:Nat):Int)):=(by omega);go_wp2_with fail
    have K4:Hid (OF 174 5 b b ((aD d 8).map af) wr):=O (by have h:=K4.out;rwa [OP (by simp[aD])] at h);clear x0 x1
    go_loopg [35] n (λg v=> λwr=>∃(j:Nat)(B:List UInt8),j+g=n/\v=U Z (j:Int)/\V B<=8+21*j/\Hid (B++(eA (l.drop j) (if j=0 then false else false)++bD)=BP)/\Hid (OF 174 5 b b (B.map af) wr)/\Hid (ar w [(w.heap.size,93,#[U Z (d:Int),J A n c])] [] wr)/\Hid (b<wr.heap.size))
    case atStart=>exact⟨0,aD d 8,by omega,rfl,by simp[aD],O (by rw[<-K3.out];simp),K4,KC,KH⟩
    case round=>
     obtain⟨j,B,hj,rfl,dY,HA,HI,HC,HZ⟩:=hrel
     cases gk with
     |zero=>
      have KK:j=n:=(by omega);subst KK;have K0:¬((j:Int)<(j:Int)):=(by omega);have K8:Hid (Calls ON 153 #[OH (some ⟨b,0,none⟩)] wr λe w'=>e=OX (OA (bs B))/\Below b wr w'):=O (Oc b b B wr HI.out (by have:=HZ.out;omega));have KX:V B<=1352:=(by omega);have KY:V bD=2:=rfl;have KZ:V B+V bD<=1354:=(by omega);have HE:=O (show B++bD=BP by have h:=HA.out;rw[Od (by rw[HN.out];omega)] at h;exact h);go_wp2_with (first|(go_at_call 153;refine K8.out.mono ?_;rintro e w' ⟨rfl,J2⟩;have K9:=O J2;clear J2)|(go_at_call 166;refine(uI _).mono ?_;rintro e w' ⟨rfl,rfl⟩))
      go_ret2;refine⟨?_,HC.out.1.trans (K9.out.mono (by have:=HZ.out;have:=M.out;omega))⟩;rw[<-HE.out,<-uG];rfl
     |succ g=>
      have K0:((j:Int)<(n:Int)):=(by omega);have wj:j<(V l):=(by rw[HN.out];omega);obtain⟨ad,rfl,KV,c0,c1⟩:=jj (HS.out.below HC.out.1) j wj;have Iq:=O (KL.out l[j] (OR _));have HD:=O (OZ wj);obtain⟨⟨p1,p2⟩,K1⟩:∃p,l[j]=p:=⟨_,rfl⟩;rw[K1] at c0 c1 Iq HD;dsimp only at c0 c1;have KR:OU.wrap ((j:Int)+1)=(j:Int)+1:=(by rw[OL];omega);clear K1 wj;have G:=O dY;have HJ:=O hj;obtain⟨g0,KW⟩:∃g0,wr.heap.size=g0:=⟨_,rfl⟩;have KF:=O (HT.out.below (HC.out.1.alloc HC.out.1.size (OB #[U Z p1,U Z p2] 189)));have KI:=O (Hs.out.below (HC.out.1.alloc HC.out.1.size (OB #[U Z p1,U Z p2] 189)));have CP:=O (λf=>uJ (p1,p2) f _ KF.out KI.out Iq.out);dsimp only at CP;have HW:=O (λl2 w3 h1 h2 h3=>iK b b (B.map af) l2 w3 h1 h2 h3);obtain⟨DJ,rX⟩:∃DJ,l.drop (j+1)=DJ:=⟨_,rfl⟩;rw[rX] at HD;have Ip:=O rX;clear rX dY hj;rcases Of j with bE|bE
      ·have HF:=O (kI (p1,p2) false)
       have KJ:((j:Int)==0)=true:=(by simp;omega);have hU:=O bE;clear bE
       have T:Hid (B++dA (p1,p2) false++(eA DJ (if j+1=0 then false else false)++bD)=BP):=O (by
        have h:=HA.out;rw[HD.out,if_pos hU.out] at h;rw[if_neg (by omega),<-h];show _=B++(dA (p1,p2) false++eA DJ false++bD);simp only[OG])
       obtain⟨cp,aC⟩:∃cp,dA (p1,p2) false=cp:=⟨_,rfl⟩;have N:=O (CP.out false);rw[aC] at HF T N;clear aC HA HD;have I:=O (show (B.map af).length+V cp<=140737488355328 by rw[OC];have:=HF.out;have:=G.out;omega);go_wp2_with (first|(go_at_call 164;refine N.out.mono ?_;rintro e w3 ⟨rfl,C⟩;have gJ:=O (gL (gL HI.out ((Below.refl _ _).alloc (OE _) _)) C);have gy:=O (aO (ao HC.out _) C);have aB:=O (show b<w3.heap.size by have:=HZ.out;have:=C.size;simp at this;omega);clear C)|(go_at_call 165;refine(iK b b _ _ _ gJ.out I.out (OD aB.out)).mono ?_;rintro e w4 ⟨rfl,K,D⟩;have dt:=O K;have cz:=O (l7 gy.out D (OD M.out) M.out);have dE:=O (OJ aB.out D.size);clear K D))
       go_roundg g
       case measure=>omega
       case rel=>
        refine⟨j+1,B++cp,by have:=HJ.out;omega,rfl,by rw[Y];have:=HF.out;have:=G.out;omega,?_,O (by rw[OI];exact dt.out),cz,dE⟩;rw[Ip.out];exact T
      ·have HF:=O (kI (p1,p2) false)
       have KJ:((j:Int)==0)=false:=(by simp;omega);have hU:=O bE;clear bE
       have T:Hid (B++dA (p1,p2) false++(eA DJ (if j+1=0 then false else false)++bD)=BP):=O (by
        have h:=HA.out;rw[HD.out,if_neg (by have:=hU.out;omega)] at h;rw[if_neg (by omega),<-h];show _=B++(dA (p1,p2) false++eA DJ false++bD);simp only[OG])
       obtain⟨cp,aC⟩:∃cp,dA (p1,p2) false=cp:=⟨_,rfl⟩;have N:=O (CP.out false);rw[aC] at HF T N;clear aC HA HD;have I:=O (show (B.map af).length+V cp<=140737488355328 by rw[OC];have:=HF.out;have:=G.out;omega);go_wp2_with (first|(go_at_call 164;refine N.out.mono ?_;rintro e w3 ⟨rfl,C⟩;have gJ:=O (gL (gL HI.out ((Below.refl _ _).alloc (OE _) _)) C);have gy:=O (aO (ao HC.out _) C);have aB:=O (show b<w3.heap.size by have:=HZ.out;have:=C.size;simp at this;omega);clear C)|(go_at_call 165;refine(iK b b _ _ _ gJ.out I.out (OD aB.out)).mono ?_;rintro e w4 ⟨rfl,K,D⟩;have dt:=O K;have cz:=O (l7 gy.out D (OD M.out) M.out);have dE:=O (OJ aB.out D.size);clear K D))
       go_roundg g
       case measure=>omega
       case rel=>
        refine⟨j+1,B++cp,by have:=HJ.out;omega,rfl,by rw[Y];have:=HF.out;have:=G.out;omega,?_,O (by rw[OI];exact dt.out),cz,dE⟩;rw[Ip.out];exact T
   |succ g=>
    have K0:(0<=7 - (j:Int)):=(by omega);have KR:OU.wrap (7 - (j:Int) - 1)=7 - ((j:Int)+1):=(by rw[OL];omega);have I:=O (show (((aD d 8).take j).map af).length+1<=140737488355328 by rw[OC,On];omega);have KU:=O (FV d j (by omega));have KT:=O (Ie d (7 - j));go_wp2_with (go_at_call 152;refine(kF b b _ (48+(d:Int) / 2 ^ (7 - j) % 2) _ K4.out I.out (OD KH.out)).mono ?_;rintro e w4 ⟨rfl,K,D⟩;have dt:=O K;have cz:=O (l7 KC.out D (OD M.out) M.out);have dE:=O (OJ KH.out D.size);clear K D)
    go_roundg g
    case measure=>omega
    case rel=>
     refine⟨j+1,by omega,by congr 1,O ?_,cz,dE⟩;have h:=dt.out;rw[KU.out,OI];rw[show (48+(d:Int) / 2 ^ (7 - j) % 2)=(48:Int)+((d / 2 ^ (7 - j) % 2:Nat):Int) by push_cast;rfl,KT.out] at h;exact h
theorem xK (ts:List (List UInt8)):Ow ts []=ts.flatten:=by
 cases ts with
 |nil=>rfl
 |cons t ts=>
  rw[Lib.join_cons];unfold Lib.joinTail;simp
theorem pD (G o c:Nat)(ts:List (List UInt8))(w:World)(B:∀(j:Nat) t,ts[j]? =some t->w.cell? ⟨G,o+j,none⟩=some (OA (bs t))) (K:G<w.heap.size) (hN:V ts<=1000) (D:V ts<=c) (M:V ts.flatten<=1000000):
  Calls ON 109 #[J (some ⟨G,o,none⟩) (V ts) c] w λe w'=>e=OX (OA (bs ts.flatten))/\Below w.heap.size w w':=by
 have T:((ts.map bs).map (·.data.toList))=ts:=by rw[Ox];exact(List.map_congr_left (λt _=>eH t)).trans (List.map_id _)
 have C:=Tryz.strings_Join G o c (ts.map bs) ⟨#[]⟩ w (λj t h=>by
  rw[OO] at h;obtain⟨t',h1,rfl⟩:=Option.map_eq_some_iff.1 h;exact B j t' h1) K (by rw[OC];omega) (by rw[OC];exact D) (by rw[T];show (Ow ts []).length<=_;rw[xK];omega)
 rw[T,OC] at C
 have C:=O (show Calls ON 160 #[J (some ⟨G,o,none⟩) (V ts) c,OA ⟨#[]⟩] w λe w'=>e=OX (OA (bs ts.flatten))/\Below w.heap.size w w' by
  have h:Ow ts (ByteArray.mk #[]).data.toList=ts.flatten:=xK ts;rw[h] at C;exact C)
 generalize (V ts)=n at*;generalize ts.flatten=t at*;clear B K hN D M T
 go_enter Tryz.func109,Tryz.ntmps109
 go_wp2_with (go_at_call 160;refine C.out.mono ?_;rintro e w2 ⟨rfl,I⟩;have N:=O I;clear I)
 go_ret;exact⟨rfl,N.out⟩
theorem Ee (d j:Nat)(h:j<5):(aD d 5).take (j+1)=(aD d 5).take j++[if d / 2 ^ (4 - j) % 2=0 then 48 else 49]:=by
 rw[OY];congr 1
 have B:(aD d 5)[j]? =some (if d / 2 ^ (4 - j) % 2=0 then 48 else 49):=by
  unfold aD;rw[OO,Oe h];rfl
 rw[B];rfl
theorem uW (k:Int):(gT k).length<=24:=by
 unfold gT
 cases h:eI ay 1 k with
 |none=>simp
 |some c=>
  unfold eI at h
  split at h
  ·cases h
  ·have B:=OT h
   have j:ay.all (λc=>decide (V c<=24))=true:=by kernel_rfl
   simpa using OQ.1 j c B
theorem G8 (k:Int):(cK k).length<=24:=by
 unfold cK
 cases h:eI ak (-16) k with
 |none=>simp
 |some c=>
  unfold eI at h
  split at h
  ·cases h
  ·have B:=OT h
   have j:ak.all (λc=>decide (V c<=24))=true:=by kernel_rfl
   simpa using OQ.1 j c B
theorem ot (a b:Int):(gV a b).length<=24:=G8 _
theorem xX (k:Int):(jZ k).length<=24:=by
 unfold jZ
 cases h:eI bo 1 k with
 |none=>simp
 |some c=>
  unfold eI at h
  split at h
  ·cases h
  ·have B:=OT h
   have j:bo.all (λc=>decide (V c<=24))=true:=by kernel_rfl
   simpa using OQ.1 j c B
theorem uK:∀(l:List (Int×Int))(f:Bool),(eA l f).length<=21*V l
 |[],_=>by simp[eA]
 |p::l,f=>by
  have j:=kI p f;have h2:=uK l false;show (dA p f++eA l false).length<=_;rw[Y,Ob];omega
theorem FO {x:bH}{intra:Bool}(h:dl x intra=0):(cP x intra).length<=1400:=by
 obtain⟨B,_⟩:=tL h;have j:0<=eB intra/\eB intra<=1:=by cases intra<;>decide
 obtain⟨h2,_⟩:=mT x.l (eB intra) j.1 (by omega) B;have D:=uK x.l (!intra);have C:V bD=2:=rfl;unfold cP;rw[Y,Y,C]
 split
 ·simp[aD];omega
 ·simp;omega
theorem FZ {C:List UInt8}{xs:List ew}{B:Bool}(I:V C<=101)(h2:∀p∈xs,(cP p.1 B).length<=1400) (K:V xs<=64):([C]++xs.map λp=>cP p.1 B).flatten.length<=1000000:=by
 have h:∀j:List ew,(∀p∈j,(cP p.1 B).length<=1400)->(j.map λp=>cP p.1 B).flatten.length<=1400*(V j):=by
  intro j
  induction j with
  |nil=>intro _;simp
  |cons y j ih=>
   intro D;have a:=D y (by simp);have b:=ih (λp G=>D p (by simp[G]));rw[List.map_cons,Ol,Y,Ob];omega
 have M:=h xs h2;rw[List.flatten_append,Y];simp only[Ol,List.flatten_nil,OS];omega
theorem Gs {w:World}{base n:Nat}{v:Value}{ts:List (List UInt8)}(h:w.ownsRow base 9 1 v n (ts.map aM))(N:n=V ts)(T:0<V ts):∃g c,v=J (some ⟨g,0,none⟩) (V ts) c/\V ts<=c/\(∀(j:Nat) t,ts[j]? =some t->w.cell? ⟨g,0+j,none⟩=some (OA (bs t)))/\g<w.heap.size:=by
 subst N;rcases h.2 with⟨rfl,G⟩|⟨g,C,K,rfl,M,I,G,h2,h3,h4⟩
 ·omega
 ·refine⟨g,C,rfl,G,λj t D=>?_,?_⟩
  ·have hl:j<(V ts):=by
    rcases Oy j (V ts) with B|B
    ·exact B
    ·rw[List.getElem?_eq_none B] at D;cases D
   rw[Oz,h.cellAt j (by omega),OO,D]
   rfl
  ·rcases Oy g w.heap.size with B|B
   ·exact B
   ·rw[Array.getElem?_eq_none B] at I;cases I
theorem Eq (m:aT)(x:bi)(xs:List ew)(A:Option Addr)(c:Nat)(w:World)(hm:m.bl=xs.map (·.1))(hA:kh w A xs)(hT:Tz w)(hs:Ts w):Calls ON 63 #[fI m A (V xs) c,dK x] w λe w'=>e=OX (.tuple #[OA (bs (sQ m x).1),U Z (sQ m x).2])/\Below w.heap.size w w':=by
 have HA:=O hA;have HT:=O hT;have Hs:=O hs;have KZ:Below w.heap.size w (w.alloc (OB #[U Z m.ad,U Z m.kd,U Z m.qu,U Z m.x,U Z m.y,U Z m.pa,J A (V xs) c] 55)):=(Below.refl _ _).alloc (OE _) _;have KY:=KZ.alloc KZ.size (OB #[U Z x.ad,X x.had,U Z x.x,U Z x.y] 102);have Ls:=(ab.new w 55 #[U Z m.ad,U Z m.kd,U Z m.qu,U Z m.x,U Z m.y,U Z m.pa,J A (V xs) c]).alloc (OB #[U Z x.ad,X x.had,U Z x.x,U Z x.y] 102);have Lr:ab _ (w.heap.size+1) 102 _:=aH (ab.new (w.alloc (OB #[U Z m.ad,U Z m.kd,U Z m.qu,U Z m.x,U Z m.y,U Z m.pa,J A (V xs) c] 55)) 102 #[U Z x.ad,X x.had,U Z x.x,U Z x.y]) (by simp);have CK:=O (λW hW=>qR m xs A c W hm hW);have CA:=O (λW=>qS x m.ad W);have Lj:=O hm;have bE:sQ m x=if lk m&&cu x m.ad then(fB m x,0) else([],2):=rfl
 have cz:=O KY;have C:=O Ls;have G:=O Lr;have J2:=O (hA.below KY (OE _));obtain⟨OK,eE⟩:∃b,lk m=b:=⟨_,rfl⟩;obtain⟨AH,dD⟩:∃b,cu x m.ad=b:=⟨_,rfl⟩;rw[eE,dD] at bE;rw[eE] at CK;rw[dD] at CA;have LZ:=O eE;have LV:=O dD;clear hA hT hs KY KZ Ls Lr hm eE dD;obtain⟨n,hn⟩:∃n,V xs=n:=⟨_,rfl⟩;rw[hn] at C cz G CK J2⊢;have HN:=O hn;clear hn
 cases OK with
 |false=>
  rw[Bool.false_and,if_neg (by decide)] at bE;rw[bE];clear bE;rw[if_neg (by decide)] at CK;obtain⟨ad,kd,qu,mx,my,pa,bl⟩:=m;obtain⟨la,lh,lx,ly⟩:=x;unfold fI dK at*;dsimp only at*;have m0:=C.out.cell 0;have m1:=C.out.cell 1;have m2:=C.out.cell 2;have m3:=C.out.cell 3;have m4:=C.out.cell 4;have m5:=C.out.cell 5;have m6:=C.out.cell 6
  go_enter Om,Oh
  go_wp2_with (go_at_call 76;refine(CK.out _ J2.out).mono ?_;rintro e w2 ⟨rfl,N⟩;have dt:=O N;clear N)
  go_ret2;exact⟨rfl,cz.out.trans (dt.out.mono cz.out.size)⟩
 |true=>
  rw[if_pos rfl] at CK
  cases AH with
  |false=>
   rw[Bool.and_false,if_neg (by decide)] at bE;rw[bE];clear bE;obtain⟨ad,kd,qu,mx,my,pa,bl⟩:=m;obtain⟨la,lh,lx,ly⟩:=x;unfold fI dK at*;dsimp only at*;have m0:=C.out.cell 0;have m1:=C.out.cell 1;have m2:=C.out.cell 2;have m3:=C.out.cell 3;have m4:=C.out.cell 4;have m5:=C.out.cell 5;have m6:=C.out.cell 6;have l0:=G.out.cell 0;have l1:=G.out.cell 1;have l2:=G.out.cell 2;have l3:=G.out.cell 3
   go_enter Om,Oh
   go_wp2_with (first|(go_at_call 76;refine(CK.out _ J2.out).mono ?_;rintro e w2 ⟨rfl,N⟩;have rX:=O (C.out.below N C.out.lt);have M:=O (G.out.below N G.out.lt);have dt:=O N;clear N m0 m1 m2 m3 m4 m5 m6 l0 l1 l2 l3;have m0:=rX.out.cell 0;have l0:=M.out.cell 0;have l1:=M.out.cell 1;have l2:=M.out.cell 2;have l3:=M.out.cell 3)|(go_at_call 105;refine(CA.out _).mono ?_;rintro e w3 ⟨rfl,gJ⟩;have jT:=O gJ;clear gJ))
   go_ret2;exact⟨rfl,(cz.out.trans (dt.out.mono cz.out.size)).trans (jT.out.mono (Og cz.out.size dt.out.size))⟩
  |true=>
   rw[Bool.and_true,if_pos rfl] at bE;rw[bE];clear bE;have eE:=LZ.out;have dD:=LV.out;obtain⟨ad,kd,qu,mx,my,pa,bl⟩:=m;obtain⟨la,lh,lx,ly⟩:=x;unfold lk at eE;unfold cu at dD;simp only[Oa,decide_eq_true_eq] at eE dD;obtain⟨⟨⟨⟨⟨⟨⟨⟨⟨hk,Mg⟩,Mh⟩,LN⟩,LO⟩,hv⟩,hq⟩,KM⟩,LG⟩,KJ⟩:=eE;obtain⟨⟨⟨⟨LF,wj⟩,LH⟩,LI⟩,Mc⟩:=dD;have Mn:=O hk;have CO:=O (λW=>nA kd W);have La:=O (λW=>Ge kd W hk);unfold li mN at CO;rw[hk,if_pos rfl,if_pos rfl] at CO;unfold qy at CO;unfold fI dK at*;dsimp only at*;have HV:=O hv;have HQ:=O hq;have Ll:=O KM;have Lb:=O KJ;have M4:=O LN;have M5:=O LO;have K2:=O LH;have LY:=O LI;have Iq:=O (λW=>mM ⟨la,lh,lx,ly⟩ ad W LF wj (by omega));dsimp only at Iq;unfold dK at Iq;obtain⟨KF,fW⟩:∃KF,fB ⟨ad,kd,qu,mx,my,pa,bl⟩ ⟨la,lh,lx,ly⟩=KF:=⟨_,rfl⟩;rw[fW];unfold fB at fW;dsimp only at fW;have D:=O fW;clear hk hv hq KM LG KJ LN LO LH LI Mc LF wj fW;have m0:=C.out.cell 0;have m1:=C.out.cell 1;have m2:=C.out.cell 2;have m3:=C.out.cell 3;have m4:=C.out.cell 4;have m5:=C.out.cell 5;have m6:=C.out.cell 6;have l0:=G.out.cell 0;have l1:=G.out.cell 1;have l2:=G.out.cell 2;have l3:=G.out.cell 3
   go_enter Om,Oh
   go_upto_region 3 with(first|(go_at_call 76;refine(CK.out _ J2.out).mono ?_;rintro e w2 ⟨rfl,N⟩;have rX:=O (C.out.below N C.out.lt);have M:=O (G.out.below N G.out.lt);have dt:=O (cz.out.trans (N.mono cz.out.size));clear N m0 m1 m2 m3 m4 m5 m6 l0 l1 l2 l3;have m0:=rX.out.cell 0;have l0:=M.out.cell 0;have l1:=M.out.cell 1;have l2:=M.out.cell 2;have l3:=M.out.cell 3)|(go_at_call 105;refine(CA.out _).mono ?_;rintro e w3 ⟨rfl,gJ⟩;have KC:=O (rX.out.below gJ rX.out.lt);have KT:=O (M.out.below gJ M.out.lt);have jT:=O (dt.out.trans (gJ.mono dt.out.size));clear gJ m0 l0 l1 l2 l3;have m1:=KC.out.cell 1))
   clear C G cz J2 rX M dt CK CA
   go_upto_region 5 with(first|(go_at_call 106;refine(CO.out _).mono ?_;rintro e w4 ⟨rfl,K3⟩;have KU:=O ((KC.out.below K3 KC.out.lt).alloc (OB #[X (pI kd),X (pQ kd),X (pV kd),X (pF kd),X (pC kd)] 110));have Li:=O ((KT.out.below K3 KT.out.lt).alloc (OB #[X (pI kd),X (pQ kd),X (pV kd),X (pF kd),X (pC kd)] 110));have Ld:=O ((jT.out.trans (K3.mono jT.out.size)).alloc (Og jT.out.size K3.size) (OB #[X (pI kd),X (pQ kd),X (pV kd),X (pF kd),X (pC kd)] 110));clear K3 m1;have m1:=KU.out.cell 1)|(go_at_call 107;refine(La.out _).mono ?_;rintro e w5 ⟨rfl,Lx⟩;have K0:=O Lx;clear Lx))
   obtain⟨g,hg⟩:∃g,w4.heap.size=g:=⟨_,rfl⟩
   have LB:ar w [(w.heap.size,55,#[U Z ad,U Z kd,U Z qu,U Z mx,U Z my,U Z pa,J A n c]),(w.heap.size+1,102,#[U Z la,X lh,U Z lx,U Z ly]),(g,110,#[X (pI kd),X (pQ kd),X (pV kd),X (pF kd),X (pC kd)])] [] w5:=
    aO ⟨Ld.out,aa.cons KU.out (aa.cons Li.out (aa.cons (aH (ab.new _ _ _) hg) (ag _))),aA _⟩ K0.out
   simp only[hg];have T:=O LB;clear LB hg KU Li Ld K0 KC KT jT m1 CO La;have m2:=T.out.2.1.head.cell 2;have q1:=T.out.2.1.tail.tail.head.cell 1;dsimp only at m2 q1
   go_upto_if 43 with fail
   obtain⟨QS,L8⟩:∃QS,(if pQ kd then aD qu.toNat 5 else[])=QS:=⟨_,rfl⟩;rw[L8] at D;have Ln:=O L8;clear L8
   go_cut [8] (λs wx=>w5=wx/\s=OA (bs (gT kd++QS)))
   case first=>
    have KH:=HQ.out;have I:=Ln.out;obtain⟨bQ,Lz⟩:∃b,pQ kd=b:=⟨_,rfl⟩;rw[Lz] at q1 KH I⊢;have Mb:=uW kd;obtain⟨KP,L5⟩:∃KP,gT kd=KP:=⟨_,rfl⟩;rw[L5] at Mb⊢;have Lh:=O L5;clear Lz L5
    cases bQ with
    |false=>
     rw[if_neg (by decide)] at I;have KW:=O I;clear KH I;go_wp2_with fail
     go_meet
     case rel=>exact⟨rfl,by rw[<-KW.out,Lh.out,OS]⟩
    |true=>
     rw[if_pos rfl] at I;simp only[if_true,Oa,decide_eq_true_eq] at KH;obtain⟨q,rfl⟩:∃q:Nat,qu=(q:Int):=⟨qu.toNat,by omega⟩;rw[Oj] at I;have KW:=O I;obtain⟨Ms,Mt⟩:=KH;clear I;go_wp2_with fail
     go_loopg [8,10] 5 (λgg v8 v=> λwr=>∃j:Nat,j+gg=5/\v8=OA (bs (KP++(aD q 5).take j))/\v=U Z (4 - (j:Int))/\w5=wr)
     case atStart=>exact⟨0,by omega,by simp,rfl,rfl⟩
     case round=>
      obtain⟨j,hj,rfl,rfl,rfl⟩:=hrel
      cases gk with
      |zero=>
       obtain rfl:j=5:=by omega
       have wj:¬(0<=4 - ((5:Nat):Int)):=(by omega);go_wp2_with fail
       go_meet
       case rel=>exact⟨rfl,by rw[<-KW.out,Lh.out,OP (by simp[aD])]⟩
      |succ gg=>
       have wj:(0<=4 - (j:Int)):=(by omega);have Md:OU.wrap (4 - (j:Int) - 1)=4 - ((j:Int)+1):=(by rw[OL];omega);have Mi:∀W:World,(convert 21 9 (U .i32 48)).run ON W= .ok (OA (bs [48])) W:= λW=>by kernel_rfl
       have Mj:∀W:World,(convert 21 9 (U .i32 49)).run ON W= .ok (OA (bs [49])) W:= λW=>by kernel_rfl
       have LE:(KP++(aD q 5).take j).length<=30:=(by rw[Y,On];omega);have KE:=O (Ee q j (by omega));have hb:q / 2 ^ (4 - j) % 2=0\/q / 2 ^ (4 - j) % 2=1:=(by omega);rcases hb with hb|hb
       ·have h2:(((q / 2 ^ (4 - j) % 2:Nat)):Int)=0:=by rw[hb];rfl
        have M9:(q:Int) / 2 ^ (4 - j) % 2=0:=(by push_cast at h2;exact h2);clear h2;have HB:=O hb;clear hb;obtain⟨KS,hU⟩:∃KS,KP++(aD q 5).take j=KS:=⟨_,rfl⟩;rw[hU] at LE⊢;have KR:=O hU;clear hU;go_wp2_with fail
        go_roundg gg
        case measure=>omega
        case rel=>exact⟨j+1,by omega,by rw[KE.out,HB.out,<-OG,KR.out];rfl,by congr 1,rfl⟩
       ·have h2:(((q / 2 ^ (4 - j) % 2:Nat)):Int)=1:=by rw[hb];rfl
        have M9:(q:Int) / 2 ^ (4 - j) % 2=1:=(by push_cast at h2;exact h2);clear h2;have HB:=O hb;clear hb;obtain⟨KS,hU⟩:∃KS,KP++(aD q 5).take j=KS:=⟨_,rfl⟩;rw[hU] at LE⊢;have KR:=O hU;clear hU;go_wp2_with fail
        go_roundg gg
        case measure=>omega
        case rel=>exact⟨j+1,by omega,by rw[KE.out,HB.out,<-OG,KR.out];rfl,by congr 1,rfl⟩
   obtain⟨rfl,rfl⟩:=hcut;clear m2 q1
   have Ip:(gT kd++QS).length<=29:=by
    have h1:=uW kd;have h2:V QS<=5:=(by rw[<-Ln.out];split<;>simp[aD]);rw[Y];omega
   have q2:=T.out.2.1.tail.tail.head.cell 2;dsimp only at q2
   go_upto_if 59 with fail
   obtain⟨⟨p1,p2⟩,gy⟩:∃p,cH ad (ad - la) lh lx ly=p:=⟨_,rfl⟩
   have L6:aK p1=true/\aK p2=true:=by
    unfold cH at gy
    split at gy
    ·rw[<-(Prod.mk.inj gy).1,<-(Prod.mk.inj gy).2];exact⟨rfl,rfl⟩
    ·rw[<-(Prod.mk.inj gy).1,<-(Prod.mk.inj gy).2];exact⟨K2.out,LY.out⟩
   rw[gy] at D Iq;dsimp only at D Iq;have M7:=O (λW=>qT p1 mx W L6.1 M4.out);have M8:=O (λW=>qT p2 my W L6.2 M5.out);obtain⟨VS,L9⟩:∃VS,(if pV kd then gV p1 mx++gV p2 my else[])=VS:=⟨_,rfl⟩;rw[L9] at D;have Lo:=O L9;obtain⟨S0,LP⟩:∃S0,gT kd++QS=S0:=⟨_,rfl⟩;rw[LP] at Ip D⊢;clear L9 gy L6 LP
   go_cut [8] (λs wx=>s=OA (bs (S0++VS))/\Hid (ar w [(w.heap.size,55,#[U Z ad,U Z kd,U Z qu,U Z mx,U Z my,U Z pa,J A n c]),(w.heap.size+1,102,#[U Z la,X lh,U Z lx,U Z ly]),(g,110,#[X (pI kd),X (pQ kd),X (pV kd),X (pF kd),X (pC kd)])] [] wx))
   case first=>
    have aC:=Lo.out;obtain⟨bV,L4⟩:∃b,pV kd=b:=⟨_,rfl⟩;rw[L4] at q2 aC⊢;have Ml:=O L4;clear L4
    cases bV with
    |false=>
     rw[if_neg (by decide)] at aC;have KX:=O aC;clear aC;go_wp2_with fail
     go_meet
     case rel=>exact⟨by rw[<-KX.out,OS],T⟩
    |true=>
     rw[if_pos rfl] at aC;have KX:=O aC;clear aC;have m0:=T.out.2.1.head.cell 0;have l0:=T.out.2.1.tail.head.cell 0;have l1:=T.out.2.1.tail.head.cell 1;have l2:=T.out.2.1.tail.head.cell 2;have l3:=T.out.2.1.tail.head.cell 3;dsimp only at m0 l0 l1 l2 l3
     go_upto_region 12 with(go_at_call 108;refine(Iq.out _).mono ?_;rintro e w6 ⟨rfl,dE⟩;have K:=O (aO T.out dE);clear dE)
     clear m0 l0 l1 l2 l3;have KG:=bR K.out;have Mm:=O KG;have z3:=KG.2.1.head.cell 3;have z4:=KG.2.1.head.cell 4;clear KG;refine bf (λw'=>w'=w6.drew) 9 (Oi 0 (Oi 1 (Oi 2 (Oi 3 (Oi 5 (Oi 6 (Oi 7 (.step 4 (.step 8 .done))))))))) (rfl) (λPE Lt=>?_)
     iterate 7
      refine aj (v:=?_) rfl (by rfl) ?_ ?_
      rotate_left
      ·intro _ Lu;(try dsimp only at Lu);subst Lu;go_simp;(try with_reducible rfl)
      simp only[OM,OW,OV]
     refine aX (f:=110) rfl (by rfl) (by first|(go_simp;done)|(go_simp;rfl)) (M7.out _) ?_;rintro e w7 ⟨rfl,rfl⟩;refine⟨_,rfl,_,λ_ h=>h,rfl,?_⟩;simp only[OM,OW,OV];refine aX (f:=110) rfl (by rfl) (by first|(go_simp;done)|(go_simp;rfl)) (M8.out _) ?_;rintro e w7 ⟨rfl,rfl⟩;refine⟨_,rfl,_,λ_ h=>h,rfl,?_⟩;simp only[OM,OW,OV];refine Lt _ _ ?_;clear Lt PE;simp only[List.drop_succ_cons,List.drop_zero];have Mp:=ot p1 mx;have Mq:=ot p2 my;have LC:S0++(gV p1 mx++gV p2 my)=S0++VS:=(by rw[<-KX.out]);have KQ:=O LC;clear LC;generalize gV p1 mx=M1 at*;generalize gV p2 my=M2 at*
     have CJ:=pD (Ot w6).heap.size 0 3 [S0,M1,M2] ((Ot w6).alloc (OB #[OA (bs S0),OA (bs M1),OA (bs M2)] 9)) (λj t h=>by
      have hb:=ab.new (Ot w6) 9 #[OA (bs S0),OA (bs M1),OA (bs M2)];rw[Oz,hb.cell j]
      match j,h with
      |0,h=>cases h;rfl
      |1,h=>cases h;rfl
      |2,h=>cases h;rfl
      |(j+3),h=>cases h) (by simp) (by simp) (by simp) (by simp;omega)
     have CJ:=O CJ;have kz:=O (ao (bR K.out) (OB #[OA (bs S0),OA (bs M1),OA (bs M2)] 9));go_wp2_with (go_at_call 109;refine CJ.out.mono ?_;rintro e w8 ⟨rfl,K4⟩;have KO:=O K4;clear K4)
     refine⟨rfl,?_⟩;go_wp2_with fail
     go_meet
     case rel=>exact⟨by rw[<-KQ.out],O (aO kz.out KO.out)⟩
   obtain⟨rfl,K⟩:=hcut;clear q2 T
   have Ip:(S0++VS).length<=77:=by
    have h2:V VS<=48:=by
     rw[<-Lo.out];have:=ot p1 mx;have:=ot p2 my
     split
     ·rw[Y];omega
     ·simp
    rw[Y];omega
   have q4:=K.out.2.1.tail.tail.head.cell 4;have m5:=K.out.2.1.head.cell 5;dsimp only at q4 m5
   go_upto_if 79 with fail
   obtain⟨PS,L7⟩:∃PS,(if pC kd then jZ pa else[])=PS:=⟨_,rfl⟩;rw[L7] at D;have Lm:=O L7;obtain⟨S1,LQ⟩:∃S1,S0++VS=S1:=⟨_,rfl⟩;rw[LQ] at Ip D⊢;clear L7 LQ
   go_cut [8] (λs wx=>s=OA (bs (S1++PS))/\Hid (ar w [(w.heap.size,55,#[U Z ad,U Z kd,U Z qu,U Z mx,U Z my,U Z pa,J A n c]),(w.heap.size+1,102,#[U Z la,X lh,U Z lx,U Z ly]),(g,110,#[X (pI kd),X (pQ kd),X (pV kd),X (pF kd),X (pC kd)])] [] wx))
   case first=>
    have aB:=Lm.out;have Io:=Ll.out;obtain⟨bC,L0⟩:∃b,pC kd=b:=⟨_,rfl⟩;rw[L0] at q4 aB Io⊢;have Mk:=O L0;clear L0
    cases bC with
    |false=>
     rw[if_neg (by decide)] at aB;have KV:=O aB;clear aB Io;go_wp2_with fail
     go_meet
     case rel=>exact⟨by rw[<-KV.out,OS],K⟩
    |true=>
     rw[if_pos rfl] at aB
     have K9:1<=pa/\pa<=63:=by
      split at Io
      ·rw[beq_iff_eq] at Io;omega
      ·simpa using Io
     have KV:=O aB;have CP:=O (λW hW=>zI pa W hW K9.1 K9.2);have Mr:=xX pa;generalize jZ pa=PP at*;have M6:=O (Hs.out.below K.out.1);clear aB Io K9;go_wp2_with (go_at_call 111;refine(CP.out _ M6.out).mono ?_;rintro e w6 ⟨rfl,dE⟩;have kz:=O (aO K.out dE);clear dE)
     go_meet
     case rel=>exact⟨by rw[<-KV.out],kz⟩
   obtain⟨rfl,kz⟩:=hcut;clear q4 m5 K
   have Ip:(S1++PS).length<=101:=by
    have h2:V PS<=24:=by
     rw[<-Lm.out]
     split
     ·exact xX pa
     ·simp
    rw[Y];omega
   obtain⟨S2,LR⟩:∃S2,S1++PS=S2:=⟨_,rfl⟩;rw[LR] at Ip D⊢;clear LR;have m6:=kz.out.2.1.head.cell 6;dsimp only at m6;go_wp2_with fail
   have Kr:=HA.out.len;rw[HN.out] at Kr
   have Le:Hid (∀p∈xs,dl p.1 (pI kd)=0):=O (λp hp=>by
    have h:=Lb.out;have h2:=Lj.out;rw[h2,List.all_map,OQ] at h
    simpa using h p hp)
   have D:Hid (S2++xs.flatMap (λp=>cP p.1 (pI kd))=KF):=O (by
    have h:=D.out;have h2:=Lj.out;rw[h2,List.flatMap_map] at h;exact h)
   have M0:Hid (∀p∈xs,(cP p.1 (pI kd)).length<=1400):=O (λp hp=>FO (Le.out p hp));clear m6;generalize pI kd=bI at*
   go_loopg [15,92] n (λgg Me Mf=> λwr=>∃(j:Nat)(v:Value),j+gg=n/\Me=v/\Mf=U Z (j:Int)/\Hid (ar w [(w.heap.size,55,#[U Z ad,U Z kd,U Z qu,U Z mx,U Z my,U Z pa,J A n c]),(w.heap.size+1,102,#[U Z la,X lh,U Z lx,U Z ly]),(g,110,#[X bI,X (pQ kd),X (pV kd),X (pF kd),X (pC kd)])] [⟨w.heap.size,9,1,v,j,((xs.take j).map λp=>aM (cP p.1 bI))⟩] wr))
   case atStart=>exact⟨0,J none 0 0,by omega,rfl,rfl,O (by rw[List.take_zero,List.map_nil];exact fd kz.out _ _ _)⟩
   case round=>
    obtain⟨j,v,hj,rfl,rfl,HC⟩:=hrel
    cases gk with
    |zero=>
     have Ma:j=n:=(by omega);subst Ma;have wj:¬((j:Int)<(j:Int)):=(by omega);have ja:=HC.out.2.2.head;dsimp only at ja;rw[OP (by rw[HN.out];omega)] at ja;obtain⟨A5,c5,e5,LT⟩:=cw ja;subst e5;have KL:=World.ownsRow_lit (base:=w.heap.size) (e:=9) (size:=1) wr #[OA (bs S2)] 1 HC.out.1.size (by decide) rfl;have KN:=LT.below ((Below.refl _ _).alloc (OE _) (OB #[OA (bs S2)] 9));have Lk:=O KL;have KI:=O KN;have K0:=O (HC.out.1.alloc HC.out.1.size (OB #[OA (bs S2)] 9));have KQ:Hid (([S2]++xs.map λp=>cP p.1 bI).flatten=KF):=O (by rw[<-D.out];simp[List.flatMap]);have LX:Hid (([S2]++xs.map λp=>cP p.1 bI).flatten.length<=1000000):=O (FZ Ip M0.out (by rw[HN.out];omega));have K2:Hid ((xs.map λp=>cP p.1 bI).length=j):=O (by rw[OC,HN.out]);have LJ:(xs.map λp=>aM (cP p.1 bI))=(xs.map λp=>cP p.1 bI).map aM:=(by rw[Ox];rfl);rw[LJ] at KI;have Lp:=O Kr;clear ja LT KL KN LJ Kr;generalize (xs.map λp=>cP p.1 bI)=TS at*;go_wp2_with (first|(at_builtin;refine cr ik rfl rfl (m:=j) (news:=TS.map aM) rfl Lk.out rfl (by rw[OC,K2.out,Nat.mul_one]) KI.out (by intro u hu;obtain⟨b,_,rfl⟩:=List.mem_map.1 hu;rfl) (by have:=Lp.out;omega) (Og HC.out.1.size (by simp)) ?_;intro v1 W1 LL LD _;obtain⟨g1,c1,e1,K6,dY,KK⟩:=Gs (ts:=[S2]++TS) LL (by have:=K2.out;simp;omega) (by simp);subst e1;have Lc:=O (K0.out.grown LD K0.out.size (λk hk=>(Lk.out.lt k hk).1));have CJ:=O (pD g1 0 c1 ([S2]++TS) W1 dY KK (by have:=K2.out;have:=Lp.out;simp;omega) K6 LX.out);clear LL LD K6 dY KK)|(go_at_call 109;refine CJ.out.mono ?_;rintro e w8 ⟨rfl,K4⟩;have KO:=O K4;clear K4))
     go_ret2;refine⟨?_,Lc.out.trans (KO.out.mono Lc.out.size)⟩;rw[<-KQ.out];rfl
    |succ gg=>
     have wj:((j:Int)<(n:Int)):=(by omega);have K8:j<(V xs):=(by rw[HN.out];omega);obtain⟨A5,c5,e5,_⟩:=cw HC.out.2.2.head;dsimp only at e5;subst e5;obtain⟨Mo,rfl,_,c0,c1⟩:=qE (HA.out.row.below HC.out.1) j K8;have Ly:=(HA.out.bl _ (OR K8)).below (HC.out.1.alloc HC.out.1.size (OB #[U Z xs[j].1.dc,J xs[j].2.1 xs[j].1.l.length xs[j].2.2] 93));have Lw:=HT.out.below (HC.out.1.alloc HC.out.1.size (OB #[U Z xs[j].1.dc,J xs[j].2.1 xs[j].1.l.length xs[j].2.2] 93));have Lv:=Hs.out.below (HC.out.1.alloc HC.out.1.size (OB #[U Z xs[j].1.dc,J xs[j].2.1 xs[j].1.l.length xs[j].2.2] 93));have CB:=O (D4 xs[j].1 xs[j].2.1 xs[j].1.l.length xs[j].2.2 bI _ Ly rfl (Le.out _ (OR K8)) Lw Lv);have K1:=O (ao HC.out (OB #[U Z xs[j].1.dc,J xs[j].2.1 xs[j].1.l.length xs[j].2.2] 93));have q0:=K1.out.2.1.tail.tail.head.cell 0;dsimp only at q0;have KE:=O (OY (l:=xs) (i:=j));have Lg:=O (List.getElem?_eq_getElem K8);obtain⟨⟨⟨Lq,lj⟩,Aj,cj⟩,LM⟩:∃p,xs[j]=p:=⟨_,rfl⟩;rw[LM] at c0 c1 CB K1 q0 Lg;dsimp only at c0 c1 CB K1 q0;obtain⟨LU,K5⟩:∃B,cP ⟨Lq,lj⟩ bI=B:=⟨_,rfl⟩;rw[K5] at CB;have Lf:=O K5;clear K5;have Md:OU.wrap ((j:Int)+1)=(j:Int)+1:=(by rw[OL];omega);have HJ:=O hj;obtain⟨nj,LK⟩:∃nj,V lj=nj:=⟨_,rfl⟩;rw[LK] at c1 CB K1 q0;clear LK;clear LM Ly Lw Lv hj K8;go_wp2_with (first|(go_at_call 112;refine CB.out.mono ?_;rintro e w6 ⟨rfl,dE⟩;have K:=O (aO K1.out dE);clear dE q0)|(at_builtin;refine bW ik rfl rfl 1 [aM LU] rfl K.out rfl rfl (mU _) (by have:=HJ.out;omega) ⟨OE _,K.out.1.size⟩ (by simp) (by simp) ?_;intro v1 W1 LA;have LW:=O LA;clear LA))
     go_roundg gg
     case measure=>omega
     case rel=>
      refine⟨j+1,v1,by have:=HJ.out;omega,rfl,rfl,O ?_⟩;rw[KE.out,Lg.out,OI];show ar _ _ [⟨_,_,_,_,_,_++[aM (cP ⟨Lq,lj⟩ bI)]⟩] _;rw[Lf.out];exact LW.out
end Go.Proofs.YthhijgcfbjcgiaaGreatDoor
