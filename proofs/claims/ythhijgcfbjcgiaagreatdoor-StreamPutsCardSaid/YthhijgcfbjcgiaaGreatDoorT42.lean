/- BPut, MPut -/
import Derived.Test.YthhijgcfbjcgiaaGreatDoorT27
import Derived.Test.YthhijgcfbjcgiaaGreatDoorT41
import Derived.Test.YthhijgcfbjcgiaaGreatDoorT34
namespace Go.Proofs.YthhijgcfbjcgiaaGreatDoor
open Go Go.RowKit
attribute [local go_sem] Oper.semAt_some
set_option maxHeartbeats 16000000
set_option maxRecDepth 100000
open Go.Lib renaming hid→O,IsBuilder→OF,BuilderAt→Ou,join→Ow
open Go.Value renaming int→U,bool→X,slice→J,string→OA,pointer→OH
open Go.IntKind renaming i64→Z,wrap_i64→OL,i64→OU
open List renaming length→V,length_append→Y,length_map→OC,append_assoc→OG,map_append→OI,setIfInBounds_toArray→OM,getElem?_map→OO,take_of_length_le→OP,all_eq_true→OQ,getElem_mem→OR,append_nil→OS,mem_of_getElem?→OT,set_cons_succ→OV,set_cons_zero→OW,take_add_one→OY,drop_eq_getElem_cons→OZ,length_cons→Ob,drop_eq_nil_of_le→Od,getElem?_range→Oe,flatten_cons→Ol,length_take→On,map_map→Ox
open Go.Obj renaming cells→OB
open Nat renaming le_of_lt→OD,le_refl→OE,lt_of_lt_of_le→OJ,eq_zero_or_pos→Of,le_trans→Og,lt_or_ge→Oy,zero_add→Oz
open Tryz renaming prog→ON,Builder_String_any→Oc,ntmps63→Oh,func63→Om,ntmps112→Ov,func112→O0
open Go.Ending renaming returned→OX
open Bool renaming and_eq_true→Oa,or_eq_true→Oq
open Go.Proofs.YthhijgcfbjcgiaaGreatDoor.bY renaming take→Oi
open Int renaming toNat_natCast→Oj
open Go.World renaming size_alloc→Oo,drew→Ot
theorem kO:∀(l:List (Int×Int))(a:Int),0<=a->a<=64->bG l a=0->(V l:Int)+a<=64/\∀p∈l,dZ p=true
 |[],a,h0,h1,_=>⟨by simpa using h1,λp B=>by cases B⟩
 |p::l,a,h0,h1,h=>by
  rw[kv] at h
  split at h
  ·omega
  ·rename_i c1
   split at h
   ·omega
   ·rename_i c2
    simp only[Oq,Bool.not_eq_true',beq_iff_eq,decide_eq_true_eq,not_or,Bool.and_eq_false_iff,decide_eq_false_iff_not] at c1 c2;obtain⟨i1,C⟩:=kO l (a+p.1+1) (by omega) (by omega) h;refine⟨by simp only[Ob];omega,λq j=>?_⟩;rcases List.mem_cons.1 j with rfl|j
    ·simp only[dZ,Oa,decide_eq_true_eq,bne_iff_ne,ne_eq]
     omega
    ·exact C q j
theorem qe {x:bH}{intra:Bool}(h:bP x intra=0):bG x.l (dl intra)=0/\(intra=true->1<=x.dc/\x.dc<=255):=by
 unfold bP at h
 split at h
 ·omega
 ·rename_i c1
  split at h
  ·omega
  ·refine⟨h,λj=>?_⟩
   subst j;simp only[Bool.true_and,Oq,beq_iff_eq,decide_eq_true_eq,not_or] at c1;omega
theorem kH (p:Int×Int)(f:Bool):(cw p f).length<=21:=by
 unfold cw
 split
 ·simp[kT,ak,fi]
 ·have h:=lH p (aL f) (rD f)
  rw[Y];have h2:(if p.2<0 then[(49:UInt8)] else[48]).length=1:=(by split<;>rfl);omega
theorem FD (d j:Nat)(h:j<8):(ak d 8).take (j+1)=(ak d 8).take j++[if d / 2 ^ (7 - j) % 2=0 then 48 else 49]:=by
 rw[OY];congr 1
 have B:(ak d 8)[j]? =some (if d / 2 ^ (7 - j) % 2=0 then 48 else 49):=by
  unfold ak;rw[OO,Oe h];rfl
 rw[B];rfl
theorem G6 (d j:Nat):(48:Int)+((d / 2 ^ j % 2:Nat):Int)=(((if d / 2 ^ j % 2=0 then 48 else 49:UInt8).toNat:Nat):Int):=by
 have h:d / 2 ^ j % 2=0\/d / 2 ^ j % 2=1:=by omega
 rcases h with h|h<;>rw[h]<;>rfl
theorem rL {T e:TypeId}{B b:Nat}{p:Value}{cs:List Value}{w w':World}(h:Ou T e B b p cs w)(D:Below w.heap.size w w'):Ou T e B b p cs w':=by
 have hl:=h.lt;obtain⟨G,v,j,I,C⟩:=h;exact⟨G,v,(D.block b hl).trans j,bL I D (OE _),C⟩
theorem gG {T e:TypeId}{B b:Nat}{cs:List Value}{w w':World}(h:OF T e B b cs w)(j:Below w.heap.size w w'):OF T e B b cs w':=by
 rcases h with h|h
 ·exact .inl (rL h j)
 ·exact .inr (rL h j)
theorem mh {w W j:World}{p:aM}{B:Nat}(h:ay w [p] [] W)(C:Below B W j)(D:w.heap.size<=B)(h2:p.1<B):ay w [p] [] j:=
 ⟨h.1.trans (C.mono D),aa.cons (h.2.1.head.below C h2) (ai _),aF _⟩
theorem DL (x:bH)(A:Option Addr)(n c:Nat)(intra:Bool)(w:World)(hS:Sl w A (az bd x.l))(hn:V x.l=n)(hc:bP x intra=0)(hT:Tz w)(hs:Ts w):
  Calls ON 112 #[.agg #[U Z x.dc,J A n c],X intra] w λe w'=>e=OX (.tuple #[OA (bs (bN x intra)),U Z 0])/\Below w.heap.size w w':=by
 obtain⟨KJ,KG⟩:=qe hc;have KH:0<=dl intra/\dl intra<=1:=by cases intra<;>decide
 obtain⟨KU,KI⟩:=kO x.l (dl intra) KH.1 (by omega) KJ;have KV:n<=64:=by omega
 have C1:=O (λW hW=>qB x A n c intra W hW hn (by omega));rw[hc] at C1;obtain⟨BP,Kt⟩:∃BP,bN x intra=BP:=⟨_,rfl⟩;rw[Kt];unfold bN at Kt;obtain⟨dc,l⟩:=x;dsimp only at*;have HS:=O hS;have HN:=O hn;have HT:=O hT;have Hs:=O hs;have KF:=O KI;have K6:=O Kt;clear hS hn hT hs KI Kt hc KJ KH KU;have hX:ab (w.alloc (OB #[U Z dc,J A n c] 93)) w.heap.size 93 #[U Z dc,J A n c]:=ab.new w _ _;have HX:=O hX;have eE:=O ((Below.refl w.heap.size w).alloc (OE _) (OB #[U Z dc,J A n c] 93));have K9:=O (HS.out.below eE.out);clear hX
 cases intra with
 |false=>
  simp only[Bool.not_false,Bool.false_eq_true,if_false,List.nil_append] at K6;clear KG
  go_enter O0,Ov
  go_wp2_with (go_at_call 130;refine(C1.out _ K9.out).mono ?_;rintro e w2 ⟨rfl,kU⟩;have dv:=O (HX.out.below kU HX.out.lt);have fJ:=O (eE.out.trans (kU.mono eE.out.size));clear kU;have hz:=dv.out.alloc (OB #[OH none,J none 0 0] 174);have x0:=hz.cell 0;have x1:=hz.cell 1;clear hz)
  obtain⟨b,hb⟩:∃b,w2.heap.size=b:=⟨_,rfl⟩;have jY:ay w [(w.heap.size,93,#[U Z dc,J A n c])] [] (w2.alloc (OB #[OH none,J none 0 0] 174)):=⟨fJ.out.alloc fJ.out.size _,aa.cons (dv.out.alloc _) (ai _),aF _⟩;have kA:OF 174 5 b b [] (w2.alloc (OB #[OH none,J none 0 0] 174)):=hb▸qf w2;have Ht:(w2.alloc (OB #[OH none,J none 0 0] 174)).heap.size=b+1:=(by rw[Oo,hb]);have K5:w.heap.size<b:=hb▸dv.out.lt;rw[hb];clear x0 x1;generalize w2.alloc (OB #[OH none,J none 0 0] 174)=W0 at jY kA Ht⊢;have Kw:=O jY;have Ky:=O kA;have KA:=O Ht;have M:=O K5;clear hb jY kA Ht K5 dv fJ HX eE K9 C1
  go_loopg [35] n (λg v=> λwr=>∃(j:Nat)(B:List UInt8),j+g=n/\v=U Z (j:Int)/\V B<=8+21*j/\Hid (B++(bR (l.drop j) (if j=0 then true else false)++bz)=BP)/\Hid (OF 174 5 b b (B.map ag) wr)/\Hid (ay w [(w.heap.size,93,#[U Z dc,J A n c])] [] wr)/\Hid (b<wr.heap.size))
  case atStart=>exact⟨0,[],by omega,rfl,by simp,O (by rw[<-K6.out];simp),Ky,Kw,O (by rw[KA.out];omega)⟩
  case round=>
   obtain⟨j,B,hj,rfl,dO,HA,HI,HC,HZ⟩:=hrel
   cases gk with
   |zero=>
    have KE:j=n:=(by omega);subst KE;have K3:¬((j:Int)<(j:Int)):=(by omega);have Ku:Hid (Calls ON 153 #[OH (some ⟨b,0,none⟩)] wr λe w'=>e=OX (OA (bs B))/\Below b wr w'):=O (Oc b b B wr HI.out (by have:=HZ.out;omega));have KQ:V B<=1352:=(by omega);have KR:V bz=2:=rfl;have KT:V B+V bz<=1354:=(by omega);have HE:=O (show B++bz=BP by have h:=HA.out;rw[Od (by rw[HN.out];omega)] at h;exact h);go_wp2_with (first|(go_at_call 153;refine Ku.out.mono ?_;rintro e w' ⟨rfl,K0⟩;have Kv:=O K0;clear K0)|(go_at_call 166;refine(uj _).mono ?_;rintro e w' ⟨rfl,rfl⟩))
    go_ret2;refine⟨?_,HC.out.1.trans (Kv.out.mono (by have:=HZ.out;have:=M.out;omega))⟩;rw[<-HE.out,<-ug];rfl
   |succ g=>
    have K3:((j:Int)<(n:Int)):=(by omega);have Hl:j<(V l):=(by rw[HN.out];omega);obtain⟨ad,rfl,KN,c0,c1⟩:=fH (HS.out.below HC.out.1) j Hl;have JT:=O (KF.out l[j] (OR _));have HD:=O (OZ Hl);obtain⟨⟨p1,p2⟩,K4⟩:∃p,l[j]=p:=⟨_,rfl⟩;rw[K4] at c0 c1 JT HD;dsimp only at c0 c1;have KK:OU.wrap ((j:Int)+1)=(j:Int)+1:=(by rw[OL];omega);clear K4 Hl;have G:=O dO;have HJ:=O hj;obtain⟨g0,KO⟩:∃g0,wr.heap.size=g0:=⟨_,rfl⟩;have Kz:=O (HT.out.below (HC.out.1.alloc HC.out.1.size (OB #[U Z p1,U Z p2] 189)));have KC:=O (Hs.out.below (HC.out.1.alloc HC.out.1.size (OB #[U Z p1,U Z p2] 189)));have CP:=O (λf=>uk (p1,p2) f _ Kz.out KC.out JT.out);dsimp only at CP;have HW:=O (λl2 w3 h1 h2 h3=>iI b b (B.map ag) l2 w3 h1 h2 h3);obtain⟨DJ,rG⟩:∃DJ,l.drop (j+1)=DJ:=⟨_,rfl⟩;rw[rG] at HD;have Hu:=O rG;clear rG dO hj;rcases Of j with bM|bM
    ·have HF:=O (kH (p1,p2) true)
     have KD:((j:Int)==0)=true:=(by simp;omega);have jg:=O bM;clear bM
     have T:Hid (B++cw (p1,p2) true++(bR DJ (if j+1=0 then true else false)++bz)=BP):=O (by
      have h:=HA.out;rw[HD.out,if_pos jg.out] at h;rw[if_neg (by omega),<-h];show _=B++(cw (p1,p2) true++bR DJ false++bz);simp only[OG])
     obtain⟨cp,aJ⟩:∃cp,cw (p1,p2) true=cp:=⟨_,rfl⟩;have N:=O (CP.out true);rw[aJ] at HF T N;clear aJ HA HD;have I:=O (show (B.map ag).length+V cp<=140737488355328 by rw[OC];have:=HF.out;have:=G.out;omega);go_wp2_with (first|(go_at_call 164;refine N.out.mono ?_;rintro e w3 ⟨rfl,C⟩;have iP:=O (gG (gG HI.out ((Below.refl _ _).alloc (OE _) _)) C);have gj:=O (aQ (ap HC.out _) C);have av:=O (show b<w3.heap.size by have:=HZ.out;have:=C.size;simp at this;omega);clear C)|(go_at_call 165;refine(iI b b _ _ _ iP.out I.out (OD av.out)).mono ?_;rintro e w4 ⟨rfl,K,D⟩;have cI:=O K;have cE:=O (mh gj.out D (OD M.out) M.out);have dy:=O (OJ av.out D.size);clear K D))
     go_roundg g
     case measure=>omega
     case rel=>
      refine⟨j+1,B++cp,by have:=HJ.out;omega,rfl,by rw[Y];have:=HF.out;have:=G.out;omega,?_,O (by rw[OI];exact cI.out),cE,dy⟩;rw[Hu.out];exact T
    ·have HF:=O (kH (p1,p2) false)
     have KD:((j:Int)==0)=false:=(by simp;omega);have jg:=O bM;clear bM
     have T:Hid (B++cw (p1,p2) false++(bR DJ (if j+1=0 then true else false)++bz)=BP):=O (by
      have h:=HA.out;rw[HD.out,if_neg (by have:=jg.out;omega)] at h;rw[if_neg (by omega),<-h];show _=B++(cw (p1,p2) false++bR DJ false++bz);simp only[OG])
     obtain⟨cp,aJ⟩:∃cp,cw (p1,p2) false=cp:=⟨_,rfl⟩;have N:=O (CP.out false);rw[aJ] at HF T N;clear aJ HA HD;have I:=O (show (B.map ag).length+V cp<=140737488355328 by rw[OC];have:=HF.out;have:=G.out;omega);go_wp2_with (first|(go_at_call 164;refine N.out.mono ?_;rintro e w3 ⟨rfl,C⟩;have iP:=O (gG (gG HI.out ((Below.refl _ _).alloc (OE _) _)) C);have gj:=O (aQ (ap HC.out _) C);have av:=O (show b<w3.heap.size by have:=HZ.out;have:=C.size;simp at this;omega);clear C)|(go_at_call 165;refine(iI b b _ _ _ iP.out I.out (OD av.out)).mono ?_;rintro e w4 ⟨rfl,K,D⟩;have cI:=O K;have cE:=O (mh gj.out D (OD M.out) M.out);have dy:=O (OJ av.out D.size);clear K D))
     go_roundg g
     case measure=>omega
     case rel=>
      refine⟨j+1,B++cp,by have:=HJ.out;omega,rfl,by rw[Y];have:=HF.out;have:=G.out;omega,?_,O (by rw[OI];exact cI.out),cE,dy⟩;rw[Hu.out];exact T
 |true=>
  obtain⟨KW,KX⟩:=KG rfl;obtain⟨d,rfl⟩:∃d:Nat,dc=(d:Int):=⟨dc.toNat,by omega⟩;simp only[Bool.not_true,if_true,Oj] at K6
  go_enter O0,Ov
  go_wp2_with (go_at_call 130;refine(C1.out _ K9.out).mono ?_;rintro e w2 ⟨rfl,kU⟩;have dv:=O (HX.out.below kU HX.out.lt);have fJ:=O (eE.out.trans (kU.mono eE.out.size));clear kU;have hz:=dv.out.alloc (OB #[OH none,J none 0 0] 174);have x0:=hz.cell 0;have x1:=hz.cell 1;clear hz)
  obtain⟨b,hb⟩:∃b,w2.heap.size=b:=⟨_,rfl⟩;have jY:ay w [(w.heap.size,93,#[U Z (d:Int),J A n c])] [] (w2.alloc (OB #[OH none,J none 0 0] 174)):=⟨fJ.out.alloc fJ.out.size _,aa.cons (dv.out.alloc _) (ai _),aF _⟩;have kA:OF 174 5 b b [] (w2.alloc (OB #[OH none,J none 0 0] 174)):=hb▸qf w2;have Ht:(w2.alloc (OB #[OH none,J none 0 0] 174)).heap.size=b+1:=(by rw[Oo,hb]);have K5:w.heap.size<b:=hb▸dv.out.lt;rw[hb];clear x0 x1;generalize w2.alloc (OB #[OH none,J none 0 0] 174)=W0 at jY kA Ht⊢;have Kw:=O jY;have Ky:=O kA;have KA:=O Ht;have M:=O K5;clear hb jY kA Ht K5 dv fJ HX eE K9 C1
  go_loopg [8] 8 (λg v=> λwr=>∃j:Nat,j+g=8/\v=U Z (7 - (j:Int))/\Hid (OF 174 5 b b (((ak d 8).take j).map ag) wr)/\Hid (ay w [(w.heap.size,93,#[U Z (d:Int),J A n c])] [] wr)/\Hid (b<wr.heap.size))
  case atStart=>exact⟨0,by omega,rfl,Ky,Kw,O (by rw[KA.out];omega)⟩
  case round=>
   obtain⟨j,hj,rfl,K8,Kx,KB⟩:=hrel;have hs:=Kx.out.2.1.head;dsimp only at hs;have x0:=hs.cell 0;have x1:=hs.cell 1;clear hs
   cases gk with
   |zero=>
    obtain rfl:j=8:=by omega
    have K3:¬(0<=7 - ((8:Nat):Int)):=(by omega);go_wp2_with fail
    have K8:Hid (OF 174 5 b b ((ak d 8).map ag) wr):=O (by have h:=K8.out;rwa [OP (by simp[ak])] at h);clear x0 x1
    go_loopg [35] n (λg v=> λwr=>∃(j:Nat)(B:List UInt8),j+g=n/\v=U Z (j:Int)/\V B<=8+21*j/\Hid (B++(bR (l.drop j) (if j=0 then false else false)++bz)=BP)/\Hid (OF 174 5 b b (B.map ag) wr)/\Hid (ay w [(w.heap.size,93,#[U Z (d:Int),J A n c])] [] wr)/\Hid (b<wr.heap.size))
    case atStart=>exact⟨0,ak d 8,by omega,rfl,by simp[ak],O (by rw[<-K6.out];simp),K8,Kx,KB⟩
    case round=>
     obtain⟨j,B,hj,rfl,dO,HA,HI,HC,HZ⟩:=hrel
     cases gk with
     |zero=>
      have KE:j=n:=(by omega);subst KE;have K3:¬((j:Int)<(j:Int)):=(by omega);have Ku:Hid (Calls ON 153 #[OH (some ⟨b,0,none⟩)] wr λe w'=>e=OX (OA (bs B))/\Below b wr w'):=O (Oc b b B wr HI.out (by have:=HZ.out;omega));have KQ:V B<=1352:=(by omega);have KR:V bz=2:=rfl;have KT:V B+V bz<=1354:=(by omega);have HE:=O (show B++bz=BP by have h:=HA.out;rw[Od (by rw[HN.out];omega)] at h;exact h);go_wp2_with (first|(go_at_call 153;refine Ku.out.mono ?_;rintro e w' ⟨rfl,K0⟩;have Kv:=O K0;clear K0)|(go_at_call 166;refine(uj _).mono ?_;rintro e w' ⟨rfl,rfl⟩))
      go_ret2;refine⟨?_,HC.out.1.trans (Kv.out.mono (by have:=HZ.out;have:=M.out;omega))⟩;rw[<-HE.out,<-ug];rfl
     |succ g=>
      have K3:((j:Int)<(n:Int)):=(by omega);have Hl:j<(V l):=(by rw[HN.out];omega);obtain⟨ad,rfl,KN,c0,c1⟩:=fH (HS.out.below HC.out.1) j Hl;have JT:=O (KF.out l[j] (OR _));have HD:=O (OZ Hl);obtain⟨⟨p1,p2⟩,K4⟩:∃p,l[j]=p:=⟨_,rfl⟩;rw[K4] at c0 c1 JT HD;dsimp only at c0 c1;have KK:OU.wrap ((j:Int)+1)=(j:Int)+1:=(by rw[OL];omega);clear K4 Hl;have G:=O dO;have HJ:=O hj;obtain⟨g0,KO⟩:∃g0,wr.heap.size=g0:=⟨_,rfl⟩;have Kz:=O (HT.out.below (HC.out.1.alloc HC.out.1.size (OB #[U Z p1,U Z p2] 189)));have KC:=O (Hs.out.below (HC.out.1.alloc HC.out.1.size (OB #[U Z p1,U Z p2] 189)));have CP:=O (λf=>uk (p1,p2) f _ Kz.out KC.out JT.out);dsimp only at CP;have HW:=O (λl2 w3 h1 h2 h3=>iI b b (B.map ag) l2 w3 h1 h2 h3);obtain⟨DJ,rG⟩:∃DJ,l.drop (j+1)=DJ:=⟨_,rfl⟩;rw[rG] at HD;have Hu:=O rG;clear rG dO hj;rcases Of j with bM|bM
      ·have HF:=O (kH (p1,p2) false)
       have KD:((j:Int)==0)=true:=(by simp;omega);have jg:=O bM;clear bM
       have T:Hid (B++cw (p1,p2) false++(bR DJ (if j+1=0 then false else false)++bz)=BP):=O (by
        have h:=HA.out;rw[HD.out,if_pos jg.out] at h;rw[if_neg (by omega),<-h];show _=B++(cw (p1,p2) false++bR DJ false++bz);simp only[OG])
       obtain⟨cp,aJ⟩:∃cp,cw (p1,p2) false=cp:=⟨_,rfl⟩;have N:=O (CP.out false);rw[aJ] at HF T N;clear aJ HA HD;have I:=O (show (B.map ag).length+V cp<=140737488355328 by rw[OC];have:=HF.out;have:=G.out;omega);go_wp2_with (first|(go_at_call 164;refine N.out.mono ?_;rintro e w3 ⟨rfl,C⟩;have iP:=O (gG (gG HI.out ((Below.refl _ _).alloc (OE _) _)) C);have gj:=O (aQ (ap HC.out _) C);have av:=O (show b<w3.heap.size by have:=HZ.out;have:=C.size;simp at this;omega);clear C)|(go_at_call 165;refine(iI b b _ _ _ iP.out I.out (OD av.out)).mono ?_;rintro e w4 ⟨rfl,K,D⟩;have cI:=O K;have cE:=O (mh gj.out D (OD M.out) M.out);have dy:=O (OJ av.out D.size);clear K D))
       go_roundg g
       case measure=>omega
       case rel=>
        refine⟨j+1,B++cp,by have:=HJ.out;omega,rfl,by rw[Y];have:=HF.out;have:=G.out;omega,?_,O (by rw[OI];exact cI.out),cE,dy⟩;rw[Hu.out];exact T
      ·have HF:=O (kH (p1,p2) false)
       have KD:((j:Int)==0)=false:=(by simp;omega);have jg:=O bM;clear bM
       have T:Hid (B++cw (p1,p2) false++(bR DJ (if j+1=0 then false else false)++bz)=BP):=O (by
        have h:=HA.out;rw[HD.out,if_neg (by have:=jg.out;omega)] at h;rw[if_neg (by omega),<-h];show _=B++(cw (p1,p2) false++bR DJ false++bz);simp only[OG])
       obtain⟨cp,aJ⟩:∃cp,cw (p1,p2) false=cp:=⟨_,rfl⟩;have N:=O (CP.out false);rw[aJ] at HF T N;clear aJ HA HD;have I:=O (show (B.map ag).length+V cp<=140737488355328 by rw[OC];have:=HF.out;have:=G.out;omega);go_wp2_with (first|(go_at_call 164;refine N.out.mono ?_;rintro e w3 ⟨rfl,C⟩;have iP:=O (gG (gG HI.out ((Below.refl _ _).alloc (OE _) _)) C);have gj:=O (aQ (ap HC.out _) C);have av:=O (show b<w3.heap.size by have:=HZ.out;have:=C.size;simp at this;omega);clear C)|(go_at_call 165;refine(iI b b _ _ _ iP.out I.out (OD av.out)).mono ?_;rintro e w4 ⟨rfl,K,D⟩;have cI:=O K;have cE:=O (mh gj.out D (OD M.out) M.out);have dy:=O (OJ av.out D.size);clear K D))
       go_roundg g
       case measure=>omega
       case rel=>
        refine⟨j+1,B++cp,by have:=HJ.out;omega,rfl,by rw[Y];have:=HF.out;have:=G.out;omega,?_,O (by rw[OI];exact cI.out),cE,dy⟩;rw[Hu.out];exact T
   |succ g=>
    have K3:(0<=7 - (j:Int)):=(by omega);have KK:OU.wrap (7 - (j:Int) - 1)=7 - ((j:Int)+1):=(by rw[OL];omega);have I:=O (show (((ak d 8).take j).map ag).length+1<=140737488355328 by rw[OC,On];omega);have KM:=O (FD d j (by omega));have KL:=O (G6 d (7 - j));go_wp2_with (go_at_call 152;refine(kE b b _ (48+(d:Int) / 2 ^ (7 - j) % 2) _ K8.out I.out (OD KB.out)).mono ?_;rintro e w4 ⟨rfl,K,D⟩;have cI:=O K;have cE:=O (mh Kx.out D (OD M.out) M.out);have dy:=O (OJ KB.out D.size);clear K D)
    go_roundg g
    case measure=>omega
    case rel=>
     refine⟨j+1,by omega,by congr 1,O ?_,cE,dy⟩;have h:=cI.out;rw[KM.out,OI];rw[show (48+(d:Int) / 2 ^ (7 - j) % 2)=(48:Int)+((d / 2 ^ (7 - j) % 2:Nat):Int) by push_cast;rfl,KL.out] at h;exact h
theorem xo (ts:List (List UInt8)):Ow ts []=ts.flatten:=by
 cases ts with
 |nil=>rfl
 |cons t ts=>
  rw[Lib.join_cons];unfold Lib.joinTail;simp
theorem pp (G o c:Nat)(ts:List (List UInt8))(w:World)(B:∀(j:Nat) t,ts[j]? =some t->w.cell? ⟨G,o+j,none⟩=some (OA (bs t))) (K:G<w.heap.size) (hN:V ts<=1000) (D:V ts<=c) (M:V ts.flatten<=1000000):
  Calls ON 109 #[J (some ⟨G,o,none⟩) (V ts) c] w λe w'=>e=OX (OA (bs ts.flatten))/\Below w.heap.size w w':=by
 have T:((ts.map bs).map (·.data.toList))=ts:=by rw[Ox];exact(List.map_congr_left (λt _=>eH t)).trans (List.map_id _)
 have C:=Tryz.strings_Join G o c (ts.map bs) ⟨#[]⟩ w (λj t h=>by
  rw[OO] at h;obtain⟨t',h1,rfl⟩:=Option.map_eq_some_iff.1 h;exact B j t' h1) K (by rw[OC];omega) (by rw[OC];exact D) (by rw[T];show (Ow ts []).length<=_;rw[xo];omega)
 rw[T,OC] at C
 have C:=O (show Calls ON 160 #[J (some ⟨G,o,none⟩) (V ts) c,OA ⟨#[]⟩] w λe w'=>e=OX (OA (bs ts.flatten))/\Below w.heap.size w w' by
  have h:Ow ts (ByteArray.mk #[]).data.toList=ts.flatten:=xo ts;rw[h] at C;exact C)
 generalize (V ts)=n at*;generalize ts.flatten=t at*;clear B K hN D M T
 go_enter Tryz.func109,Tryz.ntmps109
 go_wp2_with (go_at_call 160;refine C.out.mono ?_;rintro e w2 ⟨rfl,I⟩;have N:=O I;clear I)
 go_ret;exact⟨rfl,N.out⟩
theorem DW (d j:Nat)(h:j<5):(ak d 5).take (j+1)=(ak d 5).take j++[if d / 2 ^ (4 - j) % 2=0 then 48 else 49]:=by
 rw[OY];congr 1
 have B:(ak d 5)[j]? =some (if d / 2 ^ (4 - j) % 2=0 then 48 else 49):=by
  unfold ak;rw[OO,Oe h];rfl
 rw[B];rfl
theorem pj (k:Int):(eM k).length<=24:=by
 unfold eM
 cases h:eh aD 1 k with
 |none=>simp
 |some c=>
  unfold eh at h
  split at h
  ·cases h
  ·have B:=OT h
   have j:aD.all (λc=>decide (V c<=24))=true:=by kernel_rfl
   simpa using OQ.1 j c B
theorem GO (k:Int):(cf k).length<=24:=by
 unfold cf
 cases h:eh ao (-16) k with
 |none=>simp
 |some c=>
  unfold eh at h
  split at h
  ·cases h
  ·have B:=OT h
   have j:ao.all (λc=>decide (V c<=24))=true:=by kernel_rfl
   simpa using OQ.1 j c B
theorem it (a b:Int):(fA a b).length<=24:=GO _
theorem oq (k:Int):(iW k).length<=24:=by
 unfold iW
 cases h:eh bm 1 k with
 |none=>simp
 |some c=>
  unfold eh at h
  split at h
  ·cases h
  ·have B:=OT h
   have j:bm.all (λc=>decide (V c<=24))=true:=by kernel_rfl
   simpa using OQ.1 j c B
theorem ul:∀(l:List (Int×Int))(f:Bool),(bR l f).length<=21*V l
 |[],_=>by simp[bR]
 |p::l,f=>by
  have j:=kH p f;have h2:=ul l false;show (cw p f++bR l false).length<=_;rw[Y,Ob];omega
theorem Fu {x:bH}{intra:Bool}(h:bP x intra=0):(bN x intra).length<=1400:=by
 obtain⟨B,_⟩:=qe h;have j:0<=dl intra/\dl intra<=1:=by cases intra<;>decide
 obtain⟨h2,_⟩:=kO x.l (dl intra) j.1 (by omega) B;have D:=ul x.l (!intra);have C:V bz=2:=rfl;unfold bN;rw[Y,Y,C]
 split
 ·simp[ak];omega
 ·simp;omega
theorem FH {C:List UInt8}{xs:List dB}{B:Bool}(I:V C<=101)(h2:∀p∈xs,(bN p.1 B).length<=1400) (K:V xs<=64):([C]++xs.map λp=>bN p.1 B).flatten.length<=1000000:=by
 have h:∀j:List dB,(∀p∈j,(bN p.1 B).length<=1400)->(j.map λp=>bN p.1 B).flatten.length<=1400*(V j):=by
  intro j
  induction j with
  |nil=>intro _;simp
  |cons y j ih=>
   intro D;have a:=D y (by simp);have b:=ih (λp G=>D p (by simp[G]));rw[List.map_cons,Ol,Y,Ob];omega
 have M:=h xs h2;rw[List.flatten_append,Y];simp only[Ol,List.flatten_nil,OS];omega
theorem F9 {w:World}{base n:Nat}{v:Value}{ts:List (List UInt8)}(h:w.ownsRow base 9 1 v n (ts.map aR))(N:n=V ts)(T:0<V ts):∃g c,v=J (some ⟨g,0,none⟩) (V ts) c/\V ts<=c/\(∀(j:Nat) t,ts[j]? =some t->w.cell? ⟨g,0+j,none⟩=some (OA (bs t)))/\g<w.heap.size:=by
 subst N;rcases h.2 with⟨rfl,G⟩|⟨g,C,K,rfl,M,I,G,h2,h3,h4⟩
 ·omega
 ·refine⟨g,C,rfl,G,λj t D=>?_,?_⟩
  ·have hl:j<(V ts):=by
    rcases Oy j (V ts) with B|B
    ·exact B
    ·rw[List.getElem?_eq_none B] at D;cases D
   rw[Oz,h.cellAt j (by omega),OO,D]
   rfl
  ·rcases Oy g w.heap.size with B|B
   ·exact B
   ·rw[Array.getElem?_eq_none B] at I;cases I
theorem Ec (m:aX)(x:bA)(xs:List dB)(A:Option Addr)(c:Nat)(w:World)(hm:m.bl=xs.map (·.1))(hA:ja w A xs)(hT:Tz w)(hs:Ts w):Calls ON 63 #[dU m A (V xs) c,dY x] w λe w'=>e=OX (.tuple #[OA (bs (lE m x).1),U Z (lE m x).2])/\Below w.heap.size w w':=by
 have HA:=O hA;have HT:=O hT;have Hs:=O hs;have KT:Below w.heap.size w (w.alloc (OB #[U Z m.ad,U Z m.kd,U Z m.qu,U Z m.x,U Z m.y,U Z m.pa,J A (V xs) c] 55)):=(Below.refl _ _).alloc (OE _) _;have KR:=KT.alloc KT.size (OB #[U Z x.ad,X x.had,U Z x.x,U Z x.y] 102);have Lm:=(ab.new w 55 #[U Z m.ad,U Z m.kd,U Z m.qu,U Z m.x,U Z m.y,U Z m.pa,J A (V xs) c]).alloc (OB #[U Z x.ad,X x.had,U Z x.x,U Z x.y] 102);have Ll:ab _ (w.heap.size+1) 102 _:=aE (ab.new (w.alloc (OB #[U Z m.ad,U Z m.kd,U Z m.qu,U Z m.x,U Z m.y,U Z m.pa,J A (V xs) c] 55)) 102 #[U Z x.ad,X x.had,U Z x.x,U Z x.y]) (by simp);have CK:=O (λW hW=>qJ m xs A c W hm hW);have CA:=O (λW=>qK x m.ad W);have Ld:=O hm;have bM:lE m x=if iU m&&da x m.ad then(dD m x,0) else([],2):=rfl
 have cE:=O KR;have C:=O Lm;have G:=O Ll;have K0:=O (hA.below KR (OE _));obtain⟨OK,eE⟩:∃b,iU m=b:=⟨_,rfl⟩;obtain⟨AH,dv⟩:∃b,da x m.ad=b:=⟨_,rfl⟩;rw[eE,dv] at bM;rw[eE] at CK;rw[dv] at CA;have LT:=O eE;have LO:=O dv;clear hA hT hs KR KT Lm Ll hm eE dv;obtain⟨n,hn⟩:∃n,V xs=n:=⟨_,rfl⟩;rw[hn] at C cE G CK K0⊢;have HN:=O hn;clear hn
 cases OK with
 |false=>
  rw[Bool.false_and,if_neg (by decide)] at bM;rw[bM];clear bM;rw[if_neg (by decide)] at CK;obtain⟨ad,kd,qu,mx,my,pa,bl⟩:=m;obtain⟨la,lh,lx,ly⟩:=x;unfold dU dY at*;dsimp only at*;have m0:=C.out.cell 0;have m1:=C.out.cell 1;have m2:=C.out.cell 2;have m3:=C.out.cell 3;have m4:=C.out.cell 4;have m5:=C.out.cell 5;have m6:=C.out.cell 6
  go_enter Om,Oh
  go_wp2_with (go_at_call 76;refine(CK.out _ K0.out).mono ?_;rintro e w2 ⟨rfl,N⟩;have cI:=O N;clear N)
  go_ret2;exact⟨rfl,cE.out.trans (cI.out.mono cE.out.size)⟩
 |true=>
  rw[if_pos rfl] at CK
  cases AH with
  |false=>
   rw[Bool.and_false,if_neg (by decide)] at bM;rw[bM];clear bM;obtain⟨ad,kd,qu,mx,my,pa,bl⟩:=m;obtain⟨la,lh,lx,ly⟩:=x;unfold dU dY at*;dsimp only at*;have m0:=C.out.cell 0;have m1:=C.out.cell 1;have m2:=C.out.cell 2;have m3:=C.out.cell 3;have m4:=C.out.cell 4;have m5:=C.out.cell 5;have m6:=C.out.cell 6;have l0:=G.out.cell 0;have l1:=G.out.cell 1;have l2:=G.out.cell 2;have l3:=G.out.cell 3
   go_enter Om,Oh
   go_wp2_with (first|(go_at_call 76;refine(CK.out _ K0.out).mono ?_;rintro e w2 ⟨rfl,N⟩;have rG:=O (C.out.below N C.out.lt);have M:=O (G.out.below N G.out.lt);have cI:=O N;clear N m0 m1 m2 m3 m4 m5 m6 l0 l1 l2 l3;have m0:=rG.out.cell 0;have l0:=M.out.cell 0;have l1:=M.out.cell 1;have l2:=M.out.cell 2;have l3:=M.out.cell 3)|(go_at_call 105;refine(CA.out _).mono ?_;rintro e w3 ⟨rfl,iP⟩;have kA:=O iP;clear iP))
   go_ret2;exact⟨rfl,(cE.out.trans (cI.out.mono cE.out.size)).trans (kA.out.mono (Og cE.out.size cI.out.size))⟩
  |true=>
   rw[Bool.and_true,if_pos rfl] at bM;rw[bM];clear bM;have eE:=LT.out;have dv:=LO.out;obtain⟨ad,kd,qu,mx,my,pa,bl⟩:=m;obtain⟨la,lh,lx,ly⟩:=x;unfold iU at eE;unfold da at dv;simp only[Oa,decide_eq_true_eq] at eE dv;obtain⟨⟨⟨⟨⟨⟨⟨⟨⟨hk,Ma⟩,Mb⟩,LH⟩,LI⟩,hv⟩,hq⟩,KG⟩,LA⟩,KD⟩:=eE;obtain⟨⟨⟨⟨Lz,Hl⟩,LB⟩,LC⟩,M6⟩:=dv;have Mh:=O hk;have CO:=O (λW=>nE kd W);have L4:=O (λW=>FT kd W hk);unfold ld mR at CO;rw[hk,if_pos rfl,if_pos rfl] at CO;unfold qo at CO;unfold dU dY at*;dsimp only at*;have HV:=O hv;have HQ:=O hq;have Lf:=O KG;have L5:=O KD;have LV:=O LH;have LW:=O LI;have K5:=O LB;have LR:=O LC;have JT:=O (λW=>mP ⟨la,lh,lx,ly⟩ ad W Lz Hl (by omega));dsimp only at JT;unfold dY at JT;obtain⟨Kz,fJ⟩:∃Kz,dD ⟨ad,kd,qu,mx,my,pa,bl⟩ ⟨la,lh,lx,ly⟩=Kz:=⟨_,rfl⟩;rw[fJ];unfold dD at fJ;dsimp only at fJ;have D:=O fJ;clear hk hv hq KG LA KD LH LI LB LC M6 Lz Hl fJ;have m0:=C.out.cell 0;have m1:=C.out.cell 1;have m2:=C.out.cell 2;have m3:=C.out.cell 3;have m4:=C.out.cell 4;have m5:=C.out.cell 5;have m6:=C.out.cell 6;have l0:=G.out.cell 0;have l1:=G.out.cell 1;have l2:=G.out.cell 2;have l3:=G.out.cell 3
   go_enter Om,Oh
   go_upto_region 3 with(first|(go_at_call 76;refine(CK.out _ K0.out).mono ?_;rintro e w2 ⟨rfl,N⟩;have rG:=O (C.out.below N C.out.lt);have M:=O (G.out.below N G.out.lt);have cI:=O (cE.out.trans (N.mono cE.out.size));clear N m0 m1 m2 m3 m4 m5 m6 l0 l1 l2 l3;have m0:=rG.out.cell 0;have l0:=M.out.cell 0;have l1:=M.out.cell 1;have l2:=M.out.cell 2;have l3:=M.out.cell 3)|(go_at_call 105;refine(CA.out _).mono ?_;rintro e w3 ⟨rfl,iP⟩;have Kx:=O (rG.out.below iP rG.out.lt);have KL:=O (M.out.below iP M.out.lt);have kA:=O (cI.out.trans (iP.mono cI.out.size));clear iP m0 l0 l1 l2 l3;have m1:=Kx.out.cell 1))
   clear C G cE K0 rG M cI CK CA
   go_upto_region 5 with(first|(go_at_call 106;refine(CO.out _).mono ?_;rintro e w4 ⟨rfl,K6⟩;have KM:=O ((Kx.out.below K6 Kx.out.lt).alloc (OB #[X (pI kd),X (pQ kd),X (pV kd),X (pF kd),X (pC kd)] 110));have Lc:=O ((KL.out.below K6 KL.out.lt).alloc (OB #[X (pI kd),X (pQ kd),X (pV kd),X (pF kd),X (pC kd)] 110));have L7:=O ((kA.out.trans (K6.mono kA.out.size)).alloc (Og kA.out.size K6.size) (OB #[X (pI kd),X (pQ kd),X (pV kd),X (pF kd),X (pC kd)] 110));clear K6 m1;have m1:=KM.out.cell 1)|(go_at_call 107;refine(L4.out _).mono ?_;rintro e w5 ⟨rfl,Lr⟩;have K3:=O Lr;clear Lr))
   obtain⟨g,hg⟩:∃g,w4.heap.size=g:=⟨_,rfl⟩
   have Lv:ay w [(w.heap.size,55,#[U Z ad,U Z kd,U Z qu,U Z mx,U Z my,U Z pa,J A n c]),(w.heap.size+1,102,#[U Z la,X lh,U Z lx,U Z ly]),(g,110,#[X (pI kd),X (pQ kd),X (pV kd),X (pF kd),X (pC kd)])] [] w5:=
    aQ ⟨L7.out,aa.cons KM.out (aa.cons Lc.out (aa.cons (aE (ab.new _ _ _) hg) (ai _))),aF _⟩ K3.out
   simp only[hg];have T:=O Lv;clear Lv hg KM Lc L7 K3 Kx KL kA m1 CO L4;have m2:=T.out.2.1.head.cell 2;have q1:=T.out.2.1.tail.tail.head.cell 1;dsimp only at m2 q1
   go_upto_if 43 with fail
   obtain⟨QS,KZ⟩:∃QS,(if pQ kd then ak qu.toNat 5 else[])=QS:=⟨_,rfl⟩;rw[KZ] at D;have Lh:=O KZ;clear KZ
   go_cut [8] (λs wx=>w5=wx/\s=OA (bs (eM kd++QS)))
   case first=>
    have KB:=HQ.out;have I:=Lh.out;obtain⟨bQ,Lt⟩:∃b,pQ kd=b:=⟨_,rfl⟩;rw[Lt] at q1 KB I⊢;have M5:=pj kd;obtain⟨KP,KW⟩:∃KP,eM kd=KP:=⟨_,rfl⟩;rw[KW] at M5⊢;have Lb:=O KW;clear Lt KW
    cases bQ with
    |false=>
     rw[if_neg (by decide)] at I;have KO:=O I;clear KB I;go_wp2_with fail
     go_meet
     case rel=>exact⟨rfl,by rw[<-KO.out,Lb.out,OS]⟩
    |true=>
     rw[if_pos rfl] at I;simp only[if_true,Oa,decide_eq_true_eq] at KB;obtain⟨q,rfl⟩:∃q:Nat,qu=(q:Int):=⟨qu.toNat,by omega⟩;rw[Oj] at I;have KO:=O I;obtain⟨Mm,Mn⟩:=KB;clear I;go_wp2_with fail
     go_loopg [8,10] 5 (λgg v8 v=> λwr=>∃j:Nat,j+gg=5/\v8=OA (bs (KP++(ak q 5).take j))/\v=U Z (4 - (j:Int))/\w5=wr)
     case atStart=>exact⟨0,by omega,by simp,rfl,rfl⟩
     case round=>
      obtain⟨j,hj,rfl,rfl,rfl⟩:=hrel
      cases gk with
      |zero=>
       obtain rfl:j=5:=by omega
       have Hl:¬(0<=4 - ((5:Nat):Int)):=(by omega);go_wp2_with fail
       go_meet
       case rel=>exact⟨rfl,by rw[<-KO.out,Lb.out,OP (by simp[ak])]⟩
      |succ gg=>
       have Hl:(0<=4 - (j:Int)):=(by omega);have M7:OU.wrap (4 - (j:Int) - 1)=4 - ((j:Int)+1):=(by rw[OL];omega);have Mc:∀W:World,(convert 21 9 (U .i32 48)).run ON W= .ok (OA (bs [48])) W:= λW=>by kernel_rfl
       have Md:∀W:World,(convert 21 9 (U .i32 49)).run ON W= .ok (OA (bs [49])) W:= λW=>by kernel_rfl
       have Ly:(KP++(ak q 5).take j).length<=30:=(by rw[Y,On];omega);have Ky:=O (DW q j (by omega));have hb:q / 2 ^ (4 - j) % 2=0\/q / 2 ^ (4 - j) % 2=1:=(by omega);rcases hb with hb|hb
       ·have h2:(((q / 2 ^ (4 - j) % 2:Nat)):Int)=0:=by rw[hb];rfl
        have M0:(q:Int) / 2 ^ (4 - j) % 2=0:=(by push_cast at h2;exact h2);clear h2;have HB:=O hb;clear hb;obtain⟨KS,jg⟩:∃KS,KP++(ak q 5).take j=KS:=⟨_,rfl⟩;rw[jg] at Ly⊢;have KK:=O jg;clear jg;go_wp2_with fail
        go_roundg gg
        case measure=>omega
        case rel=>exact⟨j+1,by omega,by rw[Ky.out,HB.out,<-OG,KK.out];rfl,by congr 1,rfl⟩
       ·have h2:(((q / 2 ^ (4 - j) % 2:Nat)):Int)=1:=by rw[hb];rfl
        have M0:(q:Int) / 2 ^ (4 - j) % 2=1:=(by push_cast at h2;exact h2);clear h2;have HB:=O hb;clear hb;obtain⟨KS,jg⟩:∃KS,KP++(ak q 5).take j=KS:=⟨_,rfl⟩;rw[jg] at Ly⊢;have KK:=O jg;clear jg;go_wp2_with fail
        go_roundg gg
        case measure=>omega
        case rel=>exact⟨j+1,by omega,by rw[Ky.out,HB.out,<-OG,KK.out];rfl,by congr 1,rfl⟩
   obtain⟨rfl,rfl⟩:=hcut;clear m2 q1
   have Hu:(eM kd++QS).length<=29:=by
    have h1:=pj kd;have h2:V QS<=5:=(by rw[<-Lh.out];split<;>simp[ak]);rw[Y];omega
   have q2:=T.out.2.1.tail.tail.head.cell 2;dsimp only at q2
   go_upto_if 59 with fail
   obtain⟨⟨p1,p2⟩,gj⟩:∃p,cZ ad (ad - la) lh lx ly=p:=⟨_,rfl⟩
   have KX:aA p1=true/\aA p2=true:=by
    unfold cZ at gj
    split at gj
    ·rw[<-(Prod.mk.inj gj).1,<-(Prod.mk.inj gj).2];exact⟨rfl,rfl⟩
    ·rw[<-(Prod.mk.inj gj).1,<-(Prod.mk.inj gj).2];exact⟨K5.out,LR.out⟩
   rw[gj] at D JT;dsimp only at D JT;have LY:=O (λW=>qL p1 mx W KX.1 LV.out);have LZ:=O (λW=>qL p2 my W KX.2 LW.out);obtain⟨VS,L0⟩:∃VS,(if pV kd then fA p1 mx++fA p2 my else[])=VS:=⟨_,rfl⟩;rw[L0] at D;have Li:=O L0;obtain⟨S0,LJ⟩:∃S0,eM kd++QS=S0:=⟨_,rfl⟩;rw[LJ] at Hu D⊢;clear L0 gj KX LJ
   go_cut [8] (λs wx=>s=OA (bs (S0++VS))/\Hid (ay w [(w.heap.size,55,#[U Z ad,U Z kd,U Z qu,U Z mx,U Z my,U Z pa,J A n c]),(w.heap.size+1,102,#[U Z la,X lh,U Z lx,U Z ly]),(g,110,#[X (pI kd),X (pQ kd),X (pV kd),X (pF kd),X (pC kd)])] [] wx))
   case first=>
    have aJ:=Li.out;obtain⟨bV,KV⟩:∃b,pV kd=b:=⟨_,rfl⟩;rw[KV] at q2 aJ⊢;have Mf:=O KV;clear KV
    cases bV with
    |false=>
     rw[if_neg (by decide)] at aJ;have KQ:=O aJ;clear aJ;go_wp2_with fail
     go_meet
     case rel=>exact⟨by rw[<-KQ.out,OS],T⟩
    |true=>
     rw[if_pos rfl] at aJ;have KQ:=O aJ;clear aJ;have m0:=T.out.2.1.head.cell 0;have l0:=T.out.2.1.tail.head.cell 0;have l1:=T.out.2.1.tail.head.cell 1;have l2:=T.out.2.1.tail.head.cell 2;have l3:=T.out.2.1.tail.head.cell 3;dsimp only at m0 l0 l1 l2 l3
     go_upto_region 12 with(go_at_call 108;refine(JT.out _).mono ?_;rintro e w6 ⟨rfl,dy⟩;have K:=O (aQ T.out dy);clear dy)
     clear m0 l0 l1 l2 l3;have KA:=bB K.out;have Mg:=O KA;have z3:=KA.2.1.head.cell 3;have z4:=KA.2.1.head.cell 4;clear KA;refine aP (λw'=>w'=w6.drew) 9 (Oi 0 (Oi 1 (Oi 2 (Oi 3 (Oi 5 (Oi 6 (Oi 7 (.step 4 (.step 8 .done))))))))) (rfl) (λPE Ln=>?_)
     iterate 7
      refine af (v:=?_) rfl (by rfl) ?_ ?_
      rotate_left
      ·intro _ Lo;(try dsimp only at Lo);subst Lo;go_simp;(try with_reducible rfl)
      simp only[OM,OW,OV]
     refine aG (f:=110) rfl (by rfl) (by first|(go_simp;done)|(go_simp;rfl)) (LY.out _) ?_;rintro e w7 ⟨rfl,rfl⟩;refine⟨_,rfl,_,λ_ h=>h,rfl,?_⟩;simp only[OM,OW,OV];refine aG (f:=110) rfl (by rfl) (by first|(go_simp;done)|(go_simp;rfl)) (LZ.out _) ?_;rintro e w7 ⟨rfl,rfl⟩;refine⟨_,rfl,_,λ_ h=>h,rfl,?_⟩;simp only[OM,OW,OV];refine Ln _ _ ?_;clear Ln PE;simp only[List.drop_succ_cons,List.drop_zero];have Mj:=it p1 mx;have Mk:=it p2 my;have Lw:S0++(fA p1 mx++fA p2 my)=S0++VS:=(by rw[<-KQ.out]);have KJ:=O Lw;clear Lw;generalize fA p1 mx=M1 at*;generalize fA p2 my=M2 at*
     have CJ:=pp (Ot w6).heap.size 0 3 [S0,M1,M2] ((Ot w6).alloc (OB #[OA (bs S0),OA (bs M1),OA (bs M2)] 9)) (λj t h=>by
      have hb:=ab.new (Ot w6) 9 #[OA (bs S0),OA (bs M1),OA (bs M2)];rw[Oz,hb.cell j]
      match j,h with
      |0,h=>cases h;rfl
      |1,h=>cases h;rfl
      |2,h=>cases h;rfl
      |(j+3),h=>cases h) (by simp) (by simp) (by simp) (by simp;omega)
     have CJ:=O CJ;have kU:=O (ap (bB K.out) (OB #[OA (bs S0),OA (bs M1),OA (bs M2)] 9));go_wp2_with (go_at_call 109;refine CJ.out.mono ?_;rintro e w8 ⟨rfl,K8⟩;have KI:=O K8;clear K8)
     refine⟨rfl,?_⟩;go_wp2_with fail
     go_meet
     case rel=>exact⟨by rw[<-KJ.out],O (aQ kU.out KI.out)⟩
   obtain⟨rfl,K⟩:=hcut;clear q2 T
   have Hu:(S0++VS).length<=77:=by
    have h2:V VS<=48:=by
     rw[<-Li.out];have:=it p1 mx;have:=it p2 my
     split
     ·rw[Y];omega
     ·simp
    rw[Y];omega
   have q4:=K.out.2.1.tail.tail.head.cell 4;have m5:=K.out.2.1.head.cell 5;dsimp only at q4 m5
   go_upto_if 79 with fail
   obtain⟨PS,KY⟩:∃PS,(if pC kd then iW pa else[])=PS:=⟨_,rfl⟩;rw[KY] at D;have Lg:=O KY;obtain⟨S1,LK⟩:∃S1,S0++VS=S1:=⟨_,rfl⟩;rw[LK] at Hu D⊢;clear KY LK
   go_cut [8] (λs wx=>s=OA (bs (S1++PS))/\Hid (ay w [(w.heap.size,55,#[U Z ad,U Z kd,U Z qu,U Z mx,U Z my,U Z pa,J A n c]),(w.heap.size+1,102,#[U Z la,X lh,U Z lx,U Z ly]),(g,110,#[X (pI kd),X (pQ kd),X (pV kd),X (pF kd),X (pC kd)])] [] wx))
   case first=>
    have av:=Lg.out;have Ht:=Lf.out;obtain⟨bC,KU⟩:∃b,pC kd=b:=⟨_,rfl⟩;rw[KU] at q4 av Ht⊢;have Me:=O KU;clear KU
    cases bC with
    |false=>
     rw[if_neg (by decide)] at av;have KN:=O av;clear av Ht;go_wp2_with fail
     go_meet
     case rel=>exact⟨by rw[<-KN.out,OS],K⟩
    |true=>
     rw[if_pos rfl] at av
     have Kv:1<=pa/\pa<=63:=by
      split at Ht
      ·rw[beq_iff_eq] at Ht;omega
      ·simpa using Ht
     have KN:=O av;have CP:=O (λW hW=>zy pa W hW Kv.1 Kv.2);have Ml:=oq pa;generalize iW pa=PP at*;have LX:=O (Hs.out.below K.out.1);clear av Ht Kv;go_wp2_with (go_at_call 111;refine(CP.out _ LX.out).mono ?_;rintro e w6 ⟨rfl,dy⟩;have kU:=O (aQ K.out dy);clear dy)
     go_meet
     case rel=>exact⟨by rw[<-KN.out],kU⟩
   obtain⟨rfl,kU⟩:=hcut;clear q4 m5 K
   have Hu:(S1++PS).length<=101:=by
    have h2:V PS<=24:=by
     rw[<-Lg.out]
     split
     ·exact oq pa
     ·simp
    rw[Y];omega
   obtain⟨S2,LL⟩:∃S2,S1++PS=S2:=⟨_,rfl⟩;rw[LL] at Hu D⊢;clear LL;have m6:=kU.out.2.1.head.cell 6;dsimp only at m6;go_wp2_with fail
   have Kw:=HA.out.len;rw[HN.out] at Kw
   have L8:Hid (∀p∈xs,bP p.1 (pI kd)=0):=O (λp hp=>by
    have h:=L5.out;have h2:=Ld.out;rw[h2,List.all_map,OQ] at h
    simpa using h p hp)
   have D:Hid (S2++xs.flatMap (λp=>bN p.1 (pI kd))=Kz):=O (by
    have h:=D.out;have h2:=Ld.out;rw[h2,List.flatMap_map] at h;exact h)
   have LU:Hid (∀p∈xs,(bN p.1 (pI kd)).length<=1400):=O (λp hp=>Fu (L8.out p hp));clear m6;generalize pI kd=bI at*
   go_loopg [15,92] n (λgg M8 M9=> λwr=>∃(j:Nat)(v:Value),j+gg=n/\M8=v/\M9=U Z (j:Int)/\Hid (ay w [(w.heap.size,55,#[U Z ad,U Z kd,U Z qu,U Z mx,U Z my,U Z pa,J A n c]),(w.heap.size+1,102,#[U Z la,X lh,U Z lx,U Z ly]),(g,110,#[X bI,X (pQ kd),X (pV kd),X (pF kd),X (pC kd)])] [⟨w.heap.size,9,1,v,j,((xs.take j).map λp=>aR (bN p.1 bI))⟩] wr))
   case atStart=>exact⟨0,J none 0 0,by omega,rfl,rfl,O (by rw[List.take_zero,List.map_nil];exact fT kU.out _ _ _)⟩
   case round=>
    obtain⟨j,v,hj,rfl,rfl,HC⟩:=hrel
    cases gk with
    |zero=>
     have M4:j=n:=(by omega);subst M4;have Hl:¬((j:Int)<(j:Int)):=(by omega);have jY:=HC.out.2.2.head;dsimp only at jY;rw[OP (by rw[HN.out];omega)] at jY;obtain⟨A5,c5,e5,LM⟩:=cO jY;subst e5;have KF:=World.ownsRow_lit (base:=w.heap.size) (e:=9) (size:=1) wr #[OA (bs S2)] 1 HC.out.1.size (by decide) rfl;have KH:=LM.below ((Below.refl _ _).alloc (OE _) (OB #[OA (bs S2)] 9));have Le:=O KF;have KC:=O KH;have K3:=O (HC.out.1.alloc HC.out.1.size (OB #[OA (bs S2)] 9));have KJ:Hid (([S2]++xs.map λp=>bN p.1 bI).flatten=Kz):=O (by rw[<-D.out];simp[List.flatMap]);have LQ:Hid (([S2]++xs.map λp=>bN p.1 bI).flatten.length<=1000000):=O (FH Hu LU.out (by rw[HN.out];omega));have K5:Hid ((xs.map λp=>bN p.1 bI).length=j):=O (by rw[OC,HN.out]);have LD:(xs.map λp=>aR (bN p.1 bI))=(xs.map λp=>bN p.1 bI).map aR:=(by rw[Ox];rfl);rw[LD] at KC;have Lj:=O Kw;clear jY LM KF KH LD Kw;generalize (xs.map λp=>bN p.1 bI)=TS at*;go_wp2_with (first|(at_builtin;refine dA jy rfl rfl (m:=j) (news:=TS.map aR) rfl Le.out rfl (by rw[OC,K5.out,Nat.mul_one]) KC.out (by intro u hu;obtain⟨b,_,rfl⟩:=List.mem_map.1 hu;rfl) (by have:=Lj.out;omega) (Og HC.out.1.size (by simp)) ?_;intro v1 W1 LF Lx _;obtain⟨g1,c1,e1,Kt,dO,KE⟩:=F9 (ts:=[S2]++TS) LF (by have:=K5.out;simp;omega) (by simp);subst e1;have L6:=O (K3.out.grown Lx K3.out.size (λk hk=>(Le.out.lt k hk).1));have CJ:=O (pp g1 0 c1 ([S2]++TS) W1 dO KE (by have:=K5.out;have:=Lj.out;simp;omega) Kt LQ.out);clear LF Lx Kt dO KE)|(go_at_call 109;refine CJ.out.mono ?_;rintro e w8 ⟨rfl,K8⟩;have KI:=O K8;clear K8))
     go_ret2;refine⟨?_,L6.out.trans (KI.out.mono L6.out.size)⟩;rw[<-KJ.out];rfl
    |succ gg=>
     have Hl:((j:Int)<(n:Int)):=(by omega);have Ku:j<(V xs):=(by rw[HN.out];omega);obtain⟨A5,c5,e5,_⟩:=cO HC.out.2.2.head;dsimp only at e5;subst e5;obtain⟨Mi,rfl,_,c0,c1⟩:=jL (HA.out.row.below HC.out.1) j Ku;have Ls:=(HA.out.bl _ (OR Ku)).below (HC.out.1.alloc HC.out.1.size (OB #[U Z xs[j].1.dc,J xs[j].2.1 xs[j].1.l.length xs[j].2.2] 93));have Lq:=HT.out.below (HC.out.1.alloc HC.out.1.size (OB #[U Z xs[j].1.dc,J xs[j].2.1 xs[j].1.l.length xs[j].2.2] 93));have Lp:=Hs.out.below (HC.out.1.alloc HC.out.1.size (OB #[U Z xs[j].1.dc,J xs[j].2.1 xs[j].1.l.length xs[j].2.2] 93));have CB:=O (DL xs[j].1 xs[j].2.1 xs[j].1.l.length xs[j].2.2 bI _ Ls rfl (L8.out _ (OR Ku)) Lq Lp);have K4:=O (ap HC.out (OB #[U Z xs[j].1.dc,J xs[j].2.1 xs[j].1.l.length xs[j].2.2] 93));have q0:=K4.out.2.1.tail.tail.head.cell 0;dsimp only at q0;have Ky:=O (OY (l:=xs) (i:=j));have La:=O (List.getElem?_eq_getElem Ku);obtain⟨⟨⟨Lk,lj⟩,Aj,cj⟩,LG⟩:∃p,xs[j]=p:=⟨_,rfl⟩;rw[LG] at c0 c1 CB K4 q0 La;dsimp only at c0 c1 CB K4 q0;obtain⟨LN,K9⟩:∃B,bN ⟨Lk,lj⟩ bI=B:=⟨_,rfl⟩;rw[K9] at CB;have L9:=O K9;clear K9;have M7:OU.wrap ((j:Int)+1)=(j:Int)+1:=(by rw[OL];omega);have HJ:=O hj;obtain⟨nj,LE⟩:∃nj,V lj=nj:=⟨_,rfl⟩;rw[LE] at c1 CB K4 q0;clear LE;clear LG Ls Lq Lp hj Ku;go_wp2_with (first|(go_at_call 112;refine CB.out.mono ?_;rintro e w6 ⟨rfl,dy⟩;have K:=O (aQ K4.out dy);clear dy q0)|(at_builtin;refine f7 jy rfl rfl 1 [aR LN] rfl K.out rfl rfl (mY _) (by have:=HJ.out;omega) ⟨OE _,K.out.1.size⟩ (by simp) (by simp) ?_;intro v1 W1 Lu;have LP:=O Lu;clear Lu))
     go_roundg gg
     case measure=>omega
     case rel=>
      refine⟨j+1,v1,by have:=HJ.out;omega,rfl,rfl,O ?_⟩;rw[Ky.out,La.out,OI];show ay _ _ [⟨_,_,_,_,_,_++[aR (bN ⟨Lk,lj⟩ bI)]⟩] _;rw[L9.out];exact LP.out
end Go.Proofs.YthhijgcfbjcgiaaGreatDoor
