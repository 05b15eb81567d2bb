/- TsLaid21, Puts21 -/
import Derived.Test.YthhijgcfbjcgiaaGreatDoorT08
import Derived.Test.YthhijgcfbjcgiaaGreatDoorT22
import Derived.Test.YthhijgcfbjcgiaaGreatDoorT51
import Derived.Test.YthhijgcfbjcgiaaGreatDoorT54
namespace Go.Proofs.YthhijgcfbjcgiaaGreatDoor
section
open Go Go.RowKit
open Go.Lib renaming asciiSpaceTab→O
open Go.Proofs.Tryz renaming prog→U
theorem Is:Lib.tabData .u8 O=(Rows.laid_strings_asciiSpace:DataW Unit):=by kernel_rfl
theorem Dm {W:World}(h:laidMetH U Rows.streamKnownRow.laid W):Tz W/\Ts W:=by
 have T:laidMet U Rows.streamKnownRow.laid W:=h;obtain⟨ps,D,_⟩:=T;have j:DataW.LaidVars U W (("math/bits.deBruijn32tab",Rows.laid_math_bits_deBruijn32tab)::("math/bits.deBruijn64tab",Rows.laid_math_bits_deBruijn64tab)::("internal/strconv.uint64pow10",Rows.laid_internal_strconv_uint64pow10)::("unicode/utf8.acceptRanges",Rows.laid_unicode_utf8_acceptRanges)::("strconv.ErrRange",Rows.laid_strconv_ErrRange)::("strconv.ErrSyntax",Rows.laid_strconv_ErrSyntax)::("unicode.White_Space",Rows.laid_unicode_White_Space)::("strings.asciiSpace",Rows.laid_strings_asciiSpace)::("unicode/utf8.first",Rows.laid_unicode_utf8_first)::[]) ps:=D;obtain⟨q1,B⟩:=ir j;obtain⟨q2,G⟩:=ir B;obtain⟨q3,I⟩:=ir G;obtain⟨q4,K⟩:=ir I;obtain⟨q5,M⟩:=ir K;obtain⟨q6,N⟩:=ir M;obtain⟨q7,C⟩:=ir N;constructor
 ·have ht:=qX (k:= .u8) (zs:=[0,1,56,2,57,49,28,3,61,58,42,50,38,29,17,4,62,47,59,36,45,43,51,22,53,39,33,30,24,18,12,5,63,55,48,27,60,41,37,16,46,35,44,21,52,32,23,11,54,26,40,15,34,20,31,10,25,14,19,9,13,8,7,6]) (g:=7) (t:=334) (e:=5) (n:=64)
   (by kernel_rfl) (by kernel_rfl) (by kernel_rfl) (by kernel_rfl) (by kernel_rfl) (by kernel_rfl) B
  exact Lib.TabIs.cell ht (by kernel_rfl) 1 (by decide)
 ·rw[<-Is] at C
  exact qX (k:= .u8) (zs:=O) (g:=0) (t:=262) (e:=5) (n:=256) (by kernel_rfl) (by kernel_rfl) (by kernel_rfl) (by kernel_rfl) (by kernel_rfl) (by kernel_rfl) C
end
open Go Go.RowKit
attribute [local go_sem] Oper.semAt_some
open Go.Lib renaming hid→O
open List renaming setIfInBounds_toArray→U,set_cons_succ→Z,set_cons_zero→Y,length→OA,getElem_mem→OB
open Go.Proofs.YthhijgcfbjcgiaaGreatDoor.bY renaming take→X,step→OC
open Nat renaming le_refl→J
theorem G7 {n:Nat}{j:List a8}(_hn:OA j=n)(C:n<=4->∀s∈j,eF s) (h2:4<n->100<n/\∀k (B:k<OA j),k<4->eF j[k]):Fd n j/\∀k (B:k<OA j),k<4->eF j[k]:=by
 rcases Nat.lt_or_ge 4 n with h|h
 ·exact⟨.inr (h2 h).1,(h2 h).2⟩
 ·exact⟨.inl ⟨h,C h⟩,λk B _=>C h _ (OB B)⟩
theorem Gj (j:List a8):(jD j).1.length<=2 ^ 40:=by
 unfold jD
 split
 ·simp
 ·rename_i h
  split
  ·rename_i h2
   have B:=oE (j.map (·.s)) (λs C=>by obtain⟨t,ht,rfl⟩:=List.mem_map.1 C;exact List.all_eq_true.1 h2 t ht);rw[List.length_map] at B;unfold mw;rw[dK];omega
  ·simp
def DA (w:World) (_b1 j:Nat) (A:Option Addr) (n c:Nat) (l:List UInt8) (W:World):Prop:=Below w.heap.size w W/\W.ownsRow j 5 1 (.slice A n c) n (l.map ag)
theorem DA.set {w W:World}{B C g j:Nat}{A:Option Addr}{n c:Nat}{l:List UInt8}{v:Value}(h:DA w B C A n c l W)(I:w.heap.size<=B)(K:B<=g)(h2:g<C):DA w B C A n c l (W.setCell ⟨g,j,none⟩ v):=by
 refine⟨h.1.setCell (p:=⟨g,j,none⟩) (Nat.le_trans I K) _,ek h.2 ⟨g,j,none⟩ v ?_⟩;rcases h.2.2 with⟨e,_⟩|⟨k,D,G,e,T,_⟩
 ·rw[e];simp[Value.ownBlock]
 ·rw[e];simp only[Value.ownBlock];intro M;have N:k=g:=Option.some.inj M;omega
set_option maxRecDepth 100000 in
set_option maxHeartbeats 16000000 in
theorem Cc (ss:List a8)(A:Option Addr)(n c:Nat)(w:World)(hn:OA ss=n)(Kt:eV w A ss)(hL:∀s∈ss,wl s) (hT:Tz w) (K9:Ts w):
  Calls Tryz.prog 3 #[.slice A n c] w λe w'=>e=.returned (.bool true)/\Below w.heap.size w w':=by
 have HN:=O hn;have G:=O Kt;have HL:=O hL;have HT:=O hT;have HS:=O K9;clear hn Kt hL hT K9
 go_enter Tryz.func3,Tryz.ntmps3
 go_wp2_with fail
 refine(zo ss A n c _ HN.out G.out HL.out).mono ?_;rintro e w1 ⟨⟨b,rfl,KA,KB⟩,C⟩;have B1:=O C;have HQ:=O (λh=>G7 HN.out (KA h) (KB h));clear C KA KB
 cases b with
 |true=>
  go_wp2_with (go_at_call 11;refine(nh _ (HT.out.below B1.out) (HS.out.below B1.out)).mono ?_;rintro e w2 ⟨rfl,C⟩;have B2:=O (B1.out.trans (C.mono B1.out.size));clear C)
  go_ret;exact⟨rfl,B2.out⟩
 |false=>
 have HF:=O (HQ.out rfl).1;have HK:=O (HQ.out rfl).2;clear HQ;have AT:=O (λW (C:Below w.heap.size w W)=>(show eV W A ss from⟨G.out.row.below C,λs hs=>(G.out.sh s hs).below C⟩));obtain⟨⟨M,er⟩,hM⟩:∃z,jD ss=z:=⟨_,rfl⟩;have C1:=O (λW (C:Below w.heap.size w W)=>zT ss A n c W HN.out (AT.out W C) HF.out (HT.out.below C) (HS.out.below C));have C2:=O (λW (C:Below w.heap.size w W)=>Dd ss A n c W HN.out (AT.out W C) HF.out);unfold rb at C1 C2;rw[hM] at C1 C2;dsimp only at C1 C2;have bM:OA M<=2 ^ 40:=by have h:=Gj ss;rw[hM] at h;exact h
 obtain⟨mn,Hl⟩:∃mn,OA M=mn:=⟨_,rfl⟩;rw[Hl] at C1 C2 bM;have I:=O Hl;have KD:=O bM;have KJ:(er==er)=true:=by simp
 clear hM Hl bM;go_wp2_with (first|(go_at_call 12;refine(C1.out _ B1.out).mono ?_;rintro e w2 ⟨A2,c2,rfl,Ky,iP⟩;have B2:=O (B1.out.trans (iP.mono B1.out.size));have K4:=O Ky;have Z1:=O iP.size;clear Ky iP)|(go_at_call 13;refine(C2.out _ B2.out).mono ?_;rintro e w3 ⟨A3,c3,rfl,Kz,jg⟩;have B3:=O (B2.out.trans (jg.mono B2.out.size));have K5:=O Kz;have eE:=O (bL K4.out jg (J _));clear Kz jg)|(go_at_call 14;refine(fE A2 A3 mn mn c2 c3 M M _ (el eE.out) (el K5.out) I.out I.out).mono ?_;rintro e w4 ⟨rfl,rfl⟩;rw[beq_self_eq_true]))
 go_loopg [7,8] (4 - 0) (λgk o i=> λwr=>∃(j:Nat),j+gk=4/\j<=n/\o=.bool true/\i=.int .i64 (j:Int)/\Hid (Below w3.heap.size w3 wr))
 case atStart=>exact⟨0,by omega,by omega,rfl,rfl,O (Below.refl _ _)⟩
 case round=>
  obtain⟨j,hj,kU,rfl,rfl,HB⟩:=hrel;have BW:=O (B3.out.trans (HB.out.mono B3.out.size))
  by_cases kA:j<n/\j<4
  ·obtain⟨Ku,Kv⟩:=kA
   obtain⟨gk,rfl⟩:∃g,gk=g+1:=⟨gk - 1,by omega⟩;have rG:((j:Int)<(n:Int)):=(by omega);have Kx:((j:Int)<4):=(by omega);have KK:¬((j:Int)<0):=(by omega);have aJ:j<(OA ss):=(by rw[HN.out];omega);have KM:IntKind.i64.wrap ((j:Int)+1)=(j:Int)+1:=(by rw[IntKind.wrap_i64];omega);have dO:=HK.out j aJ Kv;obtain⟨ad,rfl,_,c0,c1,KF,KG⟩:=iC (G.out.row.below BW.out) j aJ;have K3:=O (λW (C:Below w.heap.size w W)=>iC (G.out.row.below C) j aJ);have cE:=OB aJ;obtain⟨S,K8⟩:∃S,ss[j]=S:=⟨_,rfl⟩;rw[K8] at cE c0 c1 KF KG K3 dO;have Hu:=G.out.sh _ cE;have K1:=O (λW (C:Below w.heap.size w W)=>pT S W (Hu.below C) dO);have K2:=O (λW (C:Below w.heap.size w W)=>qT S W (Hu.below C) dO);unfold fY at K1 K2;obtain⟨V,hV⟩:∃V:Int,(if cN S.s then 0 else 2)=V:=⟨_,rfl⟩;rw[hV] at K1 K2;have KL:(V==V)=true:=(by simp);have HJ:=O (And.intro hj Ku);have JT:=O (HB.out.drew);have dv:=O (BW.out.drew);clear cE K8 Hu dO hV hj kU Ku Kv aJ;go_wp2_with fail
   refine aP (λw'=>Below w.heap.size w w') 15 (X 0 (X 1 (X 2 (X 3 (X 4 (X 5 (X 7 (X 8 (X 9 (X 10 (OC 6 (OC 11 (X 12 (X 13 (OC 14 .done))))))))))))))) (dv.out) (λPE K6=>?_)
   iterate 10
    refine af (v:=?_) rfl (by rfl) ?_ ?_
    rotate_left
    ·intro _ dy;(try dsimp only at dy);obtain⟨_,e,_,d0,d1,d2,d3⟩:=K3.out _ dy;cases e;go_simp;(try with_reducible rfl)
    simp only[U,Y,Z]
   refine aG (f:=15) rfl (by rfl) (by first|(go_simp;done)|(go_simp;rfl)) (K1.out _ dv.out) ?_;rintro e w5 ⟨rfl,jY⟩;have K:=O (dv.out.trans (jY.mono dv.out.size));have K0:=O (JT.out.trans (jY.mono JT.out.size));clear jY;refine⟨_,rfl,_,λ_ h=>h,K.out,?_⟩;simp only[U,Y,Z];refine aG (f:=16) rfl (by rfl) (by first|(go_simp;done)|(go_simp;rfl)) (K2.out _ K.out) ?_;rintro e w6 ⟨rfl,B⟩;have N:=O (K.out.trans (B.mono K.out.size));have KC:=O (K0.out.trans (B.mono K0.out.size));clear B;refine⟨_,rfl,_,λ_ h=>h,N.out,?_⟩;simp only[U,Y,Z]
   iterate 2
    refine af (v:=?_) rfl (by rfl) ?_ ?_
    rotate_left
    ·intro _ dy;(try dsimp only at dy);go_simp;(try with_reducible rfl)
    simp only[U,Y,Z]
   refine aj (v:=?_) (w':=?_) rfl (by rfl) ?_ ?_ ?_;rotate_left 2
   ·go_simp;(try (constructor<;>with_reducible rfl))
   ·exact N.out
   simp only[U,Y,Z];refine K6 _ _ ?_;clear K6 PE;simp only[List.drop_succ_cons,List.drop_nil];go_wp2_with fail
   refine⟨rfl,?_⟩;go_wp2_with fail
   go_roundg gk
   case measure=>omega
   case rel=>exact⟨j+1,by have:=HJ.out.1;omega,by have:=HJ.out.2;omega,rfl,rfl,KC⟩
  ·have Ht:((j:Int)<(n:Int))->¬((j:Int)<4):= λh1 h2=>kA ⟨by omega,by omega⟩
   have KE:=O (show DA w w1.heap.size w2.heap.size A3 mn c3 M wr from⟨BW.out,bL K5.out HB.out (J _)⟩);have Kw:A2=A2:=rfl
   have CO:=O (vE A2 mn c2 w1.heap.size (DA w w1.heap.size w2.heap.size A3 mn c3 M) wr (Ck (bL eE.out HB.out (J _))) KE.out (λW g j z hA hg hW=>hW.set B1.out.size hg (by
    have h:=K4.out.2;rcases h with⟨h,_⟩|⟨k,KH,KI,h,_,hk,_⟩
    ·rw[hA] at h;cases h
    ·rw[hA] at h;cases h;exact ab.lt hk)) (by have:=KD.out;omega))
   clear hj kA Kw
   by_cases h1:j<n
   ·have rG:((j:Int)<(n:Int)):=by omega
    have Kx:¬((j:Int)<4):=Ht rG;clear Ht kU;go_wp2_with (first|(go_at_call 17;refine CO.out.mono ?_;rintro e w5 ⟨rfl,D⟩;have K:=O D.1;have fJ:=O D.2;clear D)|(go_at_call 12;refine(C1.out _ K.out).mono ?_;rintro e w6 ⟨A6,c6,rfl,cI,B⟩;have N:=O (K.out.trans (B.mono K.out.size));have gj:=O cI;have T:=O (bL fJ.out B (J _));clear cI B)|(go_at_call 14;refine(fE A6 A3 mn mn c6 c3 M M _ (el gj.out) (el T.out) I.out I.out).mono ?_;rintro e w7 ⟨rfl,rfl⟩;rw[beq_self_eq_true])|(go_at_call 11;refine(nh _ (HT.out.below N.out) (HS.out.below N.out)).mono ?_;rintro e w8 ⟨rfl,av⟩;have B8:=O (N.out.trans (av.mono N.out.size));clear av))
    go_ret;exact⟨rfl,B8.out⟩
   ·have rG:¬((j:Int)<(n:Int)):=by omega
    clear Ht kU;go_wp2_with (first|(go_at_call 17;refine CO.out.mono ?_;rintro e w5 ⟨rfl,D⟩;have K:=O D.1;have fJ:=O D.2;clear D)|(go_at_call 12;refine(C1.out _ K.out).mono ?_;rintro e w6 ⟨A6,c6,rfl,cI,B⟩;have N:=O (K.out.trans (B.mono K.out.size));have gj:=O cI;have T:=O (bL fJ.out B (J _));clear cI B)|(go_at_call 14;refine(fE A6 A3 mn mn c6 c3 M M _ (el gj.out) (el T.out) I.out I.out).mono ?_;rintro e w7 ⟨rfl,rfl⟩;rw[beq_self_eq_true])|(go_at_call 11;refine(nh _ (HT.out.below N.out) (HS.out.below N.out)).mono ?_;rintro e w8 ⟨rfl,av⟩;have B8:=O (N.out.trans (av.mono N.out.size));clear av))
    go_ret;exact⟨rfl,B8.out⟩
end Go.Proofs.YthhijgcfbjcgiaaGreatDoor
