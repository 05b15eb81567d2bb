/- PfxI, PfxM -/
import Derived.Test.YthhijgcfbjcgiaaGreatDoorT14
import Derived.Test.YthhijgcfbjcgiaaGreatDoorT12
namespace Go.Proofs.YthhijgcfbjcgiaaGreatDoor
section
open Go Go.RowKit
attribute [local go_sem] Oper.semAt_some
open Go.Lib renaming hid→O
open List renaming length→U
open Go.IntKind renaming i64→Z
open Go.Value renaming int→V,pointer→Y
def fp (l:List UInt8) (i n:Nat):List Nat:=(List.range n).map λj=>aZ l (i+j)
theorem gx (l:List UInt8)(i n:Nat):(fp l i n).length=n:=by simp[fp]
theorem DE (l:List UInt8)(i n:Nat)(pre:List Nat)(x:Nat)(h:pre++[x]<+:fp l i n):U pre<n/\x=aZ l (i+U pre):=by
 have j:=h.length_le;rw[gx] at j;simp at j;refine⟨by omega,?_⟩;obtain⟨t,ht⟩:=h;have h2:(pre++[x]++t)[U pre]? =(fp l i n)[U pre]? :=by rw[ht]
 rw[List.append_assoc,List.getElem?_append_right (Nat.le_refl _)] at h2;simp[fp,List.getElem?_map,List.getElem?_range (show (U pre)<n by omega)] at h2;exact h2
theorem rJ (l:List UInt8)(i n k:Nat)(h:k<n):(fp l i n).take k++[aZ l (i+k)]=(fp l i n).take (k+1):=by
 rw[List.take_succ_eq_append_getElem (by rw[gx];exact h)];simp[fp]
def wN (b:Nat) (w:World):Int:=match w.cell? ⟨b,0,none⟩ with|some (V Z x)=>x|_=>0
theorem rQ {w:World}{b:Nat}{t:TypeId}{x:Int}(h:ab w b t #[V Z x]):wN b w=x:=by
 unfold wN;rw[h.cell 0];rfl
set_option maxRecDepth 100000 in
set_option maxHeartbeats 2000000 in
theorem FL (n:Nat)(hn:1<=n)(b1 D:Nat)(A:Option Addr)(m c:Nat)(l:List UInt8)(B:Nat)(hl:U l=m)(hsz:m<=2 ^ 47)(C:List Nat->World->Prop)
  (hC:∀pre W v,C pre W->C pre (W.setCell ⟨D,0,none⟩ v)) (hCs:∀pre W,C pre W->ab W b1 25 #[.slice A m c]/\Sl W A (l.map ag)):
  tc Fence.wide n Tryz.prog 292 #[Y (some ⟨b1,0,none⟩),Y (some ⟨D,0,none⟩)] (λx:Nat=> #[V Z x]) (λpre W=>C pre W/\ab W D 3 #[V Z ((B+U pre:Nat):Int)])
   (λpre W=>C pre W/\ab W D 3 #[V Z ((B+U pre - 1:Nat):Int)]) (λxs=>xs=fp l B (8*m - B)) (λpre=>pre<+:fp l B (8*m - B)):=by
 intro lp K Jx W hK hY h0 eE;refine callsIn_of_wp Tryz.func292 rfl trivial ?_ rfl;simp only[Tryz.ntmps292,List.size_toArray,List.length_cons,List.length_nil,Nat.reduceAdd,Nat.reduceSub,Array.replicate_succ,Array.replicate_zero,List.push_toArray,List.append_toArray,List.nil_append,List.cons_append];have HY:=O hY;have HC:=O hC;have kA:=O hCs;have HK:=O hK;have HL:=O hl;have H0:=O h0;have Hl:=O eE;clear hY hC hCs hK hl h0 eE;gi_wp2_with fail
 gi_loopw [] (λwr=>∃j:Nat,Hid (C ((fp l B (8*m - B)).take j) wr)/\Hid (ab wr D 3 #[V Z ((B+j:Nat):Int)])/\j<=8*m - B/\Hid (K wr)) (λwr=>8*m - (wN D wr).toNat)
 case atStart=>
  exact⟨0,O H0.out.1,O H0.out.2,Nat.zero_le _,Hl⟩
 case round=>
  obtain⟨j,I,HB,hj,cE⟩:=hrel;have x2:=HB.out.cell 0;obtain⟨dy,hA⟩:=kA.out _ _ I.out;have x1:=dy.cell 0;have HA:=O hA;clear dy hA;obtain⟨p,hp⟩:∃p,p=B+j:=⟨_,rfl⟩;have gj:(0:Int)<=(p:Int):=(by omega);rw[<-hp] at x2
  by_cases T:p<8*m
  ·have Rd:=O (λW h=>fS ((aZ l p:Nat):Int) A m c l (p:Int) 1 W (by rw[Int.toNat_natCast];show ((aB l p 1:Nat):Int)=_;rw[kc]) h HL.out gj (by decide) (by decide) (by omega) hsz)
   have N:j<8*m - B:=(by omega);have av:(fp l B (8*m - B)).take j++[aZ l p]<+:fp l B (8*m - B):=(by rw[hp,rJ _ _ _ _ N];exact List.take_prefix _ _);have aJ:((fp l B (8*m - B)).take j).length=j:=(by rw[List.length_take,gx];omega);obtain⟨fn,tmps,iP,K4,hy,hR⟩:=HY.out _ (aZ l p) wr ⟨I.out,by rw[aJ];exact HB.out⟩ cE.out av;have HR:=O hR;have rG:=O N;have HP:=O hp;have JT:=O av;have K0:=O aJ;have cI:=O T;clear hR N hp av aJ T hj;gi_wp2_with (refine⟨trivial,?_⟩;gi_at_call 56;refine(callsIn_wide.2 (Rd.out _ HA.out)).mono ?_;rintro e w' ⟨rfl,rfl⟩)
   refine HR.out.mono ?_;rintro e W3 (⟨rfl,M,fJ⟩|⟨rfl,dv⟩)
   ·have G:ab W3 D 3 #[V Z (p:Int)]:=by
     have h:=M.2;rw[List.length_append,K0.out] at h;rw[HP.out];simpa using h
    have y2:=G.cell 0
    have g2:=G.frozen 0
    have K5:IntKind.i64.wrap ((p:Int)+1)=(p:Int)+1:=by have:=cI.out;rw[IntKind.wrap_i64];omega
    have bM:=O G;have kU:=O M.1;have Ht:=O fJ
    clear G M fJ
    have HS:=O (bM.out.set_ 0 (V Z ((p:Int)+1)))
    have jg:=O (HC.out _ _ (V Z ((p:Int)+1)) kU.out)
    have Hu:=O (HK.out.set Ht.out bM.out (v:=V Z ((p+1:Nat):Int)) (p:=⟨D,0,none⟩))
    gi_wp2_with fail
    have h5:=HP.out;have h6:=cI.out;have h7:=rG.out
    refine⟨⟨j+1,?_,O ?_,by omega,Hu⟩,?_⟩
    ·rw[<-rJ _ _ _ _ h7,<-h5];exact jg
    ·rw[show ((B+(j+1):Nat):Int)=(p:Int)+1 by omega];exact HS.out
    ·have h9:=rQ HS.out;have K3:=rQ HB.out
     rw[h9,K3,<-h5];omega
   ·gi_wp2_with fail
    refine bodyPost_ret (results_none rfl _ _ _) rfl ?_;exact⟨⟨_,rfl⟩,.inr ⟨_,JT.out,dv⟩⟩
  ·have Rd:=O (λW=>dj A m c (p:Int) 1 W gj (by decide) (by decide) (by omega) hsz)
   have dO:j=8*m - B:=(by omega);have jY:Hid (C (fp l B (8*m - B)) wr/\ab wr D 3 #[V Z ((B+(fp l B (8*m - B)).length:Nat):Int)]):=O ⟨by have h:=I.out;rwa [List.take_of_length_le (by rw[gx];omega)] at h,by rw[gx,<-dO];exact HB.out⟩;clear dO hp hj T;gi_wp2_with (refine⟨trivial,?_⟩;gi_at_call 56;refine(callsIn_wide.2 (Rd.out _)).mono ?_;rintro e w' ⟨rfl,rfl⟩)
   refine⟨λ_ h=>(by cases h),?_⟩;gi_wp2_with fail
   refine bodyPost_ret (results_none rfl _ _ _) rfl ?_;exact⟨⟨_,rfl⟩,.inl ⟨_,rfl,jY.out,cE.out⟩⟩
end
open Go Go.RowKit Go.Maps
attribute [local go_sem] Oper.semAt_some
set_option maxHeartbeats 16000000
set_option maxRecDepth 100000
open Go.Lib renaming hid→O
open Go.IntKind renaming i64→U
open List renaming length→Z,drop_eq_getElem_cons→X,all_eq_true→J,getElem_mem→OA,getElem_map→OE
open Nat renaming le_refl→V
open Tryz renaming prog→Y,underlying230→OB,zeroValue227→OD,ntmps158→OG,func158→OH
open Go.Ending renaming returned→OC
open Go.Value renaming slice→OF,bool→OI,pointer→OK
open Go.Obj renaming cells→OJ
theorem Cu (w:World)(base T:Nat)(N:List Nd)(D:DataW Value)(f:Int->Option (List UInt8))(B:Nat)(h:ey w base T N D B)(hm:B≠0)(hD:kp D f)(num:Int)(I:(Lit.int U num).wf=true):
  Calls Y 158 #[OK (some ⟨T,0,none⟩),.int U num] w λe w'=>e=OC (.tuple #[.string (bs ((f num).getD [])),.int U (if (f num).isSome then 0 else 18)])/\Below w.heap.size w w':=by
 have HN:=O (qO w base T N D B h hm);have C:=O (AZ num I);have HD:=O hD;obtain⟨v,mb,M,av,G,bM,aJ⟩:=h;have HM:=O G;have c1:=M.cell 1;have j:=(hD.2 num).1;clear M av G bM aJ hD I
 cases K:f num with
 |some c=>
  rw[K] at j;have hh:Maps.has D (.int U num)=true:=j;have HF:=O K;clear K j
  go_enter OH,OG
  go_wp2_with (first
   |(go_at_call 202;refine HN.out.mono ?_;rintro e w' ⟨rfl,rfl⟩)
   |(at_lookup;refine wpList_lookup_own_ok _ rfl _ _ 230 rfl 3 227 kK OB gO (z:=fu []) (OD _) (.held (fu [])) [] rfl mb _ _ rfl HM.out (.int U num) (.int U num) rfl C.out ?_;intro v ps hv;obtain rfl:=mO HD.out hv;clear hv))
  go_ret2;rw[HF.out];exact⟨rfl,(Below.refl _ _).alloc (V _) _⟩
 |none=>
  rw[K] at j;have hh:Maps.has D (.int U num)=false:=j;have HF:=O K;clear K j
  go_enter OH,OG
  go_wp2_with (first
   |(go_at_call 202;refine HN.out.mono ?_;rintro e w' ⟨rfl,rfl⟩)
   |(at_lookup;refine wpList_lookup_own_ok _ rfl _ _ 230 rfl 3 227 kK OB gO (z:=fu []) (OD _) (.held (fu [])) [] rfl mb _ _ rfl HM.out (.int U num) (.int U num) rfl C.out ?_;intro v ps hv;obtain rfl:=mO HD.out hv;clear hv))
  go_ret2;exact⟨rfl,(Below.refl _ _).alloc (V _) _⟩
theorem zn (A:Option Addr)(n c:Nat)(cs:List (List UInt8))(w:World)(M:Sl w A (cs.map aR))(N:Z cs=n)(av:n<=300)(C:cs.all cM=true):
  Calls Y 266 #[OF A n c,.func (.func 237) #[] #[]] w λe w'=>e=OC (.int U (-1))/\w=w':=by
 have T:=O M;have Hn:=O N;have D:=O C;clear M N C
 go_enter Tryz.func266,Tryz.ntmps266
 go_wp2_with fail
 go_loopg [8] n (λg i=> λwr=>∃(j:Nat),j+g=n/\i= .int U (j:Int)/\w=wr)
 case atStart=>exact⟨0,by omega,rfl,rfl⟩
 case round=>
  obtain⟨j,hj,rfl,rfl⟩:=hrel
  cases gk with
  |zero=>
   have K:¬((j:Int)<(n:Int)):=(by omega);go_wp2_with fail
   go_ret;exact⟨rfl,rfl⟩
  |succ g=>
   have K:((j:Int)<(n:Int)):=(by omega);have G:j<(Z cs):=(by rw[Hn.out];omega);obtain⟨ad,rfl,_,B⟩:=T.out.at_ j (by simpa using G);rw[OE] at B;unfold aR at B;have I:=O (J.1 D.out cs[j] (OA G));go_wp2_with (go_at_call 237;refine(xS _ I.out _).mono ?_;rintro e w' ⟨rfl,rfl⟩)
   go_roundg g
   case measure=>omega
   case rel=>exact⟨j+1,by omega,rfl,rfl⟩
theorem tk (A:Option Addr)(n c:Nat)(cs:List (List UInt8))(w:World)(C:Sl w A (cs.map aR))(D:Z cs=n)(B:n<=300)(j:cs.all cM=true):
  Calls Y 236 #[OF A n c,.func (.func 237) #[] #[]] w λe w'=>e=OC (OI false)/\w=w':=by
 have G:=O (zn A n c cs w C D B j);clear C D j
 go_enter Tryz.func236,Tryz.ntmps236
 go_wp2_with (go_at_call 266;refine G.out.mono ?_;rintro e w' ⟨rfl,rfl⟩)
 go_ret;exact⟨rfl,rfl⟩
theorem zD {N:List Nd}{c:List UInt8}{cs:List (List UInt8)}{n:Int}{ns:List Int}{R:List Nd}(h:fK N (c::cs) (n::ns)=some R):∃M,xU N c n=some M/\fK M cs ns=some R:=by
 rw[fK] at h
 cases j:xU N c n with
 |none=>rw[j] at h;cases h
 |some M=>rw[j] at h;exact⟨M,rfl,h⟩
def Dz (cs:List (List UInt8)) (ns:List Int) (w:World) (e:Ending) (w':World):Prop:=∃T,e=OC (.tuple #[OK (some ⟨T,0,none⟩),.int U 0])/\ey w' w.heap.size T (fw cs ns) (pu cs ns) (Z cs)/\Below w.heap.size w w'
theorem Ed (w:World):ey ((((w.alloc (OJ #[.int U 0,.int U 0,OI false,.int U 0] 260)).alloc (.map #[] 0))).alloc (OJ #[OF (some ⟨w.heap.size,0,none⟩) 1 1,.map (some (w.heap.size+1)),.int U 0] 232)) w.heap.size (w.heap.size+1+1) [b9] (.map []) 0:=by
 refine⟨_,w.heap.size+1,aE (ab.new _ _ _) (by simp),?_,?_,by omega,by omega⟩
 ·exact bL (World.ownsRow_lit w #[.int U 0,.int U 0,OI false,.int U 0] 1 (V _) (by decide) rfl) (((Below.refl _ _).alloc (V _) _).alloc (by simp) _) (by simp)
 ·have:=World.ownsMap_made (w.alloc (OJ #[.int U 0,.int U 0,OI false,.int U 0] 260)) Y 3 gO
  rw[World.size_alloc] at this;exact this.alloc _
theorem zA (A B:Option Addr)(n c d:Nat)(cs:List (List UInt8))(ns:List Int)(w:World)(hA:Sl w A (cs.map aR))(hB:Sl w B (ns.map aH))(hc:Z cs=n)(hn:Z ns=n)(h1:1<=n)(cI:n<=300)
  (D:cs.all cM=true) (I:(fK [b9] cs ns).isSome=true) (fJ:ns.all (λk=>(Lit.int U k).wf)=true):
  Calls Y 201 #[OF A n c,OF B n d] w (Dz cs ns w):=by
 have kA:=O (tk A n c cs w hA hc cI D);have HA:=O hA;have HB:=O hB;have Hc:=O hc;have Hn:=O hn;have aJ:=O D;have rG:=O fJ
 have dO:fK [b9] cs ns=some (fw cs ns):=by unfold fw;cases h:fK [b9] cs ns with
  |none=>rw[h] at I;cases I
  |some R=>rfl
 have kU:=O dO;have e0:((n:Int)==0)=false:=by rw[beq_eq_false_iff_ne];omega
 have e3:decide (300<(n:Int))=false:=by simp;omega
 have JT:∀W:World,(Instr.makeMap 230 none).run Y W= .ok (.map (some W.heap.size)) (W.alloc (.map #[] 0)):= λW=>run_makeMap _ W;clear hA hB hc hn D I fJ dO
 go_enter Tryz.func201,Tryz.ntmps201
 go_wp2_with (go_at_call 236;refine kA.out.mono ?_;rintro e w' ⟨rfl,rfl⟩)
 go_loopg [35] n (λg i=> λwr=>∃(j:Nat)(N':List Nd)(N:DataW Value)(f:Int->Option (List UInt8)),j+g=n/\i= .int U (j:Int)/\Hid (fK N' (cs.drop j) (ns.drop j)=some (fw cs ns))/\Hid (tf N (cs.drop j) (ns.drop j)=pu cs ns)/\Hid (kp N f)/\Hid (ey wr w.heap.size (w.heap.size+1+1) N' N j)/\Hid (Below w.heap.size w wr))
 case atStart=>
  exact⟨0,[b9],.map [],λ_=>none,by omega,rfl,kU,O rfl,O sL,O (Ed w),O (((((Below.refl _ _).alloc (V _) _).alloc (by simp) _).alloc (by simp;omega) _))⟩
 case round=>
  obtain⟨j,N',N,f,hj,rfl,HP,HD,HT,HW,G⟩:=hrel
  cases gk with
  |succ g=>
   have Hu:((j:Int)<(n:Int)):=(by omega);have bM:j<(Z cs):=(by rw[Hc.out];omega);have cE:j<(Z ns):=(by rw[Hn.out];omega);obtain⟨ad,rfl,_,C⟩:=(HA.out.below G.out).at_ j (by simpa using bM);rw[OE] at C;unfold aR at C;obtain⟨ae,rfl,_,Hl⟩:=(HB.out.below G.out).int j cE;have dy:=O (J.1 aJ.out cs[j] (OA bM));have gj:=O (J.1 rG.out ns[j] (OA cE));have K:=HP.out;have hd:=HD.out;rw[X bM,X cE] at K hd;obtain⟨M,hM,K⟩:=zD K;have CP:=O (Cw wr w.heap.size (w.heap.size+1+1) N' N f j cs[j] ns[j] M dy.out hM (by omega) HW.out HT.out gj.out G.out.size);have jg:=O K;have T:=O (show tf (nO N ns[j] cs[j]) (cs.drop (j+1)) (ns.drop (j+1))=pu cs ns from hd);have av:=O (vb HT.out ns[j] cs[j]);generalize cs[j]=cj at C CP T av dy;generalize ns[j]=nj at Hl CP T av gj;clear K hd hM;go_wp2_with (go_at_call 239;refine CP.out.mono ?_;rintro e w' ⟨rfl,eE,dv⟩;have jY:=O eE;have iP:=O dv;clear eE dv)
   go_roundg g
   case measure=>omega
   case rel=>exact⟨j+1,M,_,_,by omega,rfl,jg,T,av,jY,O (G.out.trans iP.out)⟩
  |zero=>
   have Hu:¬((j:Int)<(n:Int)):=(by omega);have Ht:j=n:=(by omega);go_wp2_with fail
   go_ret2;have K:=HP.out;have hd:=HD.out;rw[List.drop_eq_nil_of_le (by rw[Hc.out];omega)] at K hd;have e1:N'=fw cs ns:=(by rw[fK.eq_def] at K;simpa using K);have e2:N=pu cs ns:=(by rw[tf.eq_def] at hd;simpa using hd);refine⟨_,rfl,?_,G.out⟩;rw[Hc.out,<-Ht,<-e1,<-e2];exact HW.out
end Go.Proofs.YthhijgcfbjcgiaaGreatDoor
