/- PfxI, PfxM -/
import Derived.Test.YthhijgcfbjcgiaaGreatDoorQ14
import Derived.Test.YthhijgcfbjcgiaaGreatDoorQ10
namespace Go.Proofs.YthhijgcfbjcgiaaGreatDoor
section
open Go Go.RowKit
attribute [local go_sem] Oper.semAt_some
open Go.Lib renaming hid→O
open List renaming length→U
open Go.IntKind renaming i64→Z
open Go.Value renaming int→V,pointer→Y
def fy (l:List UInt8) (i n:Nat):List Nat:=(List.range n).map λj=>aS l (i+j)
theorem gC (l:List UInt8)(i n:Nat):(fy l i n).length=n:=by simp[fy]
theorem DV (l:List UInt8)(i n:Nat)(pre:List Nat)(x:Nat)(h:pre++[x]<+:fy l i n):U pre<n/\x=aS l (i+U pre):=by
 have j:=h.length_le;rw[gC] at j;simp at j;refine⟨by omega,?_⟩;obtain⟨t,ht⟩:=h;have h2:(pre++[x]++t)[U pre]? =(fy l i n)[U pre]? :=by rw[ht]
 rw[List.append_assoc,List.getElem?_append_right (Nat.le_refl _)] at h2;simp[fy,List.getElem?_map,List.getElem?_range (show (U pre)<n by omega)] at h2;exact h2
theorem se (l:List UInt8)(i n k:Nat)(h:k<n):(fy l i n).take k++[aS l (i+k)]=(fy l i n).take (k+1):=by
 rw[List.take_succ_eq_append_getElem (by rw[gC];exact h)];simp[fy]
def xk (b:Nat) (w:World):Int:=match w.cell? ⟨b,0,none⟩ with|some (V Z x)=>x|_=>0
theorem sC {w:World}{b:Nat}{t:TypeId}{x:Int}(h:ab w b t #[V Z x]):xk b w=x:=by
 unfold xk;rw[h.cell 0];rfl
set_option maxRecDepth 100000 in
set_option maxHeartbeats 2000000 in
theorem F3 (n:Nat)(hn:1<=n)(b1 D:Nat)(A:Option Addr)(m c:Nat)(l:List UInt8)(B:Nat)(hl:U l=m)(hsz:m<=2 ^ 47)(C:List Nat->World->Prop)
  (hC:∀pre W v,C pre W->C pre (W.setCell ⟨D,0,none⟩ v)) (hCs:∀pre W,C pre W->ab W b1 25 #[.slice A m c]/\Sl W A (l.map af)):
  tJ Fence.wide n Tryz.prog 292 #[Y (some ⟨b1,0,none⟩),Y (some ⟨D,0,none⟩)] (λx:Nat=> #[V Z x]) (λpre W=>C pre W/\ab W D 3 #[V Z ((B+U pre:Nat):Int)])
   (λpre W=>C pre W/\ab W D 3 #[V Z ((B+U pre - 1:Nat):Int)]) (λxs=>xs=fy l B (8*m - B)) (λpre=>pre<+:fy l B (8*m - B)):=by
 intro lp K Jx W hK hY h0 eE;refine callsIn_of_wp Tryz.func292 rfl trivial ?_ rfl;simp only[Tryz.ntmps292,List.size_toArray,List.length_cons,List.length_nil,Nat.reduceAdd,Nat.reduceSub,Array.replicate_succ,Array.replicate_zero,List.push_toArray,List.append_toArray,List.nil_append,List.cons_append];have HY:=O hY;have HC:=O hC;have jT:=O hCs;have HK:=O hK;have HL:=O hl;have H0:=O h0;have wj:=O eE;clear hY hC hCs hK hl h0 eE;gi_wp2_with fail
 gi_loopw [] (λwr=>∃j:Nat,Hid (C ((fy l B (8*m - B)).take j) wr)/\Hid (ab wr D 3 #[V Z ((B+j:Nat):Int)])/\j<=8*m - B/\Hid (K wr)) (λwr=>8*m - (xk D wr).toNat)
 case atStart=>
  exact⟨0,O H0.out.1,O H0.out.2,Nat.zero_le _,wj⟩
 case round=>
  obtain⟨j,I,HB,hj,cz⟩:=hrel;have x2:=HB.out.cell 0;obtain⟨dE,hA⟩:=jT.out _ _ I.out;have x1:=dE.cell 0;have HA:=O hA;clear dE hA;obtain⟨p,hp⟩:∃p,p=B+j:=⟨_,rfl⟩;have gy:(0:Int)<=(p:Int):=(by omega);rw[<-hp] at x2
  by_cases T:p<8*m
  ·have Rd:=O (λW h=>fY ((aS l p:Nat):Int) A m c l (p:Int) 1 W (by rw[Int.toNat_natCast];show ((au l p 1:Nat):Int)=_;rw[gW]) h HL.out gy (by decide) (by decide) (by omega) hsz)
   have N:j<8*m - B:=(by omega);have aB:(fy l B (8*m - B)).take j++[aS l p]<+:fy l B (8*m - B):=(by rw[hp,se _ _ _ _ N];exact List.take_prefix _ _);have aC:((fy l B (8*m - B)).take j).length=j:=(by rw[List.length_take,gC];omega);obtain⟨fn,tmps,gJ,body,hy,hR⟩:=HY.out _ (aS l p) wr ⟨I.out,by rw[aC];exact HB.out⟩ cz.out aB;have HR:=O hR;have rX:=O N;have HP:=O hp;have Iq:=O aB;have J2:=O aC;have dt:=O T;clear hR N hp aB aC T hj;gi_wp2_with (refine⟨trivial,?_⟩;gi_at_call 56;refine(callsIn_wide.2 (Rd.out _ HA.out)).mono ?_;rintro e w' ⟨rfl,rfl⟩)
   refine HR.out.mono ?_;rintro e W3 (⟨rfl,M,fW⟩|⟨rfl,dD⟩)
   ·have G:ab W3 D 3 #[V Z (p:Int)]:=by
     have h:=M.2;rw[List.length_append,J2.out] at h;rw[HP.out];simpa using h
    have y2:=G.cell 0
    have g2:=G.frozen 0
    have K1:IntKind.i64.wrap ((p:Int)+1)=(p:Int)+1:=by have:=dt.out;rw[IntKind.wrap_i64];omega
    have bE:=O G;have kz:=O M.1;have Io:=O fW
    clear G M fW
    have HS:=O (bE.out.set_ 0 (V Z ((p:Int)+1)))
    have hU:=O (HC.out _ _ (V Z ((p:Int)+1)) kz.out)
    have Ip:=O (HK.out.set Io.out bE.out (v:=V Z ((p+1:Nat):Int)) (p:=⟨D,0,none⟩))
    gi_wp2_with fail
    have h5:=HP.out;have h6:=dt.out;have h7:=rX.out
    refine⟨⟨j+1,?_,O ?_,by omega,Ip⟩,?_⟩
    ·rw[<-se _ _ _ _ h7,<-h5];exact hU
    ·rw[show ((B+(j+1):Nat):Int)=(p:Int)+1 by omega];exact HS.out
    ·have h9:=sC HS.out;have K0:=sC HB.out
     rw[h9,K0,<-h5];omega
   ·gi_wp2_with fail
    refine bodyPost_ret (results_none rfl _ _ _) rfl ?_;exact⟨⟨_,rfl⟩,.inr ⟨_,Iq.out,dD⟩⟩
  ·have Rd:=O (λW=>dq A m c (p:Int) 1 W gy (by decide) (by decide) (by omega) hsz)
   have dY:j=8*m - B:=(by omega);have ja:Hid (C (fy l B (8*m - B)) wr/\ab wr D 3 #[V Z ((B+(fy l B (8*m - B)).length:Nat):Int)]):=O ⟨by have h:=I.out;rwa [List.take_of_length_le (by rw[gC];omega)] at h,by rw[gC,<-dY];exact HB.out⟩;clear dY hp hj T;gi_wp2_with (refine⟨trivial,?_⟩;gi_at_call 56;refine(callsIn_wide.2 (Rd.out _)).mono ?_;rintro e w' ⟨rfl,rfl⟩)
   refine⟨λ_ h=>(by cases h),?_⟩;gi_wp2_with fail
   refine bodyPost_ret (results_none rfl _ _ _) rfl ?_;exact⟨⟨_,rfl⟩,.inl ⟨_,rfl,ja.out,cz.out⟩⟩
end
open Go Go.RowKit Go.Maps
attribute [local go_sem] Oper.semAt_some
set_option maxHeartbeats 16000000
set_option maxRecDepth 100000
open Go.Lib renaming hid→O
open Go.IntKind renaming i64→U
open List renaming length→Z,drop_eq_getElem_cons→X,all_eq_true→J,getElem_mem→OA,getElem_map→OE
open Nat renaming le_refl→V
open Tryz renaming prog→Y,underlying230→OB,zeroValue227→OD,ntmps158→OG,func158→OH
open Go.Ending renaming returned→OC
open Go.Value renaming slice→OF,bool→OI,pointer→OK
open Go.Obj renaming cells→OJ
theorem C5 (w:World)(base T:Nat)(N:List Nd)(D:DataW Value)(f:Int->Option (List UInt8))(B:Nat)(h:ey w base T N D B)(hm:B≠0)(hD:kl D f)(num:Int)(I:(Lit.int U num).wf=true):
  Calls Y 158 #[OK (some ⟨T,0,none⟩),.int U num] w λe w'=>e=OC (.tuple #[.string (bs ((f num).getD [])),.int U (if (f num).isSome then 0 else 18)])/\Below w.heap.size w w':=by
 have HN:=O (qW w base T N D B h hm);have C:=O (Bf num I);have HD:=O hD;obtain⟨v,mb,M,aB,G,bE,aC⟩:=h;have HM:=O G;have c1:=M.cell 1;have j:=(hD.2 num).1;clear M aB G bE aC hD I
 cases K:f num with
 |some c=>
  rw[K] at j;have hh:Maps.has D (.int U num)=true:=j;have HF:=O K;clear K j
  go_enter OH,OG
  go_wp2_with (first
   |(go_at_call 202;refine HN.out.mono ?_;rintro e w' ⟨rfl,rfl⟩)
   |(at_lookup;refine wpList_lookup_own_ok _ rfl _ _ 230 rfl 3 227 kJ OB gR (z:=fE []) (OD _) (.held (fE [])) [] rfl mb _ _ rfl HM.out (.int U num) (.int U num) rfl C.out ?_;intro v ps hv;obtain rfl:=mL HD.out hv;clear hv))
  go_ret2;rw[HF.out];exact⟨rfl,(Below.refl _ _).alloc (V _) _⟩
 |none=>
  rw[K] at j;have hh:Maps.has D (.int U num)=false:=j;have HF:=O K;clear K j
  go_enter OH,OG
  go_wp2_with (first
   |(go_at_call 202;refine HN.out.mono ?_;rintro e w' ⟨rfl,rfl⟩)
   |(at_lookup;refine wpList_lookup_own_ok _ rfl _ _ 230 rfl 3 227 kJ OB gR (z:=fE []) (OD _) (.held (fE [])) [] rfl mb _ _ rfl HM.out (.int U num) (.int U num) rfl C.out ?_;intro v ps hv;obtain rfl:=mL HD.out hv;clear hv))
  go_ret2;exact⟨rfl,(Below.refl _ _).alloc (V _) _⟩
theorem zC (A:Option Addr)(n c:Nat)(cs:List (List UInt8))(w:World)(M:Sl w A (cs.map aM))(N:Z cs=n)(aB:n<=300)(C:cs.all cS=true):
  Calls Y 266 #[OF A n c,.func (.func 237) #[] #[]] w λe w'=>e=OC (.int U (-1))/\w=w':=by
 have T:=O M;have Hn:=O N;have D:=O C;clear M N C
 go_enter Tryz.func266,Tryz.ntmps266
 go_wp2_with fail
 go_loopg [8] n (λg i=> λwr=>∃(j:Nat),j+g=n/\i= .int U (j:Int)/\w=wr)
 case atStart=>exact⟨0,by omega,rfl,rfl⟩
 case round=>
  obtain⟨j,hj,rfl,rfl⟩:=hrel
  cases gk with
  |zero=>
   have K:¬((j:Int)<(n:Int)):=(by omega);go_wp2_with fail
   go_ret;exact⟨rfl,rfl⟩
  |succ g=>
   have K:((j:Int)<(n:Int)):=(by omega);have G:j<(Z cs):=(by rw[Hn.out];omega);obtain⟨ad,rfl,_,B⟩:=T.out.at_ j (by simpa using G);rw[OE] at B;unfold aM at B;have I:=O (J.1 D.out cs[j] (OA G));go_wp2_with (go_at_call 237;refine(yi _ I.out _).mono ?_;rintro e w' ⟨rfl,rfl⟩)
   go_roundg g
   case measure=>omega
   case rel=>exact⟨j+1,by omega,rfl,rfl⟩
theorem tQ (A:Option Addr)(n c:Nat)(cs:List (List UInt8))(w:World)(C:Sl w A (cs.map aM))(D:Z cs=n)(B:n<=300)(j:cs.all cS=true):
  Calls Y 236 #[OF A n c,.func (.func 237) #[] #[]] w λe w'=>e=OC (OI false)/\w=w':=by
 have G:=O (zC A n c cs w C D B j);clear C D j
 go_enter Tryz.func236,Tryz.ntmps236
 go_wp2_with (go_at_call 266;refine G.out.mono ?_;rintro e w' ⟨rfl,rfl⟩)
 go_ret;exact⟨rfl,rfl⟩
theorem zN {N:List Nd}{c:List UInt8}{cs:List (List UInt8)}{n:Int}{ns:List Int}{R:List Nd}(h:fR N (c::cs) (n::ns)=some R):∃M,yk N c n=some M/\fR M cs ns=some R:=by
 rw[fR] at h
 cases j:yk N c n with
 |none=>rw[j] at h;cases h
 |some M=>rw[j] at h;exact⟨M,rfl,h⟩
def DQ (cs:List (List UInt8)) (ns:List Int) (w:World) (e:Ending) (w':World):Prop:=∃T,e=OC (.tuple #[OK (some ⟨T,0,none⟩),.int U 0])/\ey w' w.heap.size T (fF cs ns) (pG cs ns) (Z cs)/\Below w.heap.size w w'
theorem Er (w:World):ey ((((w.alloc (OJ #[.int U 0,.int U 0,OI false,.int U 0] 260)).alloc (.map #[] 0))).alloc (OJ #[OF (some ⟨w.heap.size,0,none⟩) 1 1,.map (some (w.heap.size+1)),.int U 0] 232)) w.heap.size (w.heap.size+1+1) [ca] (.map []) 0:=by
 refine⟨_,w.heap.size+1,aH (ab.new _ _ _) (by simp),?_,?_,by omega,by omega⟩
 ·exact cC (World.ownsRow_lit w #[.int U 0,.int U 0,OI false,.int U 0] 1 (V _) (by decide) rfl) (((Below.refl _ _).alloc (V _) _).alloc (by simp) _) (by simp)
 ·have:=World.ownsMap_made (w.alloc (OJ #[.int U 0,.int U 0,OI false,.int U 0] 260)) Y 3 gR
  rw[World.size_alloc] at this;exact this.alloc _
theorem zK (A B:Option Addr)(n c d:Nat)(cs:List (List UInt8))(ns:List Int)(w:World)(hA:Sl w A (cs.map aM))(hB:Sl w B (ns.map aE))(hc:Z cs=n)(hn:Z ns=n)(h1:1<=n)(dt:n<=300)
  (D:cs.all cS=true) (I:(fR [ca] cs ns).isSome=true) (fW:ns.all (λk=>(Lit.int U k).wf)=true):
  Calls Y 201 #[OF A n c,OF B n d] w (DQ cs ns w):=by
 have jT:=O (tQ A n c cs w hA hc dt D);have HA:=O hA;have HB:=O hB;have Hc:=O hc;have Hn:=O hn;have aC:=O D;have rX:=O fW
 have dY:fR [ca] cs ns=some (fF cs ns):=by unfold fF;cases h:fR [ca] cs ns with
  |none=>rw[h] at I;cases I
  |some R=>rfl
 have kz:=O dY;have e0:((n:Int)==0)=false:=by rw[beq_eq_false_iff_ne];omega
 have e3:decide (300<(n:Int))=false:=by simp;omega
 have Iq:∀W:World,(Instr.makeMap 230 none).run Y W= .ok (.map (some W.heap.size)) (W.alloc (.map #[] 0)):= λW=>run_makeMap _ W;clear hA hB hc hn D I fW dY
 go_enter Tryz.func201,Tryz.ntmps201
 go_wp2_with (go_at_call 236;refine jT.out.mono ?_;rintro e w' ⟨rfl,rfl⟩)
 go_loopg [35] n (λg i=> λwr=>∃(j:Nat)(N':List Nd)(N:DataW Value)(f:Int->Option (List UInt8)),j+g=n/\i= .int U (j:Int)/\Hid (fR N' (cs.drop j) (ns.drop j)=some (fF cs ns))/\Hid (tK N (cs.drop j) (ns.drop j)=pG cs ns)/\Hid (kl N f)/\Hid (ey wr w.heap.size (w.heap.size+1+1) N' N j)/\Hid (Below w.heap.size w wr))
 case atStart=>
  exact⟨0,[ca],.map [],λ_=>none,by omega,rfl,kz,O rfl,O ti,O (Er w),O (((((Below.refl _ _).alloc (V _) _).alloc (by simp) _).alloc (by simp;omega) _))⟩
 case round=>
  obtain⟨j,N',N,f,hj,rfl,HP,HD,HT,HW,G⟩:=hrel
  cases gk with
  |succ g=>
   have Ip:((j:Int)<(n:Int)):=(by omega);have bE:j<(Z cs):=(by rw[Hc.out];omega);have cz:j<(Z ns):=(by rw[Hn.out];omega);obtain⟨ad,rfl,_,C⟩:=(HA.out.below G.out).at_ j (by simpa using bE);rw[OE] at C;unfold aM at C;obtain⟨ae,rfl,_,wj⟩:=(HB.out.below G.out).int j cz;have dE:=O (J.1 aC.out cs[j] (OA bE));have gy:=O (J.1 rX.out ns[j] (OA cz));have K:=HP.out;have hd:=HD.out;rw[X bE,X cz] at K hd;obtain⟨M,hM,K⟩:=zN K;have CP:=O (C9 wr w.heap.size (w.heap.size+1+1) N' N f j cs[j] ns[j] M dE.out hM (by omega) HW.out HT.out gy.out G.out.size);have hU:=O K;have T:=O (show tK (nU N ns[j] cs[j]) (cs.drop (j+1)) (ns.drop (j+1))=pG cs ns from hd);have aB:=O (vL HT.out ns[j] cs[j]);generalize cs[j]=cj at C CP T aB dE;generalize ns[j]=nj at wj CP T aB gy;clear K hd hM;go_wp2_with (go_at_call 239;refine CP.out.mono ?_;rintro e w' ⟨rfl,eE,dD⟩;have ja:=O eE;have gJ:=O dD;clear eE dD)
   go_roundg g
   case measure=>omega
   case rel=>exact⟨j+1,M,_,_,by omega,rfl,hU,T,aB,ja,O (G.out.trans gJ.out)⟩
  |zero=>
   have Ip:¬((j:Int)<(n:Int)):=(by omega);have Io:j=n:=(by omega);go_wp2_with fail
   go_ret2;have K:=HP.out;have hd:=HD.out;rw[List.drop_eq_nil_of_le (by rw[Hc.out];omega)] at K hd;have e1:N'=fF cs ns:=(by rw[fR.eq_def] at K;simpa using K);have e2:N=pG cs ns:=(by rw[tK.eq_def] at hd;simpa using hd);refine⟨_,rfl,?_,G.out⟩;rw[Hc.out,<-Io,<-e1,<-e2];exact HW.out
end Go.Proofs.YthhijgcfbjcgiaaGreatDoor
