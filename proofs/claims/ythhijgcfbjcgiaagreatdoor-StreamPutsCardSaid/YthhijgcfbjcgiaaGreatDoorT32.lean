/- PicS, Pen, PenW, PenP2, Grp -/
import Derived.Test.YthhijgcfbjcgiaaGreatDoorT31
namespace Go.Proofs.YthhijgcfbjcgiaaGreatDoor
open Go Go.RowKit
attribute [local go_sem] Oper.semAt_some
set_option maxHeartbeats 16000000
set_option maxRecDepth 100000
open Go.Lib renaming hid→O
open List renaming length→U,length_append→OE,setIfInBounds_toArray→OI,getElem?_eq_getElem→OJ,append_assoc→OL,set_cons_succ→OM,set_cons_zero→ON,length_map→OR,nil_append→OS,take_of_length_le→OT,length_singleton→OV,drop_succ_cons→OX,getElem?_map→Oa,take_add_one→Ob,length_take→Of,append_nil→Oh,map_append→Oi,drop_zero→Ol,take_zero→Om,getD→Oy
open Go.Value renaming slice→Z,int→V,pointer→OG,bool→OH,string→OK,tuple→Oj
open Go.Proofs.YthhijgcfbjcgiaaGreatDoor.bY renaming take→Y
open Tryz renaming prog→X,ntmps75→OP,func75→OU,ntmps101→Oo,func101→Ou,ntmps66→Ov,func66→Ox
open Go.IntKind renaming wrap_i64→J,i64→OA,i64→OC,u8→OW
open Int renaming cast_ofNat_Int→OB,tmod_eq_emod_of_nonneg→OO,toNat_natCast→OZ,natCast_zero→Oe
open Go.Ending renaming returned→OD
open Nat renaming le_refl→OF,sub_self→OY,mod_eq_of_lt→Og,reduceSub→On,zero_mul→Ot,one_mul→Ow
open Go.Obj renaming cells→OQ
open Go.World renaming ownsRow_nil→Oc,setCell→Oq
open Bool renaming and_eq_true→Od
structure AF (l:List UInt8) (p:Nat) (pre:List UInt8):Prop where
 i:td l p pre
 le:p+9*U pre<=8*U l
def eW (l:List UInt8) (p:Nat) (j:Int) (k:Nat):Nat×Int:=
 if j≠0 then(p+9*k,j) else if 8*U l<p+9*k+1 then(p+9*k,5) else if aZ l (p+9*k)=0 then(p+9*k+1,0) else if k=32 then(p+9*k+1,4) else(p+9*k+1,5)
structure oW (l:List UInt8) (p:Nat) (bad:Int) (xs:List UInt8):Prop where
 q:AF l p xs
 z:bad≠0->xs=[]
 t:bad=0->8*U l<p+9*U xs+1\/aZ l (p+9*U xs)=0\/(U xs)=32\/8*U l<p+9*U xs+9
theorem oW.fin {l:List UInt8}{p:Nat}{xs:List UInt8}(h:oW l p 0 xs):dF l 32 p=(xs,if (eW l p 0 (U xs)).2=0 then(eW l p 0 (U xs)).1 else 0,(eW l p 0 (U xs)).2):=by
 have he:=h.q.i.eq;have D:=h.q.i.le;have ht:=h.t rfl;rw[he];unfold eW;simp only[ne_eq,not_true_eq_false,if_false];generalize p+9*U xs=s at ht⊢
 by_cases B:8*U l<s+1
 ·rw[if_pos B,Bt B];simp
 rw[if_neg B]
 by_cases j:aZ l s=0
 ·rw[if_pos j,sH (by omega) j];simp
 rw[if_neg j]
 by_cases C:U xs=32
 ·rw[if_pos C,C,OY,yq (by omega) j];simp
 ·rw[if_neg C,show 32 - U xs=(31 - U xs)+1 by omega,yr (by omega) j (by omega)];simp
def Jc (j:Nat) (w:World):Int:=match w.cell? ⟨j,1,none⟩ with|some (V OA x)=>x|_=>0
theorem AK {w:World}{B:Nat}{t:TypeId}{A:Option Addr}{n c p:Nat}{j:Int}(h:ab w B t (cW A n c p j)):Jc B w=p:=by
 unfold Jc;have C:=h.cell 1;unfold cW at C;rw[C];rfl
def BO (x:UInt8):Array Value:= #[V .u8 (x.toNat:Int)]
theorem Et (g:Nat)(w:World):Calls X 142 #[OG (some ⟨g,0,none⟩)] w λe w'=>e=OD (.func (.func 184) #[] #[OG (some ⟨w.heap.size,0,none⟩)])/\w'=w.alloc (OQ #[OG (some ⟨g,0,none⟩)] 161):=by
 go_enter Tryz.func142,Tryz.ntmps142
 go_wp2_with fail
 go_ret;exact⟨by simp,rfl⟩
theorem ES (N:Nat)(hN:1<=N)(g gb:Nat)(A:Option Addr)(n c:Nat)(l:List UInt8)(p:Nat)(G:Int)(hl:U l=n)(hsz:n<=2 ^ 40)(hp:p<=8*n)(C:List UInt8->World->Prop)
  (Kt:∀pre W W' cs,C pre W->ab W g 163 cs->W.grownBy W' (some g)->C pre W')
  (hCs:∀pre W,C pre W->ab W gb 161 #[OG (some ⟨g,0,none⟩)]/\Sl W A (l.map ag)):
  wk Fence.wide N X 184 #[OG (some ⟨gb,0,none⟩)] BO
   (λpre W=>C pre W/\ab W g 163 (cW A n c p G))
   (λpre W=>C pre W/\ab W g 163 (cW A n c (p+9*(U pre+1)) 0))
   (λpre W=>C pre W/\ab W g 163 (cW A n c (p+9*U pre) 0))
   (λpre W=>C pre W/\ab W g 163 (cW A n c (eW l p G (U pre)).1 (eW l p G (U pre)).2))
   (oW l p G) (AF l p):=by
 intro lp K Jx W hK hY K3 Kw;refine callsIn_of_wp Tryz.func184 rfl trivial ?_ rfl;simp only[Tryz.ntmps184,List.size_toArray,List.length_cons,List.length_nil,Nat.reduceAdd,On,Array.replicate_succ,Array.replicate_zero,List.push_toArray,List.append_toArray,OS,List.cons_append];have HY:=O hY;have KC:=O Kt;have Hu:=O hCs;have HK:=O hK;have HL:=O hl;have H0:=O K3;have KD:=O Kw;have KH:=O hp;have z0:=(hCs _ _ K3.1).1.cell 0;(try dsimp only at z0);clear hY Kt hCs hK hl K3 Kw hp;gi_wp2_with fail
 gi_loopw [4] (λm wr=>∃(pre:List UInt8),m=V OA (U pre:Int)/\Hid (AF l p pre)/\Hid (G≠0->pre=[])/\Hid (C pre wr)/\Hid (ab wr g 163 (cW A n c (p+9*U pre) G))/\Hid (K wr)) (λ_ wr=>8*n - (Jc g wr).toNat)
 case atStart=>exact⟨[],rfl,O ⟨yu _ _,by have:=KH.out;have:=HL.out;simp;omega⟩,O (λ_=>rfl),O H0.out.1,O H0.out.2,KD⟩
 case round=>
  obtain⟨pre,rfl,HQ,HZ,HC,HB,KF⟩:=hrel;obtain⟨s,hs⟩:∃s,p+9*U pre=s:=⟨_,rfl⟩;rw[hs] at HB;have K6:s<=8*n:=(by have:=HQ.out.le;have:=HL.out;omega);obtain⟨KN,hA⟩:=Hu.out _ _ HC.out;have C1:=ov g A n c l s G 1 wr HB.out hA HL.out hsz K6 (by decide);obtain⟨r,hr⟩:∃r,ib l s G 1=r:=⟨_,rfl⟩;rw[hr] at C1;simp only[OB] at C1;have HA:=O hA;have KQ:=O K6;have HS:=O hs;unfold ib at hr;have cI:=HQ.out;have fJ:=HL.out;have Ku:∀M,wr.grownBy M (some g)->C pre M/\K M:= λM hg=>⟨KC.out _ _ _ _ HC.out HB.out hg,FW HK.out KF.out hg HB.out⟩;have eE:=O Ku;have aJ:=O C1;clear KN hA C1 K6 Ku
  have fin:∀(M:World)(q:Nat×Int),eW l p G (U pre)=q->oW l p G pre->wr.grownBy M (some g)->ab M g 163 (cW A n c q.1 q.2)->
    (∃v,Ending.returned (Oj #[])=OD v)/\((∃xs,oW l p G xs/\(C xs M/\ab M g 163 (cW A n c (eW l p G (U xs)).1 (eW l p G (U xs)).2))/\K M)\/(∃pre,AF l p pre/\Jx pre M)):= λM q hq he hg hb=>by
   subst hq;exact⟨⟨_,rfl⟩,.inl ⟨pre,he,⟨(eE.out M hg).1,hb⟩,(eE.out M hg).2⟩⟩
  have HF:=O fin;clear fin
  by_cases j:G≠0
  ·rw[if_pos j] at hr
   subst hr;have hz:=HZ.out j;have hq:eW l p G (U pre)=(s,G):=(by unfold eW;rw[if_pos j,hs]);have HE:=O (show oW l p G pre from⟨HQ.out,λ_=>hz,λh=>absurd h j⟩);have bM:=O hq;clear hz hq j hs cI fJ;gi_wp2_with (refine⟨trivial,?_⟩;gi_at_call 141;refine(callsIn_wide.2 aJ.out).mono ?_;rintro e w2 ⟨rfl,D,B⟩;have T:=O D;have I:=O B;clear D B)
   refine bodyPost_end (results_none rfl _ _ _) rfl ?_;exact HF.out _ _ bM.out HE.out I.out T.out
  have KM:G=0:=(by omega);subst KM;rw[if_neg j] at hr
  by_cases h1:8*U l<s+1
  ·rw[if_pos h1] at hr
   subst hr;have hq:eW l p 0 (U pre)=(s,5):=(by unfold eW;rw[if_neg j,hs,if_pos h1]);have HE:=O (show oW l p 0 pre from⟨HQ.out,λh=>absurd rfl h,λ_=> .inl (by rw[hs];exact h1)⟩);have bM:=O hq;clear hq j hs h1 cI fJ;gi_wp2_with (refine⟨trivial,?_⟩;gi_at_call 141;refine(callsIn_wide.2 aJ.out).mono ?_;rintro e w2 ⟨rfl,D,B⟩;have T:=O D;have I:=O B;clear D B)
   refine bodyPost_end (results_none rfl _ _ _) rfl ?_;exact HF.out _ _ bM.out HE.out I.out T.out
  rw[if_neg h1,kc] at hr
  by_cases av:aZ l s=0
  ·rw[av] at hr
   subst hr;have hq:eW l p 0 (U pre)=(s+1,0):=(by unfold eW;rw[if_neg j,hs,if_neg h1,if_pos av]);have HE:=O (show oW l p 0 pre from⟨HQ.out,λh=>absurd rfl h,λ_=> .inr (.inl (by rw[hs];exact av))⟩);have bM:=O hq;clear hq j hs h1 av cI fJ;simp only[Oe] at aJ;gi_wp2_with (refine⟨trivial,?_⟩;gi_at_call 141;refine(callsIn_wide.2 aJ.out).mono ?_;rintro e w2 ⟨rfl,D,B⟩;have T:=O D;have I:=O B;clear D B)
   refine bodyPost_end (results_none rfl _ _ _) rfl ?_;exact HF.out _ _ bM.out HE.out I.out T.out
  rw[rH l s av] at hr;subst hr;simp only[OB] at aJ;have K4:=cI.i.le;have rG:∀M,wr.grownBy M (some g)->M.cell? ⟨gb,0,none⟩=some (OG (some ⟨g,0,none⟩)):= λM hg=>(Hu.out _ _ (eE.out M hg).1).1.cell 0;have gj:=O rG;clear rG
  by_cases h3:U pre=32
  ·have hq:eW l p 0 (U pre)=(s+1,4):=by unfold eW;rw[if_neg j,hs,if_neg h1,if_neg av,if_pos h3]
   have HE:=O (show oW l p 0 pre from⟨HQ.out,λh=>absurd rfl h,λ_=> .inr (.inr (.inl h3))⟩);have bM:=O hq;have hk:((U pre:Int)==32)=true:=(by rw[h3];rfl);clear hq j hs h1 av cI fJ h3 K4;gi_wp2_with (refine⟨trivial,?_⟩;gi_at_call 141;refine(callsIn_wide.2 aJ.out).mono ?_;rintro e w2 ⟨rfl,D,B⟩;have T:=O D;have I:=O B;have y0:=gj.out _ B;have y1:=D.frozen 2;have cE:=D.cell 2;unfold cW at cE;(try dsimp only at y1 cE);clear D B)
   have iP:=T.out.set_ 2 (V OA 4);unfold cW at iP;simp only[OI,ON,OM] at iP;refine bodyPost_ret (results_none rfl _ _ _) rfl ?_;exact HF.out _ _ bM.out HE.out (I.out.trans (gY _ _ _ _)) iP
  have hk:((U pre:Int)==32)=false:=by simp;omega
  have C2:∀M,wr.grownBy M (some g)->ab M g 163 (cW A n c (s+1) 0)->Calls X 141 #[OG (some ⟨g,0,none⟩),V OA 8] M (GR g A n c (ib l (s+1) 0 8) M):= λM hg hb=>
   ov g A n c l (s+1) 0 8 M hb ((Hu.out _ _ (eE.out M hg).1).2) HL.out hsz (by omega) (by decide)
  obtain⟨r2,dO⟩:∃r,ib l (s+1) 0 8=r:=⟨_,rfl⟩;rw[dO] at C2;unfold ib at dO;rw[if_neg j] at dO
  by_cases h9:8*U l<s+1+8
  ·rw[if_pos h9] at dO
   subst dO;have hq:eW l p 0 (U pre)=(s+1,5):=(by unfold eW;rw[if_neg j,hs,if_neg h1,if_neg av,if_neg h3]);have HE:=O (show oW l p 0 pre from⟨HQ.out,λh=>absurd rfl h,λ_=> .inr (.inr (.inr (by rw[hs];omega)))⟩);have bM:=O hq;have Ht:=O C2;clear hq j hs h1 av cI fJ h3 K4 h9 C2;gi_wp2_with (refine⟨trivial,?_⟩;gi_at_call 141;refine(callsIn_wide.2 aJ.out).mono ?_;rintro e w2 ⟨rfl,D,B⟩;have T:=O D;have I:=O B;have y0:=gj.out _ B;clear D B aJ)
   refine⟨trivial,?_⟩
   gi_at_call 141
   refine(callsIn_wide.2 (Ht.out _ I.out T.out)).mono ?_;rintro e w3 ⟨rfl,dv,dy⟩;have Hl:=O dv;have jg:=O (I.out.trans dy);have y1:=gj.out _ (I.out.trans dy);have cE:=dv.cell 2;unfold cW at cE;(try dsimp only at cE);clear dv dy;gi_wp2_with (refine wpListIn_skip (by rfl) (by rfl) ?_)
   refine bodyPost_ret (results_none rfl _ _ _) rfl ?_;exact HF.out _ _ bM.out HE.out jg.out Hl.out
  rw[if_neg h9] at dO;subst dO;have hx:=fF l (s+1) 8;have K5:=cI.i.next (by omega) (by rw[hs];exact av) (by rw[hs];omega);rw[hs] at K5;have jY:(pre++[UInt8.ofNat (aB l (s+1) 8)]).length=U pre+1:=(by rw[OE,OV]);have K8:AF l p (pre++[UInt8.ofNat (aB l (s+1) 8)]):=⟨K5,by rw[jY];omega⟩;have Ky:s+1+8=p+9*(U pre+1):=(by omega);obtain⟨x,KA⟩:∃x,aB l (s+1) 8=x:=⟨_,rfl⟩;rw[KA] at C2 K8 jY hx;have KT:OW.wrap (x:Int)=(x:Int):=(by rw[IntKind.wrap_u8];omega);have Kz:((UInt8.ofNat x).toNat:Int)=(x:Int):=(by rw[fj _ (by omega)]);have Ht:=O C2;have K0:=O K8;have K9:=O jY;have KI:=O Ky;have KJ:=O Kz;have KR:OC.wrap ((U pre:Int)+1)=(U pre:Int)+1:=(by rw[J];omega);have KG:=O (show s<8*n by omega);have KK:=O (show p+9*(U pre+1)<=8*n by omega);clear j h1 av cI fJ h3 K4 h9 C2 K8 jY Ky KA hx Kz K5;gi_wp2_with (refine⟨trivial,?_⟩;gi_at_call 141;refine(callsIn_wide.2 aJ.out).mono ?_;rintro e w2 ⟨rfl,D,B⟩;have T:=O D;have I:=O B;have y0:=gj.out _ B;clear D B aJ)
  refine⟨trivial,?_⟩
  gi_at_call 141
  refine(callsIn_wide.2 (Ht.out _ I.out T.out)).mono ?_;rintro e w3 ⟨rfl,dv,dy⟩;have Hl:=O dv;have jg:=O (I.out.trans dy);have y1:=gj.out _ (I.out.trans dy);have cE:=dv.cell 2;unfold cW at cE;(try dsimp only at cE);clear dv dy;obtain⟨fn,tmps,KB,KO,kA,hR⟩:=HY.out pre (UInt8.ofNat x) w3 ⟨(eE.out _ jg.out).1,by rw[<-KI.out];exact Hl.out⟩ (eE.out _ jg.out).2 K0.out;have HR:=O hR;dsimp only[BO] at kA;rw[KJ.out] at kA;clear hR;gi_wp2_with fail
  refine HR.out.mono ?_;rintro e W3 (⟨rfl,Kv,Kx⟩|⟨rfl,kU⟩)
  ·have JT:=O Kv;have KE:=O Kx
   clear Kv Kx kA y0 y1 cE;gi_wp2_with fail
   refine⟨⟨pre++[UInt8.ofNat x],by rw[K9.out];rfl,K0,O (λh=>absurd rfl h),O JT.out.1,O JT.out.2,KE⟩,?_⟩;have h9:=AK JT.out.2;have KL:=AK HB.out;rw[h9,KL,K9.out];have:=KG.out;have:=HS.out;have:=KK.out;omega
  ·have HJ:=O kU
   clear kA kU;gi_wp2_with fail
   refine bodyPost_ret (results_none rfl _ _ _) rfl ?_;exact⟨⟨_,rfl⟩,.inr ⟨_,K0.out,HJ.out⟩⟩
def Bz (j:World) (h:Nat) (L:List UInt8) (v:Value) (W:World):Prop:=ay j [(h,95,#[v,V OA (U L:Int),OH true])] [⟨j.heap.size,5,1,v,(bw L).length,(bw L).map ag⟩] W
structure PB (h:Nat) (W W':World):Prop where
 size:W.heap.size<=W'.heap.size
 blk:∀(k:Nat)(t:TypeId)(cs:Array Value),k≠h->t≠5->ab W k t cs->ab W' k t cs
theorem tF (h:Nat)(W:World):PB h W W:=⟨OF _,λ_ _ _ _ _ j=>j⟩
theorem PB.trans {h:Nat}{A B C:World}(x:PB h A B)(y:PB h B C):PB h A C:=⟨Nat.le_trans x.size y.size,λk t cs j h2 D=>y.blk k t cs j h2 (x.blk k t cs j h2 D)⟩
theorem rv {h:Nat}{A W j:World}(x:PB h A W)(B:Below W.heap.size W j):PB h A j:=x.trans ⟨B.size,λ_k _t _cs _ _ C=>C.below B C.lt⟩
theorem Gb {h:Nat}{A W:World}(x:PB h A W)(o:Obj):PB h A (W.alloc o):=rv x ((Below.refl _ _).alloc (OF _) o)
theorem Bg {h:Nat}{A W:World}(x:PB h A W):PB h A W.drew:=rv x (Below.refl _ _).drew
theorem xO {h:Nat}{A W:World}(x:PB h A W)(i:Nat)(v:Value):PB h A (W.setCell ⟨h,i,none⟩ v):=x.trans ⟨by simp[Oq],λk t cs j _ B=>B.far (p:=⟨h,i,none⟩) j v⟩
theorem Bh {h g:Nat}{A W:World}{cs:Array Value}(x:PB h A W)(B:ab W g 5 cs)(i:Nat)(v:Value):PB h A (W.setCell ⟨g,i,none⟩ v):=x.trans ⟨by simp[Oq],λk t C _ h2 j=>j.far (p:=⟨g,i,none⟩) (λe=>by
 have e:k=g:=e;subst e;unfold ab at B j;rw[B] at j;injection j with j;injection j with _ ht;exact h2 ht.symm) v⟩
theorem Gc {h:Nat}{A W j:World}{base n:Nat}{v:Value}{xs:List Value}(x:PB h A W)(B:W.grownBy j v.ownBlock)(D:W.ownsRow base 5 1 v n xs):PB h A j:=
 x.trans ⟨B.size,λ_k _t _cs _ h2 C=>C.grown B (ba D C (Ne.symm h2))⟩
theorem Bn {W:World}{base g n c:Nat}{xs:List Value}{e:TypeId}(D:W.ownsRow base e 1 (Z (some ⟨g,0,none⟩) n c) n xs):∃cs,ab W g e cs:=by
 rcases D.2 with⟨h,_⟩|⟨g',B,j,h,_,C,_⟩
 ·cases h
 ·cases h;exact⟨j,C⟩
structure dS (w0:World) (h:Nat) (L:List UInt8) (W:World):Prop where
 ex:∃v,Bz w0 h L v W
theorem dS.below {B:World}{h:Nat}{L:List UInt8}{W j:World}(D:dS B h L W)(G:Below W.heap.size W j):dS B h L j:=by
 obtain⟨v,C⟩:=D;exact⟨v,aQ C G⟩
theorem xP (h:Nat)(v:Value)(n:Int)(w:World)(j:ab w h 95 #[v,V OA n,OH true]):Calls X 65 #[OG (some ⟨h,0,none⟩)] w λe w'=>e=OD (OH false)/\w=w':=by
 have B:=j.cell 2;(try dsimp only at B);clear j
 go_enter Tryz.func65,Tryz.ntmps65
 go_wp2_with fail
 go_ret;exact⟨rfl,rfl⟩
theorem Ge (h:Nat)(v:Value)(n k:Int)(w:World)(j:ab w h 95 #[v,V OA n,OH true])(C:0<=n)(D:0<=k)(h2:n+k<=16777216):Calls X 100 #[OG (some ⟨h,0,none⟩),V OA k] w λe w'=>e=OD (OH false)/\w=w':=by
 have B:=j.cell 1;have I:OC.wrap (n+k)=n+k:=by rw[J];omega
 have G:¬16777216<n+k:=by omega
 (try dsimp only at B);clear j
 go_enter Tryz.func100,Tryz.ntmps100
 go_wp2_with fail
 go_ret;exact⟨rfl,rfl⟩
theorem qA (w:World):Calls X 30 #[] w λe w'=>e=OD (OG (some ⟨w.heap.size,0,none⟩))/\dS w w.heap.size [] w':=by
 go_enter Tryz.func30,Tryz.ntmps30
 go_wp2_with fail
 go_ret;exact⟨rfl,⟨Z none 0 0,(Below.refl _ w).alloc (OF _) _,aa.cons (ab.new _ _ _) (ai _),ar.cons (Oc _ _ _ _) (aF _)⟩⟩
theorem Jv (q b:Nat)(i:Nat)(j:b<2 ^ i)(h:q % 2 ^ i=0):q|||b=q+b:=by
 have e:q=2 ^ i*(q / 2 ^ i):=by have:=Nat.div_add_mod q (2 ^ i);omega
 rw[e,<-Nat.two_pow_add_eq_or_of_lt j]
theorem AR (L:List UInt8)(x r:Nat)(D:x<2)(j:U L % 8=r)(B:0<r):dW L (U L / 8)|||(x*2 ^ (7 - r))=dW L (U L / 8)+x*2 ^ (7 - r):=by
 have C:r<8:=by omega
 refine Jv _ _ (8 - r) ?_ (by have:=DM L (by omega);rwa [j] at this);have e:2 ^ (8 - r)=2*2 ^ (7 - r):=by rw[show 8 - r=(7 - r)+1 by omega,Nat.pow_succ,Nat.mul_comm]
 rw[e];have:0<2 ^ (7 - r):=Nat.pow_pos (by decide);rcases(show x=0\/x=1 by omega) with rfl|rfl<;>omega
theorem Kh (M:List UInt8):M.map ag=az (λb=>[ag b]) M:=by
 induction M with
 |nil=>rfl
 |cons b M ih=>rw[List.map_cons,ih];rfl
theorem tG {C W:World}{g h n c k:Nat}{M:List UInt8}(G:ay C [(h,95,#[Z (some ⟨g,0,none⟩) n c,V OA (k:Int),OH true])] [⟨C.heap.size,5,1,Z (some ⟨g,0,none⟩) n c,n,M.map ag⟩] W):h≠g/\C.heap.size<=g:=by
 have I:=G.2.2.head;dsimp only at I;rcases I.2 with⟨j,_⟩|⟨g',D,B,j,N,T,_⟩
 ·simp at j
 ·simp only[Value.slice.injEq,Option.some.injEq,Addr.mk.injEq,and_true,true_and] at j
  obtain⟨rfl,rfl⟩:=j;refine⟨?_,N⟩;have K:ab W g 5 B:=T;exact aT G.2.1.head K (by simp)
theorem Bi {j W:World}{g h n c k:Nat}{M:List UInt8}(B:ay j [(h,95,#[Z (some ⟨g,0,none⟩) n c,V OA (k:Int),OH true])] [⟨j.heap.size,5,1,Z (some ⟨g,0,none⟩) n c,n,M.map ag⟩] W)(K:j.heap.size<=h)(i:Nat)(b:UInt8):
  ay j [(h,95,#[Z (some ⟨g,0,none⟩) n c,V OA ((k:Int)+1),OH true])] [⟨j.heap.size,5,1,Z (some ⟨g,0,none⟩) n c,n,(M.set i b).map ag⟩] ((W.setCell ⟨g,i,none⟩ (ag b)).setCell ⟨h,1,none⟩ (V OA ((k:Int)+1))):=by
 obtain⟨C,I⟩:=tG B
 have G:ay j [(h,95,#[Z (some ⟨g,0,none⟩) n c,V OA (k:Int),OH true])] [⟨j.heap.size,5,1,Z (some ⟨g,0,none⟩) n c,n,(M.set i b).map ag⟩] (W.setCell ⟨g,i,none⟩ (ag b)):=by
  refine⟨B.1.setCell (p:=⟨g,i,none⟩) I _,B.2.1.far (p:=⟨g,i,none⟩) (λq D=>by rw[List.mem_singleton] at D;subst D;exact C) _,ar.cons ?_ (aF _)⟩;have h2:=(B.2.2.head.stored i (ag b)).1;rw[List.map_set];exact h2
 have h2:=aV G K 1 (V OA ((k:Int)+1)) (h,95,#[Z (some ⟨g,0,none⟩) n c,V OA (k:Int),OH true]) (by simp) rfl (by simp)
 simpa [df] using h2
theorem xQ (w0:World)(h g n c:Nat)(M:List UInt8)(k i q y r x:Nat)(hk:k<16777216)(hx:x<2)(hr:k % 8=r)(hi:k / 8=i)(jY:i<n)(hM:n=U M)(hq:(M.getD i 0).toNat=q)(hy:y=x*2 ^ (7 - r))(hh:w0.heap.size<=h)(W:World)
  (C:ay w0 [(h,95,#[Z (some ⟨g,0,none⟩) n c,V OA (k:Int),OH true])] [⟨w0.heap.size,5,1,Z (some ⟨g,0,none⟩) n c,n,M.map ag⟩] W) (kA:0<r):
  Calls X 101 #[OG (some ⟨h,0,none⟩),V OA (x:Int)] W λe w'=>(∃u,e=OD u)/\ay w0 [(h,95,#[Z (some ⟨g,0,none⟩) n c,V OA ((k:Int)+1),OH true])] [⟨w0.heap.size,5,1,Z (some ⟨g,0,none⟩) n c,n,(M.set i (UInt8.ofNat (q|||y))).map ag⟩] w'/\(∀B,KeepsFrom B W w')/\PB h W w':=by
 have dO:=O (Bn C.2.2.head);have hb:=C.2.1.head;have D:=tG C
 have N:W.cell? ⟨g,i,none⟩=some (V .u8 (q:Int)):=by
  have h1:=C.2.2.head.cellAt i (by show i<n*1;omega);(try dsimp only at h1);rw[h1,Oa,OJ (by omega),Option.map_some];have e:M.getD i 0=M[i]'(by omega):=(by simp[Oy,OJ (show i<(U M) by omega)]);rw[<-hq,e];rfl
 have jg:=C.2.2.head.frozenAt i;(try dsimp only at jg);have av:q<256:=by rw[<-hq];exact UInt8.toNat_lt _
 have kU:r<8:=by omega
 have aJ:y<256:=by
  rw[hy];have:r=0\/r=1\/r=2\/r=3\/r=4\/r=5\/r=6\/r=7:=(by omega);rcases this with rfl|rfl|rfl|rfl|rfl|rfl|rfl|rfl<;>omega
 have T:q|||y<256:=Nat.or_lt_two_pow (n:=8) av aJ;have bM:=O (u8_or_nat q y av aJ);have I:ag (UInt8.ofNat (q|||y))=V .u8 ((q|||y:Nat):Int):=by unfold ag;rw[fj _ T]
 have HS:=O (Bi C hh i (UInt8.ofNat (q|||y)));rw[I] at HS;obtain⟨z,hz⟩:∃z,q|||y=z:=⟨_,rfl⟩;rw[hz] at HS bM T⊢;have eE:Hid (aa [(h,95,#[Z (some ⟨g,0,none⟩) n c,V OA (k:Int),OH true])] W.drew/\W.drew.cell? ⟨g,i,none⟩=some (V .u8 (q:Int))):=O ⟨C.2.1.drew,N⟩;have G:((k:Int) % 8)=(r:Int):=by omega
 have K6:((k:Int) / 8)=(i:Int):=by omega
 have rG:(k:Int).tmod 8=(r:Int):=by rw[OO (by omega)];exact G
 have JT:=hb.cell 0;have K0:=hb.cell 1;have gj:=hb.frozen 0;have iP:=hb.frozen 1;have K:=hb.far (p:=⟨g,i,none⟩) D.1 (V .u8 (z:Int));have Ht:=K.cell 1;have Hu:=K.frozen 1;have K4:((i:Int)<(n:Int)):=by omega
 have K3:¬((i:Int)<0):=by omega
 have K9:OC.wrap (i:Int)=(i:Int):=by rw[J];omega
 have K5:(i:Int).toNat=i:=by omega
 have Kt:OC.wrap ((k:Int)+1)=(k:Int)+1:=by rw[J];omega
 (try dsimp only at JT K0 gj iP Ht Hu);clear hb K I D hz hq hi jY hM T av aJ C;have dy:x=0\/x=1:=by omega
 have dv:r=1\/r=2\/r=3\/r=4\/r=5\/r=6\/r=7:=by omega
 have Hl:∀W:World,Sem.run X (Op.shift .shl .u8 (OW.wrap (x:Int)) OA (OC.wrap (7 - (r:Int)))) W= .ok (V .u8 (y:Int)) W:= λW=>by
  subst hy;rcases dy with rfl|rfl<;>rcases dv with rfl|rfl|rfl|rfl|rfl|rfl|rfl<;>rfl
 clear hr kA kU hx hk;rcases dy with rfl|rfl<;>rcases dv with rfl|rfl|rfl|rfl|rfl|rfl|rfl
 all_goals
  simp only[Ot,Ow,On,Nat.reducePow] at hy
  subst hy
  have cI:=bM.out
  (try simp only[OB,Int.reduceSub] at cI G rG Hl⊢)
  go_enter Ou,Oo
  go_wp2_with fail
  refine aP (λw'=>aa [(h,95,#[Z (some ⟨g,0,none⟩) n c,V OA (k:Int),OH true])] w'/\w'.cell? ⟨g,i,none⟩=some (V .u8 (q:Int))) 20 (Y 0 (Y 1 (Y 2 (Y 3 (Y 4 (Y 5 (Y 6 (Y 7 (Y 8 (Y 9 (Y 10 (Y 11 (Y 12 (Y 13 (Y 14 (Y 15 (Y 16 (Y 17 (Y 18 (Y 19 (.done))))))))))))))))))))) (eE.out) (λPE cE=>?_)
  iterate 20
   refine af (v:=?_) rfl (by rfl) ?_ ?_
   rotate_left
   ·intro _ j;(try dsimp only at j);have z0:=j.1.head.cell 0;have z1:=j.1.head.cell 1;have z2:=j.2;(try dsimp only at z0 z1 z2);go_simp;(try with_reducible rfl)
   simp only[OI,ON,OM]
  refine cE _ _ ?_
  clear cE PE
  simp only[OX,Ol]
  go_wp2_with fail
  refine⟨rfl,?_⟩
  go_wp2_with fail
  refine bodyPost_end (results_none rfl _ _ _) rfl ⟨⟨_,rfl⟩,?_⟩
  obtain⟨K8,fJ⟩:=dO.out
  exact⟨bB HS.out,λB=>ff (aq (aq (KeepsFrom.refl B W) _ _) _ _),Bg (xO (Bh (tF h W) fJ _ _) _ _)⟩
theorem vN (w0:World)(h:Nat)(v:Value)(M:List UInt8)(k x n:Nat)(hk:k<16777216)(hx:x<2)(hr:k % 8=0)(hM:U M=n)(hi:k / 8=n)(hh:w0.heap.size<=h)(W:World)
  (hc:ay w0 [(h,95,#[v,V OA (k:Int),OH true])] [⟨w0.heap.size,5,1,v,n,M.map ag⟩] W):
  Calls X 101 #[OG (some ⟨h,0,none⟩),V OA (x:Int)] W λe w'=>(∃u,e=OD u)/\∃v',ay w0 [(h,95,#[v',V OA ((k:Int)+1),OH true])] [⟨w0.heap.size,5,1,v',n+1,(M++[UInt8.ofNat (x*128)]).map ag⟩] w'/\(∀B,KeepsFrom B W w')/\PB h W w':=by
 obtain⟨A,c,hv⟩:=bg hc.2.2.head;dsimp only at hv;subst hv;have hb:=hc.2.1.head;have HC:=O hc;have bM:=hb.cell 0;have cE:=hb.cell 1;have jg:=hb.frozen 0;have aJ:=hb.frozen 1;(try dsimp only at bM cE jg aJ);have kA:((k:Int) % 8)=0:=by omega
 have Kv:((k:Int) / 8)=(n:Int):=by omega
 have KC:(k:Int).tmod 8=0:=by rw[OO (by omega)];exact kA
 have KD:OC.wrap (n:Int)=(n:Int):=by rw[J];omega
 have K9:(n:Int).toNat=n:=by omega
 have KE:OC.wrap ((k:Int)+1)=(k:Int)+1:=by rw[J];omega
 have jY:n<16777216:=by omega
 have fJ:=O jY;have D:=O hM;clear hb hc jY hM hi hr hk
 go_enter Ou,Oo
 go_wp2_with (at_builtin;refine dA nC rfl rfl rfl ((ap HC.out (OQ #[V .u8 0] 5)).2.2.head) rfl (m:=1) (news:=[V .u8 0]) rfl (ab.sl (ab.new W 5 _) 0) ?c2 ?c4 ?c5 ?_)
 case c2=>intro u hu;simp at hu;subst hu;rfl
 case c4=>have:=fJ.out;omega
 case c5=>have:=HC.out.1.size;simp;omega
 intro v5 W5 h2 h3 _;have av:=nU (ap HC.out (OQ #[V .u8 0] 5)) h3 h2 (OF _) (by simp) (by simp);have eE:=O (λB=>iq (co (KeepsFrom.refl B W) (OQ #[V .u8 0] 5)) h3 (gH (ap HC.out (OQ #[V .u8 0] 5)).2.2.head));have gj:=O (Gc (Gb (tF h W) (OQ #[V .u8 0] 5)) h3 (ap HC.out (OQ #[V .u8 0] 5)).2.2.head);obtain⟨C,c5,kU,KA,KB⟩:=uR av.2.2.head (by show 0<n+1;omega);dsimp only at kU;subst kU;have Ht:=O av;have G:=av.2.1.head;have s0:=G.cell 0;have s1:=G.cell 1;have s2:=G.frozen 0;have s3:=G.frozen 1;(try dsimp only at s0 s1 s2 s3);clear av G bM cE jg aJ h2 h3;go_wp2_with fail
 have j:ay w0 [(h,95,#[Z (some ⟨C,0,none⟩) (n+1) c5,V OA (k:Int),OH true])] [⟨w0.heap.size,5,1,Z (some ⟨C,0,none⟩) (n+1) c5,n+1,(M++[0]).map ag⟩] (W5.setCell ⟨h,0,none⟩ (Z (some ⟨C,0,none⟩) (n+1) c5)):=by
  have h2:=aV Ht.out hh 0 (Z (some ⟨C,0,none⟩) (n+1) c5) (h,95,#[Z A n c,V OA (k:Int),OH true]) (by simp) rfl (by simp);have e0:[(0:UInt8)].map ag=[Value.int .u8 0]:=rfl;rw[Oi,e0]
  simpa [df] using h2
 have Ky:=O j;have Hu:=O (λB=>aq (eE.out B) ⟨h,0,none⟩ (Z (some ⟨C,0,none⟩) (n+1) c5));have JT:=O (xO gj.out 0 (Z (some ⟨C,0,none⟩) (n+1) c5));have K0:=O (Bn j.2.2.head);clear eE gj;have I:=j.2.1.head;have cI:=tG j
 have dO:(W5.setCell ⟨h,0,none⟩ (Z (some ⟨C,0,none⟩) (n+1) c5)).cell? ⟨C,n,none⟩=some (V .u8 0):=by
  have h1:=j.2.2.head.cellAt n (by show n<(n+1)*1;omega);(try dsimp only at h1);rw[h1,Oi,List.getElem?_append_right (by rw[OR,D.out];exact OF _),OR,D.out,OY];rfl
 have K5:=j.2.2.head.frozenAt n;(try dsimp only at K5);have K3:Hid (aa [(h,95,#[Z (some ⟨C,0,none⟩) (n+1) c5,V OA (k:Int),OH true])] (W5.setCell ⟨h,0,none⟩ (Z (some ⟨C,0,none⟩) (n+1) c5)).drew/\(W5.setCell ⟨h,0,none⟩ (Z (some ⟨C,0,none⟩) (n+1) c5)).drew.cell? ⟨C,n,none⟩=some (V .u8 0)):=O ⟨j.2.1.drew,dO⟩;have N:=Bi j hh n (UInt8.ofNat (x*128));have dv:ag (UInt8.ofNat (x*128))=V .u8 ((x*128:Nat):Int):=by unfold ag;rw[fj _ (by omega)]
 have K:(M++[0]).set n (UInt8.ofNat (x*128))=M++[UInt8.ofNat (x*128)]:=by
  rw[List.set_append_right _ _ (by rw[D.out];exact OF _),D.out,OY];rfl
 rw[dv,K] at N;have HS:=O N;have bM:=I.cell 0;have cE:=I.cell 1;have aJ:=I.frozen 1;have dy:=I.far (p:=⟨C,n,none⟩) cI.1 (V .u8 ((x*128:Nat):Int));have rG:=dy.cell 1;have Hl:=dy.frozen 1;(try dsimp only at bM cE aJ rG Hl);have K8:((n:Int)<(n:Int)+1):=by omega
 have K6:x=0\/x=1:=by omega
 have Kt:bits .or .u8 0 0=0:=by decide
 have Ku:bits .or .u8 0 128=128:=by decide
 have Kw:∀W:World,Sem.run X (Op.shift .shl .u8 (OW.wrap 0) OA (OC.wrap 7)) W= .ok (V .u8 0) W:= λW=>rfl;have Kx:∀W:World,Sem.run X (Op.shift .shl .u8 (OW.wrap 1) OA (OC.wrap 7)) W= .ok (V .u8 128) W:= λW=>rfl;clear N dv K I dy cI j hx HC fJ D s0 s1 s2 s3;generalize W5.setCell ⟨h,0,none⟩ (Z (some ⟨C,0,none⟩) (n+1) c5)=W6 at*;rcases K6 with rfl|rfl
 all_goals
  (try simp only[OB,Ot,Ow] at rG Hl HS⊢)
  refine aP (λw'=>aa [(h,95,#[Z (some ⟨C,0,none⟩) (n+1) c5,V OA (k:Int),OH true])] w'/\w'.cell? ⟨C,n,none⟩=some (V .u8 0)) 20 (Y 0 (Y 1 (Y 2 (Y 3 (Y 4 (Y 5 (Y 6 (Y 7 (Y 8 (Y 9 (Y 10 (Y 11 (Y 12 (Y 13 (Y 14 (Y 15 (Y 16 (Y 17 (Y 18 (Y 19 (.done))))))))))))))))))))) (K3.out) (λPE iP=>?_)
  iterate 20
   refine af (v:=?_) rfl (by rfl) ?_ ?_
   rotate_left
   ·intro _ T;(try dsimp only at T);have z0:=T.1.head.cell 0;have z1:=T.1.head.cell 1;have z2:=T.2;(try dsimp only at z0 z1 z2);go_simp;(try with_reducible rfl)
   simp only[OI,ON,OM]
  refine iP _ _ ?_
  clear iP PE
  simp only[OX,Ol]
  go_wp2_with fail
  refine⟨rfl,?_⟩
  go_wp2_with fail
  refine bodyPost_end (results_none rfl _ _ _) rfl ⟨⟨_,rfl⟩,?_⟩
  obtain⟨Kz,K4⟩:=K0.out
  exact⟨_,bB HS.out,λB=>ff (aq (aq (Hu.out B) _ _) _ _),Bg (xO (Bh JT.out K4 _ _) _ _)⟩
theorem Er (N:World)(h:Nat)(L:List UInt8)(x:Nat)(hx:x<2)(hl:U L<16777216)(hh:N.heap.size<=h)(w:World)(hp:dS N h L w):
  Calls X 101 #[OG (some ⟨h,0,none⟩),V OA (x:Int)] w λe w'=>(∃u,e=OD u)/\dS N h (L++[if x=0 then 48 else 49]) w'/\(∀B,KeepsFrom B w w')/\PB h w w':=by
 obtain⟨v,T⟩:=hp;unfold Bz at T
 have C:jt (if x=0 then 48 else 49)=x:=by
  rcases(show x=0\/x=1 by omega) with rfl|rfl<;>rfl
 have D:(L++[if x=0 then(48:UInt8) else 49]).length=U L+1:=by simp
 by_cases hr:U L % 8=0
 ·refine(vN N h v (bw L) (U L) x (bw L).length hl hx hr rfl (by rw[dK];omega) hh w T).mono ?_
  rintro e w' ⟨hu,v',j,K⟩;refine⟨hu,⟨v',?_⟩,K⟩;unfold Bz;have G:=Cn L (if x=0 then 48 else 49) hr;rw[C,hr] at G;have e2:(bw (L++[if x=0 then(48:UInt8) else 49])).length=(bw L).length+1:=(by rw[G,OE];rfl);rw[e2,G,D];exact j
 ·have M:0<(bw L).length:=by rw[dK];omega
  obtain⟨g,c,hv,_,_⟩:=uR T.2.2.head M;dsimp only at hv;subst hv;have I:U L / 8<(bw L).length:=by rw[dK];omega
  have hq:((bw L).getD (U L / 8) 0).toNat=dW L (U L / 8):=by
   rw[Oy,pB L _ (by rw[dK] at I;exact I),Option.getD_some,fj _ (wF L _)]
  refine(xQ N h g (bw L).length c (bw L) (U L) (U L / 8) (dW L (U L / 8)) (x*2 ^ (7 - U L % 8)) (U L % 8) x hl hx rfl rfl I rfl hq rfl hh w T (by omega)).mono ?_;rintro e w' ⟨hu,j,K⟩;refine⟨hu,⟨Z (some ⟨g,0,none⟩) (bw L).length c,?_⟩,K⟩;unfold Bz;have G:=Co L (if x=0 then 48 else 49) hr;rw[C] at G;rw[AR L x _ hx rfl (by omega),<-G] at j;have e2:(bw (L++[if x=0 then(48:UInt8) else 49])).length=(bw L).length:=(by rw[G,List.length_set]);rw[e2,D];exact j
theorem un (n b j:Nat)(B:j<b):(ak n b).take (j+1)=(ak n b).take j++[if n / 2 ^ (b - 1 - j) % 2=0 then 48 else 49]:=by
 rw[Ob];congr 1
 have:(ak n b)[j]? =some (if n / 2 ^ (b - 1 - j) % 2=0 then 48 else 49):=by
  unfold ak;rw[Oa,List.getElem?_range B];rfl
 rw[this];rfl
theorem xj (a:Nat)(C:a<2 ^ 62):bits .and OA (a:Int) 1=((a % 2:Nat):Int):=by
 show OC.wrap ((BitVec.ofInt 64 (a:Int)&&& BitVec.ofInt 64 1).toNat:Int)=_;have j:BitVec.ofInt 64 (a:Int)=BitVec.ofNat 64 a:=by simp
 have B:BitVec.ofInt 64 1=BitVec.ofNat 64 1:=rfl;rw[j,B,BitVec.toNat_and,BitVec.toNat_ofNat,BitVec.toNat_ofNat,Og (by omega),Og (by decide),Nat.and_one_is_mod,J];omega
theorem vQ (A:Option Addr)(n c:Nat)(l:List UInt8)(w:World)(I:Sl w A (l.map ag))(K:U l=n)(hsz:n<=2 ^ 40)(C:A=none->c=0):
  Calls X 66 #[Z A n c] w λe w'=>(∃A' c',e=OD (Z A' n c')/\w'.ownsRow w.heap.size 5 1 (Z A' n c') n (l.map ag))/\Below w.heap.size w w':=by
 have HA:=O I;have HN:=O K
 cases A with
 |none=>
  have hl:l=[]:=by
   cases l with
   |nil=>rfl
   |cons b l=>
    obtain⟨ad,e,_⟩:=I 0 (ag b) rfl
    cases e
  subst hl;have bM:n=0:=K.symm;subst bM;have hc:=C rfl;subst hc;clear I K C;have aJ:∀W:World,Sem.run X (binOp .eql 25 (Z none 0 0) (Z none 0 0)) W= .ok (OH true) W:= λW=>by kernel_rfl
  go_enter Ox,Ov
  go_wp2_with fail
  go_ret;exact⟨⟨_,_,rfl,Oc _ _ _ _⟩,Below.refl _ _⟩
 |some a=>
  clear I K C;have aJ:∀W:World,Sem.run X (binOp .eql 25 (Z (some a) n c) (Z none 0 0)) W= .ok (OH false) W:= λW=>rfl;have j:=World.ownsRow_lit (base:=w.heap.size) (e:=5) (size:=1) w #[] 0 (OF _) (Nat.zero_le _) rfl;have B:Below w.heap.size w (w.alloc (OQ #[] 5)):=(Below.refl _ w).alloc (OF _) _;have T:=O j;have D:=O B;have M:=O (HA.out.below B);clear j B
  go_enter Ox,Ov
  go_wp2_with (at_builtin;refine dA nC rfl rfl rfl T.out rfl (m:=n) (news:=l.map ag) (by rw[OR,HN.out,Nat.mul_one]) M.out ?c2 ?c4 ?c5 ?_)
  case c2=>intro u hu;rfl
  case c4=>omega
  intro v5 W5 h2 h3 _;have h2:W5.ownsRow w.heap.size 5 1 v5 n (l.map ag):=(by simpa using h2);obtain⟨A5,c5,cE⟩:=bg h2;subst cE;have av:=O h2;have G:=js D.out h3 (λr e=>by cases e;exact OF _) D.out.size;have N:=O G;clear h2 h3 G;go_wp2_with fail
  go_ret;exact⟨⟨A5,c5,rfl,av.out⟩,N.out⟩
theorem si (w0:World)(h:Nat)(L:List UInt8)(hl:U L<=16777216)(w:World)(hp:dS w0 h L w):
  Calls X 32 #[OG (some ⟨h,0,none⟩)] w λe w'=>(∃C D,e=OD (Z C (bw L).length D)/\w'.ownsRow w.heap.size 5 1 (Z C (bw L).length D) (bw L).length ((bw L).map ag))/\Below w.heap.size w w':=by
 obtain⟨v,j⟩:=hp;have N:(bw L).length<=2 ^ 40:=by rw[dK];omega
 obtain⟨A,c,hv,I⟩:=cO j.2.2.head;dsimp only at hv I;subst hv
 have B:A=none->c=0:= λe=>by
  subst e;rcases j.2.2.head.2 with⟨G,_⟩|⟨g,av,aJ,G,_⟩
  ·exact(Value.slice.inj G).2.2
  ·have:=(Value.slice.inj G).1;cases this
 have C1:=O (xP h _ (U L:Int) w j.2.1.head);have C2:=O (vQ A (bw L).length c (bw L) w I rfl N B);have z0:=j.2.1.head.cell 0;(try dsimp only at z0);clear j I N B;generalize bw L=M at*;generalize (U M)=n at*
 go_enter Tryz.func32,Tryz.ntmps32
 go_wp2_with (first|(go_at_call 65;refine C1.out.mono ?_;rintro e w2 ⟨rfl,rfl⟩)|(go_at_call 66;refine C2.out.mono ?_;rintro e w2 ⟨⟨C,D,rfl,T⟩,K⟩;have HS:=O T;have HB:=O K;clear T K z0))
 go_ret;exact⟨⟨C,D,rfl,HS.out⟩,HB.out⟩
theorem pP (sp:List UInt8)(j:Nat)(B:j<U sp):((sp.take (j+1)).flatMap λb=>49::ak b.toNat 8)=((sp.take j).flatMap λb=>49::ak b.toNat 8)++(49::ak sp[j].toNat 8):=by
 rw[Ob,OJ B,List.flatMap_append];simp
theorem rA (sp:List UInt8):(sp.flatMap λb=>49::ak b.toNat 8).length=9*(U sp):=by
 have:=gS sp;unfold dL at this;rw[OE,OV] at this;omega
theorem gB (s:List UInt8)(n b:Nat)(hn:n<2 ^ 32)(hb:b<=32)(hl:U s<=1000000)(w:World):
  Calls X 102 #[OK (bs s),V OA (n:Int),V OA (b:Int)] w λe w'=>e=OD (OK (bs (s++ak n b)))/\w=w':=by
 have HL:=O hl;have HN:=O hn;have k7:OC.wrap ((b:Int) - 1)=(b:Int) - 1:=by rw[J];omega
 clear hl hn
 go_enter Tryz.func102,Tryz.ntmps102
 go_wp2_with fail
 go_loopg [0,7] b (λgk t i=> λwr=>∃(j:Nat),j+gk=b/\i=V OA ((gk:Int) - 1)/\t=OK (bs (s++(ak n b).take j))/\wr=w)
 case atStart=>exact⟨0,by omega,rfl,by rw[Om,Oh],rfl⟩
 case round=>
  obtain⟨j,hj,rfl,rfl,rfl⟩:=hrel
  cases gk with
  |zero=>
   have K:j=b:=(by omega);have HE:=O K;clear hj K;go_wp2_with fail
   go_ret;exact⟨by rw[HE.out,OT (by rw[bf];exact OF _)];rfl,rfl⟩
  |succ g=>
   have G:((g+1:Nat):Int) - 1=(g:Int):=(by omega);have bM:(0:Int)<=(g:Int):=(by omega);have aJ:(g:Int)<=64:=(by omega);have cI:(g:Int).toNat=g:=(by omega);have cE:¬((g:Int)<0):=(by omega);obtain⟨q,N⟩:∃q,n / 2 ^ g=q:=⟨_,rfl⟩;have dv:((n:Int) / 2 ^ g)=(q:Int):=by rw[<-N];exact_mod_cast rfl
   have C:q<2 ^ 62:=by
    have h1:q<=n:=(by rw[<-N];exact Nat.div_le_self _ _);have h3:=HN.out;have h4:(2:Nat) ^ 32<2 ^ 62:=(by decide);omega
   have B:=xj q C;obtain⟨x,hx⟩:∃x,q % 2=x:=⟨_,rfl⟩;rw[hx] at B;have av:x=0\/x=1:=(by omega);have I:b - 1 - j=g:=(by omega);have M:(s++(ak n b).take j).length<=1000032:=by rw[OE,Of,bf];have:=HL.out;omega
   have T:Hid ((s++(ak n b).take j)++[if x=0 then(48:UInt8) else 49]=s++(ak n b).take (j+1)):=O (by
    rw[un n b j (by omega),OL,I,N,hx])
   have dy:OC.wrap ((g:Int) - 1)=(g:Int) - 1:=(by rw[J];omega);have D:=O hj;rw[G];generalize s++(ak n b).take j=L at T M;clear hj N hx C I G;rcases av with rfl|rfl
   ·skip
    simp only[Oe] at B;go_wp2_with fail
    go_roundg g
    case measure=>omega
    case rel=>exact⟨j+1,by have:=D.out;omega,rfl,by rw[<-T.out];rfl,rfl⟩
   ·skip
    simp only[OB] at B;go_wp2_with fail
    go_roundg g
    case measure=>omega
    case rel=>exact⟨j+1,by have:=D.out;omega,rfl,by rw[<-T.out];rfl,rfl⟩
theorem zj (s sp:List UInt8)(A:Option Addr)(n c:Nat)(w:World)(hA:Sl w A (sp.map ag))(hn:U sp=n)(hs:n<=1000)(hl:U s<=1000):
  Calls X 125 #[OK (bs s),Z A n c] w λe w'=>e=OD (OK (bs (s++dL sp)))/\w=w':=by
 have HL:=O hl;have HN:=O hn;have HA:=O hA;have M:ak 1 1=[49]:=rfl;have K:ak 0 1=[48]:=rfl;have T:=O M;have N:=O K;clear hl hn hA M K
 go_enter Tryz.func125,Tryz.ntmps125
 go_wp2_with fail
 go_loopg [0,9] n (λgk t i=> λwr=>∃(j:Nat),j+gk=n/\i=V OA (j:Int)/\t=OK (bs (s++(sp.take j).flatMap λb=>49::ak b.toNat 8))/\wr=w)
 case atStart=>exact⟨0,by omega,rfl,by rw[Om,List.flatMap_nil,Oh],rfl⟩
 case round=>
  obtain⟨j,hj,rfl,rfl,rfl⟩:=hrel;have D:(s++(sp.take j).flatMap λb=>49::ak b.toNat 8).length<=10000:=by rw[OE,rA,Of];have:=HL.out;omega
  cases gk with
  |zero=>
   have B:j=n:=(by omega);have HE:=O B;have aJ:¬((j:Int)<(n:Int)):=(by omega);have I:Hid ((s++(sp.take j).flatMap λb=>49::ak b.toNat 8)++ak 0 1=s++dL sp):=O (by rw[N.out,HE.out,OT (by rw[HN.out];exact OF _),OL];rfl);generalize (s++(sp.take j).flatMap λb=>49::ak b.toNat 8)=L at I D⊢;have C:=O (gB L 0 1 (by decide) (by decide) (by omega) wr);simp only[OB] at C;clear hj B;go_wp2_with (go_at_call 102;refine C.out.mono ?_;rintro e w2 ⟨rfl,rfl⟩)
   go_ret;exact⟨by rw[I.out];rfl,rfl⟩
  |succ g=>
   have aJ:((j:Int)<(n:Int)):=(by omega);have bM:¬((j:Int)<0):=(by omega);have B:j<(U sp):=(by rw[HN.out];omega);obtain⟨b,hb⟩:∃b,sp[j]=b:=⟨_,rfl⟩;obtain⟨ad,rfl,_,hc⟩:=HA.out.byte j B;rw[hb] at hc;have G:b.toNat<256:=UInt8.toNat_lt _;have cE:OC.wrap ((j:Int)+1)=(j:Int)+1:=(by rw[J];omega);have cI:OC.wrap (b.toNat:Int)=(b.toNat:Int):=(by rw[J];omega);have I:Hid (((s++(sp.take j).flatMap λb=>49::ak b.toNat 8)++ak 1 1)++ak b.toNat 8=s++(sp.take (j+1)).flatMap λb=>49::ak b.toNat 8):=O (by rw[T.out,pP sp j B,hb,OL,OL];rfl);generalize (s++(sp.take j).flatMap λb=>49::ak b.toNat 8)=L at I D⊢;have C1:=O (gB L 1 1 (by decide) (by decide) (by omega) wr);have C2:=O (gB (L++ak 1 1) b.toNat 8 (by omega) (by decide) (by rw[OE,bf];omega) wr);simp only[OB] at C1 C2;have av:=O hj;generalize (L++ak 1 1)++ak b.toNat 8=L2 at*;generalize L++ak 1 1=L1 at*;generalize b.toNat=bn at*;clear hj B hb G D;go_wp2_with fail
   refine C1.out.mono ?_;rintro e w2 ⟨rfl,rfl⟩;go_wp2_with fail
   refine C2.out.mono ?_;rintro e w2 ⟨rfl,rfl⟩;go_wp2_with fail
   go_roundg g
   case measure=>omega
   case rel=>exact⟨j+1,by have:=av.out;omega,rfl,by rw[<-I.out],rfl⟩
def jb (qu:Int) (n:Nat):Bool:=decide (1<=qu)&&decide (qu<=31)&&decide (n<=32)
theorem uw (qu:Int)(sp:List UInt8)(A:Option Addr)(n c:Nat)(w:World)(D:Sl w A (sp.map ag))(G:U sp=n):
  Calls X 75 #[V OA qu,Z A n c] w λe w'=>e=OD (if jb qu n then Oj #[OK (bs (ak qu.toNat 5++dL sp)),V OA 0] else Oj #[OK (bs []),V OA 2])/\w=w':=by
 have N:=O G;have M:=O D;clear D G;have he:bs []={data:= #[]}:=rfl;rw[he]
 cases j:jb qu n with
 |true=>
  simp only[jb,Od,decide_eq_true_eq] at j;obtain⟨⟨T,h2⟩,h3⟩:=j;obtain⟨q,rfl⟩:=Int.eq_ofNat_of_zero_le (by omega:0<=qu);have I:decide ((q:Int)<1)=false:=(by simp;omega);have K:decide ((31:Int)<(q:Int))=false:=(by simp;omega);have k3:decide ((32:Int)<(n:Int))=false:=(by simp;omega);have B:=O (gB [] q 5 (by omega) (by decide) (by simp) w);have C:=O (zj ([]++ak q 5) sp A n c w M.out N.out (by omega) (by simp[bf]));rw[he] at B;simp only[OB] at B;rw[OZ];rw[OS] at B C;generalize ak q 5++dL sp=L2 at*;generalize ak q 5=L1 at*;clear T h2 h3
  go_enter OU,OP
  go_wp2_with fail
  refine B.out.mono ?_;rintro e w2 ⟨rfl,rfl⟩;go_wp2_with fail
  refine C.out.mono ?_;rintro e w2 ⟨rfl,rfl⟩;go_wp2_with fail
  go_ret2;exact⟨rfl,rfl⟩
 |false=>
  cases I:decide (qu<1) with
  |true=>
   clear j
   go_enter OU,OP
   go_wp2_with fail
   go_ret2;exact⟨rfl,rfl⟩
  |false=>
   cases K:decide (31<qu) with
   |true=>
    clear j
    go_enter OU,OP
    go_wp2_with fail
    go_ret2;exact⟨rfl,rfl⟩
   |false=>
    have k3:decide ((32:Int)<(n:Int))=true:=by
     simp only[jb,Bool.and_eq_false_iff,decide_eq_false_iff_not] at j I K;simp;omega
    clear j
    go_enter OU,OP
    go_wp2_with fail
    go_ret2;exact⟨rfl,rfl⟩
theorem qF (n:Nat)(I:n<=15)(w:World):
  Calls X 59 #[V OA (n:Int)] w λe w'=>e=OD (Oj #[OK (bs (dV n)),V OA 0])/\w=w':=by
 have K:decide ((n:Int)<0)=false:=by simp
 have M:decide ((15:Int)<(n:Int))=false:=by simp;omega
 have he:bs []={data:= #[]}:=rfl;have j:=O (gB [] 1 16 (by decide) (by decide) (by simp) w);have B:=O (gB ([]++ak 1 16) n 4 (by omega) (by decide) (by simp[bf]) w);rw[he] at j;rw[OS] at j B;simp only[OB] at j B;unfold dV;rw[OZ];generalize ak 1 16++ak n 4=G at*;generalize ak 1 16=D at*
 go_enter Tryz.func59,Tryz.ntmps59
 go_wp2_with fail
 refine j.out.mono ?_;rintro e C ⟨rfl,rfl⟩;go_wp2_with fail
 refine B.out.mono ?_;rintro e C ⟨rfl,rfl⟩;go_wp2_with fail
 go_ret2;exact⟨rfl,rfl⟩
theorem zi (n:Nat)(qu:Int)(sp:List UInt8)(A:Option Addr)(k c:Nat)(w:World)(D:Sl w A (sp.map ag))(G:U sp=k)(M:1<=n)(K:n<=15)(j:jb qu k=true):
  Calls X 61 #[V OA (n:Int),V OA qu,Z A k c] w λe w'=>e=OD (Oj #[OK (bs (dV n++(ak qu.toNat 5++dL sp))),V OA 0])/\w=w':=by
 have T:((n:Int)==0)=false:=by simp;omega
 have I:=O (qF n K w);have C:=O (uw qu sp A k c w D G);rw[j,if_pos rfl] at C;have B:k<=32:=by simp only[jb,Od,decide_eq_true_eq] at j;omega
 have l1:(dV n).length=20:=jh _;have l2:(ak qu.toNat 5++dL sp).length<=1000:=by rw[OE,bf,gS];omega
 generalize ak qu.toNat 5++dL sp=s2 at*;generalize dV (n:Int)=s1 at*;clear D G j B
 go_enter Tryz.func61,Tryz.ntmps61
 go_wp2_with (first|(go_at_call 59;refine I.out.mono ?_;rintro e N ⟨rfl,rfl⟩)|(go_at_call 75;refine C.out.mono ?_;rintro e N ⟨rfl,rfl⟩))
 go_ret2;exact⟨rfl,rfl⟩
end Go.Proofs.YthhijgcfbjcgiaaGreatDoor
