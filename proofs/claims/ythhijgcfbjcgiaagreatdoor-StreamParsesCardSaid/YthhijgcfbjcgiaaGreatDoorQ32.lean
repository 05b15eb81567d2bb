/- PicS, Pen, PenW, PenP2, Grp, Ref08b -/
import Derived.Test.YthhijgcfbjcgiaaGreatDoorQ31
namespace Go.Proofs.YthhijgcfbjcgiaaGreatDoor
section
open Go Go.RowKit
attribute [local go_sem] Oper.semAt_some
set_option maxHeartbeats 16000000
set_option maxRecDepth 100000
open Go.Lib renaming hid→O
open List renaming length→U,length_append→OE,setIfInBounds_toArray→OI,getElem?_eq_getElem→OJ,append_assoc→OL,set_cons_succ→OM,set_cons_zero→ON,length_map→OR,nil_append→OS,take_of_length_le→OT,length_singleton→OV,drop_succ_cons→OX,getElem?_map→Oa,take_add_one→Ob,length_take→Of,append_nil→Oh,map_append→Oi,drop_zero→Ol,take_zero→Om,getD→Oy
open Go.Value renaming slice→Z,int→V,pointer→OG,bool→OH,string→OK,tuple→Oj
open Go.Proofs.YthhijgcfbjcgiaaGreatDoor.cb renaming take→Y
open Tryz renaming prog→X,ntmps75→OP,func75→OU,ntmps101→Oo,func101→Ou,ntmps66→Ov,func66→Ox
open Go.IntKind renaming wrap_i64→J,i64→OA,i64→OC,u8→OW
open Int renaming cast_ofNat_Int→OB,tmod_eq_emod_of_nonneg→OO,toNat_natCast→OZ,natCast_zero→Oe
open Go.Ending renaming returned→OD
open Nat renaming le_refl→OF,sub_self→OY,mod_eq_of_lt→Og,reduceSub→On,zero_mul→Ot,one_mul→Ow
open Go.Obj renaming cells→OQ
open Go.World renaming ownsRow_nil→Oc,setCell→Oq
open Bool renaming and_eq_true→Od
structure AO (l:List UInt8) (p:Nat) (pre:List UInt8):Prop where
 i:rm l p pre
 le:p+9*U pre<=8*U l
def eZ (l:List UInt8) (p:Nat) (j:Int) (k:Nat):Nat×Int:=
 if j≠0 then(p+9*k,j) else if 8*U l<p+9*k+1 then(p+9*k,5) else if aS l (p+9*k)=0 then(p+9*k+1,0) else if k=32 then(p+9*k+1,4) else(p+9*k+1,5)
structure o6 (l:List UInt8) (p:Nat) (bad:Int) (xs:List UInt8):Prop where
 q:AO l p xs
 z:bad≠0->xs=[]
 t:bad=0->8*U l<p+9*U xs+1\/aS l (p+9*U xs)=0\/(U xs)=32\/8*U l<p+9*U xs+9
theorem o6.fin {l:List UInt8}{p:Nat}{xs:List UInt8}(h:o6 l p 0 xs):dj l 32 p=(xs,if (eZ l p 0 (U xs)).2=0 then(eZ l p 0 (U xs)).1 else 0,(eZ l p 0 (U xs)).2):=by
 have he:=h.q.i.eq;have D:=h.q.i.le;have ht:=h.t rfl;rw[he];unfold eZ;simp only[ne_eq,not_true_eq_false,if_false];generalize p+9*U xs=s at ht⊢
 by_cases B:8*U l<s+1
 ·rw[if_pos B,um B];simp
 rw[if_neg B]
 by_cases j:aS l s=0
 ·rw[if_pos j,oJ (by omega) j];simp
 rw[if_neg j]
 by_cases C:U xs=32
 ·rw[if_pos C,C,OY,rP (by omega) j];simp
 ·rw[if_neg C,show 32 - U xs=(31 - U xs)+1 by omega,rQ (by omega) j (by omega)];simp
def Jo (j:Nat) (w:World):Int:=match w.cell? ⟨j,1,none⟩ with|some (V OA x)=>x|_=>0
theorem AS {w:World}{B:Nat}{t:TypeId}{A:Option Addr}{n c p:Nat}{j:Int}(h:ab w B t (db A n c p j)):Jo B w=p:=by
 unfold Jo;have C:=h.cell 1;unfold db at C;rw[C];rfl
def Ci (x:UInt8):Array Value:= #[V .u8 (x.toNat:Int)]
theorem EK (g:Nat)(w:World):Calls X 142 #[OG (some ⟨g,0,none⟩)] w λe w'=>e=OD (.func (.func 184) #[] #[OG (some ⟨w.heap.size,0,none⟩)])/\w'=w.alloc (OQ #[OG (some ⟨g,0,none⟩)] 161):=by
 go_enter Tryz.func142,Tryz.ntmps142
 go_wp2_with fail
 go_ret;exact⟨by simp,rfl⟩
theorem Fa (N:Nat)(hN:1<=N)(g gb:Nat)(A:Option Addr)(n c:Nat)(l:List UInt8)(p:Nat)(G:Int)(hl:U l=n)(hsz:n<=2 ^ 40)(hp:p<=8*n)(C:List UInt8->World->Prop)
  (K6:∀pre W W' cs,C pre W->ab W g 163 cs->W.grownBy W' (some g)->C pre W')
  (hCs:∀pre W,C pre W->ab W gb 161 #[OG (some ⟨g,0,none⟩)]/\Sl W A (l.map af)):
  wO Fence.wide N X 184 #[OG (some ⟨gb,0,none⟩)] Ci
   (λpre W=>C pre W/\ab W g 163 (db A n c p G))
   (λpre W=>C pre W/\ab W g 163 (db A n c (p+9*(U pre+1)) 0))
   (λpre W=>C pre W/\ab W g 163 (db A n c (p+9*U pre) 0))
   (λpre W=>C pre W/\ab W g 163 (db A n c (eZ l p G (U pre)).1 (eZ l p G (U pre)).2))
   (o6 l p G) (AO l p):=by
 intro lp K Jx W hK hY K0 Kr;refine callsIn_of_wp Tryz.func184 rfl trivial ?_ rfl;simp only[Tryz.ntmps184,List.size_toArray,List.length_cons,List.length_nil,Nat.reduceAdd,On,Array.replicate_succ,Array.replicate_zero,List.push_toArray,List.append_toArray,OS,List.cons_append];have HY:=O hY;have KI:=O K6;have Ip:=O hCs;have HK:=O hK;have HL:=O hl;have H0:=O K0;have KJ:=O Kr;have KN:=O hp;have z0:=(hCs _ _ K0.1).1.cell 0;(try dsimp only at z0);clear hY K6 hCs hK hl K0 Kr hp;gi_wp2_with fail
 gi_loopw [4] (λm wr=>∃(pre:List UInt8),m=V OA (U pre:Int)/\Hid (AO l p pre)/\Hid (G≠0->pre=[])/\Hid (C pre wr)/\Hid (ab wr g 163 (db A n c (p+9*U pre) G))/\Hid (K wr)) (λ_ wr=>8*n - (Jo g wr).toNat)
 case atStart=>exact⟨[],rfl,O ⟨rR _ _,by have:=KN.out;have:=HL.out;simp;omega⟩,O (λ_=>rfl),O H0.out.1,O H0.out.2,KJ⟩
 case round=>
  obtain⟨pre,rfl,HQ,HZ,HC,HB,KL⟩:=hrel;obtain⟨s,hs⟩:∃s,p+9*U pre=s:=⟨_,rfl⟩;rw[hs] at HB;have K3:s<=8*n:=(by have:=HQ.out.le;have:=HL.out;omega);obtain⟨KV,hA⟩:=Ip.out _ _ HC.out;have C1:=oz g A n c l s G 1 wr HB.out hA HL.out hsz K3 (by decide);obtain⟨r,hr⟩:∃r,il l s G 1=r:=⟨_,rfl⟩;rw[hr] at C1;simp only[OB] at C1;have HA:=O hA;have KW:=O K3;have HS:=O hs;unfold il at hr;have dt:=HQ.out;have fW:=HL.out;have K8:∀M,wr.grownBy M (some g)->C pre M/\K M:= λM hg=>⟨KI.out _ _ _ _ HC.out HB.out hg,Gg HK.out KL.out hg HB.out⟩;have eE:=O K8;have aC:=O C1;clear KV hA C1 K3 K8
  have fin:∀(M:World)(q:Nat×Int),eZ l p G (U pre)=q->o6 l p G pre->wr.grownBy M (some g)->ab M g 163 (db A n c q.1 q.2)->
    (∃v,Ending.returned (Oj #[])=OD v)/\((∃xs,o6 l p G xs/\(C xs M/\ab M g 163 (db A n c (eZ l p G (U xs)).1 (eZ l p G (U xs)).2))/\K M)\/(∃pre,AO l p pre/\Jx pre M)):= λM q hq he hg hb=>by
   subst hq;exact⟨⟨_,rfl⟩,.inl ⟨pre,he,⟨(eE.out M hg).1,hb⟩,(eE.out M hg).2⟩⟩
  have HF:=O fin;clear fin
  by_cases j:G≠0
  ·rw[if_pos j] at hr
   subst hr;have hz:=HZ.out j;have hq:eZ l p G (U pre)=(s,G):=(by unfold eZ;rw[if_pos j,hs]);have HE:=O (show o6 l p G pre from⟨HQ.out,λ_=>hz,λh=>absurd h j⟩);have bE:=O hq;clear hz hq j hs dt fW;gi_wp2_with (refine⟨trivial,?_⟩;gi_at_call 141;refine(callsIn_wide.2 aC.out).mono ?_;rintro e w2 ⟨rfl,D,B⟩;have T:=O D;have I:=O B;clear D B)
   refine bodyPost_end (results_none rfl _ _ _) rfl ?_;exact HF.out _ _ bE.out HE.out I.out T.out
  have KU:G=0:=(by omega);subst KU;rw[if_neg j] at hr
  by_cases h1:8*U l<s+1
  ·rw[if_pos h1] at hr
   subst hr;have hq:eZ l p 0 (U pre)=(s,5):=(by unfold eZ;rw[if_neg j,hs,if_pos h1]);have HE:=O (show o6 l p 0 pre from⟨HQ.out,λh=>absurd rfl h,λ_=> .inl (by rw[hs];exact h1)⟩);have bE:=O hq;clear hq j hs h1 dt fW;gi_wp2_with (refine⟨trivial,?_⟩;gi_at_call 141;refine(callsIn_wide.2 aC.out).mono ?_;rintro e w2 ⟨rfl,D,B⟩;have T:=O D;have I:=O B;clear D B)
   refine bodyPost_end (results_none rfl _ _ _) rfl ?_;exact HF.out _ _ bE.out HE.out I.out T.out
  rw[if_neg h1,gW] at hr
  by_cases aB:aS l s=0
  ·rw[aB] at hr
   subst hr;have hq:eZ l p 0 (U pre)=(s+1,0):=(by unfold eZ;rw[if_neg j,hs,if_neg h1,if_pos aB]);have HE:=O (show o6 l p 0 pre from⟨HQ.out,λh=>absurd rfl h,λ_=> .inr (.inl (by rw[hs];exact aB))⟩);have bE:=O hq;clear hq j hs h1 aB dt fW;simp only[Oe] at aC;gi_wp2_with (refine⟨trivial,?_⟩;gi_at_call 141;refine(callsIn_wide.2 aC.out).mono ?_;rintro e w2 ⟨rfl,D,B⟩;have T:=O D;have I:=O B;clear D B)
   refine bodyPost_end (results_none rfl _ _ _) rfl ?_;exact HF.out _ _ bE.out HE.out I.out T.out
  rw[kD l s aB] at hr;subst hr;simp only[OB] at aC;have K1:=dt.i.le;have rX:∀M,wr.grownBy M (some g)->M.cell? ⟨gb,0,none⟩=some (OG (some ⟨g,0,none⟩)):= λM hg=>(Ip.out _ _ (eE.out M hg).1).1.cell 0;have gy:=O rX;clear rX
  by_cases h3:U pre=32
  ·have hq:eZ l p 0 (U pre)=(s+1,4):=by unfold eZ;rw[if_neg j,hs,if_neg h1,if_neg aB,if_pos h3]
   have HE:=O (show o6 l p 0 pre from⟨HQ.out,λh=>absurd rfl h,λ_=> .inr (.inr (.inl h3))⟩);have bE:=O hq;have hk:((U pre:Int)==32)=true:=(by rw[h3];rfl);clear hq j hs h1 aB dt fW h3 K1;gi_wp2_with (refine⟨trivial,?_⟩;gi_at_call 141;refine(callsIn_wide.2 aC.out).mono ?_;rintro e w2 ⟨rfl,D,B⟩;have T:=O D;have I:=O B;have y0:=gy.out _ B;have y1:=D.frozen 2;have cz:=D.cell 2;unfold db at cz;(try dsimp only at y1 cz);clear D B)
   have gJ:=T.out.set_ 2 (V OA 4);unfold db at gJ;simp only[OI,ON,OM] at gJ;refine bodyPost_ret (results_none rfl _ _ _) rfl ?_;exact HF.out _ _ bE.out HE.out (I.out.trans (hO _ _ _ _)) gJ
  have hk:((U pre:Int)==32)=false:=by simp;omega
  have C2:∀M,wr.grownBy M (some g)->ab M g 163 (db A n c (s+1) 0)->Calls X 141 #[OG (some ⟨g,0,none⟩),V OA 8] M (Hd g A n c (il l (s+1) 0 8) M):= λM hg hb=>
   oz g A n c l (s+1) 0 8 M hb ((Ip.out _ _ (eE.out M hg).1).2) HL.out hsz (by omega) (by decide)
  obtain⟨r2,dY⟩:∃r,il l (s+1) 0 8=r:=⟨_,rfl⟩;rw[dY] at C2;unfold il at dY;rw[if_neg j] at dY
  by_cases h9:8*U l<s+1+8
  ·rw[if_pos h9] at dY
   subst dY;have hq:eZ l p 0 (U pre)=(s+1,5):=(by unfold eZ;rw[if_neg j,hs,if_neg h1,if_neg aB,if_neg h3]);have HE:=O (show o6 l p 0 pre from⟨HQ.out,λh=>absurd rfl h,λ_=> .inr (.inr (.inr (by rw[hs];omega)))⟩);have bE:=O hq;have Io:=O C2;clear hq j hs h1 aB dt fW h3 K1 h9 C2;gi_wp2_with (refine⟨trivial,?_⟩;gi_at_call 141;refine(callsIn_wide.2 aC.out).mono ?_;rintro e w2 ⟨rfl,D,B⟩;have T:=O D;have I:=O B;have y0:=gy.out _ B;clear D B aC)
   refine⟨trivial,?_⟩
   gi_at_call 141
   refine(callsIn_wide.2 (Io.out _ I.out T.out)).mono ?_;rintro e w3 ⟨rfl,dD,dE⟩;have wj:=O dD;have hU:=O (I.out.trans dE);have y1:=gy.out _ (I.out.trans dE);have cz:=dD.cell 2;unfold db at cz;(try dsimp only at cz);clear dD dE;gi_wp2_with (refine wpListIn_skip (by rfl) (by rfl) ?_)
   refine bodyPost_ret (results_none rfl _ _ _) rfl ?_;exact HF.out _ _ bE.out HE.out hU.out wj.out
  rw[if_neg h9] at dY;subst dY;have hx:=cW l (s+1) 8;have K2:=dt.i.next (by omega) (by rw[hs];exact aB) (by rw[hs];omega);rw[hs] at K2;have ja:(pre++[UInt8.ofNat (au l (s+1) 8)]).length=U pre+1:=(by rw[OE,OV]);have K4:AO l p (pre++[UInt8.ofNat (au l (s+1) 8)]):=⟨K2,by rw[ja];omega⟩;have KE:s+1+8=p+9*(U pre+1):=(by omega);obtain⟨x,KG⟩:∃x,au l (s+1) 8=x:=⟨_,rfl⟩;rw[KG] at C2 K4 ja hx;have KY:OW.wrap (x:Int)=(x:Int):=(by rw[IntKind.wrap_u8];omega);have KF:((UInt8.ofNat x).toNat:Int)=(x:Int):=(by rw[gG _ (by omega)]);have Io:=O C2;have J2:=O K4;have K5:=O ja;have KO:=O KE;have KQ:=O KF;have KX:OC.wrap ((U pre:Int)+1)=(U pre:Int)+1:=(by rw[J];omega);have KM:=O (show s<8*n by omega);have KR:=O (show p+9*(U pre+1)<=8*n by omega);clear j h1 aB dt fW h3 K1 h9 C2 K4 ja KE KG hx KF K2;gi_wp2_with (refine⟨trivial,?_⟩;gi_at_call 141;refine(callsIn_wide.2 aC.out).mono ?_;rintro e w2 ⟨rfl,D,B⟩;have T:=O D;have I:=O B;have y0:=gy.out _ B;clear D B aC)
  refine⟨trivial,?_⟩
  gi_at_call 141
  refine(callsIn_wide.2 (Io.out _ I.out T.out)).mono ?_;rintro e w3 ⟨rfl,dD,dE⟩;have wj:=O dD;have hU:=O (I.out.trans dE);have y1:=gy.out _ (I.out.trans dE);have cz:=dD.cell 2;unfold db at cz;(try dsimp only at cz);clear dD dE;obtain⟨fn,tmps,KH,body,jT,hR⟩:=HY.out pre (UInt8.ofNat x) w3 ⟨(eE.out _ hU.out).1,by rw[<-KO.out];exact wj.out⟩ (eE.out _ hU.out).2 J2.out;have HR:=O hR;dsimp only[Ci] at jT;rw[KQ.out] at jT;clear hR;gi_wp2_with fail
  refine HR.out.mono ?_;rintro e W3 (⟨rfl,K9,KC⟩|⟨rfl,kz⟩)
  ·have Iq:=O K9;have KK:=O KC
   clear K9 KC jT y0 y1 cz;gi_wp2_with fail
   refine⟨⟨pre++[UInt8.ofNat x],by rw[K5.out];rfl,J2,O (λh=>absurd rfl h),O Iq.out.1,O Iq.out.2,KK⟩,?_⟩;have h9:=AS Iq.out.2;have KT:=AS HB.out;rw[h9,KT,K5.out];have:=KM.out;have:=HS.out;have:=KR.out;omega
  ·have HJ:=O kz
   clear jT kz;gi_wp2_with fail
   refine bodyPost_ret (results_none rfl _ _ _) rfl ?_;exact⟨⟨_,rfl⟩,.inr ⟨_,J2.out,HJ.out⟩⟩
def BQ (j:World) (h:Nat) (L:List UInt8) (v:Value) (W:World):Prop:=ar j [(h,95,#[v,V OA (U L:Int),OH true])] [⟨j.heap.size,5,1,v,(bM L).length,(bM L).map af⟩] W
structure PB (h:Nat) (W W':World):Prop where
 size:W.heap.size<=W'.heap.size
 blk:∀(k:Nat)(t:TypeId)(cs:Array Value),k≠h->t≠5->ab W k t cs->ab W' k t cs
theorem ud (h:Nat)(W:World):PB h W W:=⟨OF _,λ_ _ _ _ _ j=>j⟩
theorem PB.trans {h:Nat}{A B C:World}(x:PB h A B)(y:PB h B C):PB h A C:=⟨Nat.le_trans x.size y.size,λk t cs j h2 D=>y.blk k t cs j h2 (x.blk k t cs j h2 D)⟩
theorem rL {h:Nat}{A W j:World}(x:PB h A W)(B:Below W.heap.size W j):PB h A j:=x.trans ⟨B.size,λ_k _t _cs _ _ C=>C.below B C.lt⟩
theorem Gw {h:Nat}{A W:World}(x:PB h A W)(o:Obj):PB h A (W.alloc o):=rL x ((Below.refl _ _).alloc (OF _) o)
theorem Bs {h:Nat}{A W:World}(x:PB h A W):PB h A W.drew:=rL x (Below.refl _ _).drew
theorem yd {h:Nat}{A W:World}(x:PB h A W)(i:Nat)(v:Value):PB h A (W.setCell ⟨h,i,none⟩ v):=x.trans ⟨by simp[Oq],λk t cs j _ B=>B.far (p:=⟨h,i,none⟩) j v⟩
theorem Bt {h g:Nat}{A W:World}{cs:Array Value}(x:PB h A W)(B:ab W g 5 cs)(i:Nat)(v:Value):PB h A (W.setCell ⟨g,i,none⟩ v):=x.trans ⟨by simp[Oq],λk t C _ h2 j=>j.far (p:=⟨g,i,none⟩) (λe=>by
 have e:k=g:=e;subst e;unfold ab at B j;rw[B] at j;injection j with j;injection j with _ ht;exact h2 ht.symm) v⟩
theorem Gx {h:Nat}{A W j:World}{base n:Nat}{v:Value}{xs:List Value}(x:PB h A W)(B:W.grownBy j v.ownBlock)(D:W.ownsRow base 5 1 v n xs):PB h A j:=
 x.trans ⟨B.size,λ_k _t _cs _ h2 C=>C.grown B (ba D C (Ne.symm h2))⟩
theorem BB {W:World}{base g n c:Nat}{xs:List Value}{e:TypeId}(D:W.ownsRow base e 1 (Z (some ⟨g,0,none⟩) n c) n xs):∃cs,ab W g e cs:=by
 rcases D.2 with⟨h,_⟩|⟨g',B,j,h,_,C,_⟩
 ·cases h
 ·cases h;exact⟨j,C⟩
structure ea (w0:World) (h:Nat) (L:List UInt8) (W:World):Prop where
 ex:∃v,BQ w0 h L v W
theorem ea.below {B:World}{h:Nat}{L:List UInt8}{W j:World}(D:ea B h L W)(G:Below W.heap.size W j):ea B h L j:=by
 obtain⟨v,C⟩:=D;exact⟨v,aO C G⟩
theorem ye (h:Nat)(v:Value)(n:Int)(w:World)(j:ab w h 95 #[v,V OA n,OH true]):Calls X 65 #[OG (some ⟨h,0,none⟩)] w λe w'=>e=OD (OH false)/\w=w':=by
 have B:=j.cell 2;(try dsimp only at B);clear j
 go_enter Tryz.func65,Tryz.ntmps65
 go_wp2_with fail
 go_ret;exact⟨rfl,rfl⟩
theorem Gz (h:Nat)(v:Value)(n k:Int)(w:World)(j:ab w h 95 #[v,V OA n,OH true])(C:0<=n)(D:0<=k)(h2:n+k<=16777216):Calls X 100 #[OG (some ⟨h,0,none⟩),V OA k] w λe w'=>e=OD (OH false)/\w=w':=by
 have B:=j.cell 1;have I:OC.wrap (n+k)=n+k:=by rw[J];omega
 have G:¬16777216<n+k:=by omega
 (try dsimp only at B);clear j
 go_enter Tryz.func100,Tryz.ntmps100
 go_wp2_with fail
 go_ret;exact⟨rfl,rfl⟩
theorem qI (w:World):Calls X 30 #[] w λe w'=>e=OD (OG (some ⟨w.heap.size,0,none⟩))/\ea w w.heap.size [] w':=by
 go_enter Tryz.func30,Tryz.ntmps30
 go_wp2_with fail
 go_ret;exact⟨rfl,⟨Z none 0 0,(Below.refl _ w).alloc (OF _) _,aa.cons (ab.new _ _ _) (ag _),ai.cons (Oc _ _ _ _) (aA _)⟩⟩
theorem JG (q b:Nat)(i:Nat)(j:b<2 ^ i)(h:q % 2 ^ i=0):q|||b=q+b:=by
 have e:q=2 ^ i*(q / 2 ^ i):=by have:=Nat.div_add_mod q (2 ^ i);omega
 rw[e,<-Nat.two_pow_add_eq_or_of_lt j]
theorem Ia (L:List UInt8)(x r:Nat)(D:x<2)(j:U L % 8=r)(B:0<r):gn L (U L / 8)|||(x*2 ^ (7 - r))=gn L (U L / 8)+x*2 ^ (7 - r):=by
 have C:r<8:=by omega
 refine JG _ _ (8 - r) ?_ (by have:=D6 L (by omega);rwa [j] at this);have e:2 ^ (8 - r)=2*2 ^ (7 - r):=by rw[show 8 - r=(7 - r)+1 by omega,Nat.pow_succ,Nat.mul_comm]
 rw[e];have:0<2 ^ (7 - r):=Nat.pow_pos (by decide);rcases(show x=0\/x=1 by omega) with rfl|rfl<;>omega
theorem ue {C W:World}{g h n c k:Nat}{M:List UInt8}(G:ar C [(h,95,#[Z (some ⟨g,0,none⟩) n c,V OA (k:Int),OH true])] [⟨C.heap.size,5,1,Z (some ⟨g,0,none⟩) n c,n,M.map af⟩] W):h≠g/\C.heap.size<=g:=by
 have I:=G.2.2.head;dsimp only at I;rcases I.2 with⟨j,_⟩|⟨g',D,B,j,N,T,_⟩
 ·simp at j
 ·simp only[Value.slice.injEq,Option.some.injEq,Addr.mk.injEq,and_true,true_and] at j
  obtain⟨rfl,rfl⟩:=j;refine⟨?_,N⟩;have K:ab W g 5 B:=T;exact aU G.2.1.head K (by simp)
theorem Bu {j W:World}{g h n c k:Nat}{M:List UInt8}(B:ar j [(h,95,#[Z (some ⟨g,0,none⟩) n c,V OA (k:Int),OH true])] [⟨j.heap.size,5,1,Z (some ⟨g,0,none⟩) n c,n,M.map af⟩] W)(K:j.heap.size<=h)(i:Nat)(b:UInt8):
  ar j [(h,95,#[Z (some ⟨g,0,none⟩) n c,V OA ((k:Int)+1),OH true])] [⟨j.heap.size,5,1,Z (some ⟨g,0,none⟩) n c,n,(M.set i b).map af⟩] ((W.setCell ⟨g,i,none⟩ (af b)).setCell ⟨h,1,none⟩ (V OA ((k:Int)+1))):=by
 obtain⟨C,I⟩:=ue B
 have G:ar j [(h,95,#[Z (some ⟨g,0,none⟩) n c,V OA (k:Int),OH true])] [⟨j.heap.size,5,1,Z (some ⟨g,0,none⟩) n c,n,(M.set i b).map af⟩] (W.setCell ⟨g,i,none⟩ (af b)):=by
  refine⟨B.1.setCell (p:=⟨g,i,none⟩) I _,B.2.1.far (p:=⟨g,i,none⟩) (λq D=>by rw[List.mem_singleton] at D;subst D;exact C) _,ai.cons ?_ (aA _)⟩;have h2:=(B.2.2.head.stored i (af b)).1;rw[List.map_set];exact h2
 have h2:=aW G K 1 (V OA ((k:Int)+1)) (h,95,#[Z (some ⟨g,0,none⟩) n c,V OA (k:Int),OH true]) (by simp) rfl (by simp)
 simpa [di] using h2
theorem yg (w0:World)(h g n c:Nat)(M:List UInt8)(k i q y r x:Nat)(hk:k<16777216)(hx:x<2)(hr:k % 8=r)(hi:k / 8=i)(ja:i<n)(hM:n=U M)(hq:(M.getD i 0).toNat=q)(hy:y=x*2 ^ (7 - r))(hh:w0.heap.size<=h)(W:World)
  (C:ar w0 [(h,95,#[Z (some ⟨g,0,none⟩) n c,V OA (k:Int),OH true])] [⟨w0.heap.size,5,1,Z (some ⟨g,0,none⟩) n c,n,M.map af⟩] W) (jT:0<r):
  Calls X 101 #[OG (some ⟨h,0,none⟩),V OA (x:Int)] W λe w'=>(∃u,e=OD u)/\ar w0 [(h,95,#[Z (some ⟨g,0,none⟩) n c,V OA ((k:Int)+1),OH true])] [⟨w0.heap.size,5,1,Z (some ⟨g,0,none⟩) n c,n,(M.set i (UInt8.ofNat (q|||y))).map af⟩] w'/\(∀B,KeepsFrom B W w')/\PB h W w':=by
 have dY:=O (BB C.2.2.head);have hb:=C.2.1.head;have D:=ue C
 have N:W.cell? ⟨g,i,none⟩=some (V .u8 (q:Int)):=by
  have h1:=C.2.2.head.cellAt i (by show i<n*1;omega);(try dsimp only at h1);rw[h1,Oa,OJ (by omega),Option.map_some];have e:M.getD i 0=M[i]'(by omega):=(by simp[Oy,OJ (show i<(U M) by omega)]);rw[<-hq,e];rfl
 have hU:=C.2.2.head.frozenAt i;(try dsimp only at hU);have aB:q<256:=by rw[<-hq];exact UInt8.toNat_lt _
 have kz:r<8:=by omega
 have aC:y<256:=by
  rw[hy];have:r=0\/r=1\/r=2\/r=3\/r=4\/r=5\/r=6\/r=7:=(by omega);rcases this with rfl|rfl|rfl|rfl|rfl|rfl|rfl|rfl<;>omega
 have T:q|||y<256:=Nat.or_lt_two_pow (n:=8) aB aC;have bE:=O (u8_or_nat q y aB aC);have I:af (UInt8.ofNat (q|||y))=V .u8 ((q|||y:Nat):Int):=by unfold af;rw[gG _ T]
 have HS:=O (Bu C hh i (UInt8.ofNat (q|||y)));rw[I] at HS;obtain⟨z,hz⟩:∃z,q|||y=z:=⟨_,rfl⟩;rw[hz] at HS bE T⊢;have eE:Hid (aa [(h,95,#[Z (some ⟨g,0,none⟩) n c,V OA (k:Int),OH true])] W.drew/\W.drew.cell? ⟨g,i,none⟩=some (V .u8 (q:Int))):=O ⟨C.2.1.drew,N⟩;have G:((k:Int) % 8)=(r:Int):=by omega
 have K3:((k:Int) / 8)=(i:Int):=by omega
 have rX:(k:Int).tmod 8=(r:Int):=by rw[OO (by omega)];exact G
 have Iq:=hb.cell 0;have J2:=hb.cell 1;have gy:=hb.frozen 0;have gJ:=hb.frozen 1;have K:=hb.far (p:=⟨g,i,none⟩) D.1 (V .u8 (z:Int));have Io:=K.cell 1;have Ip:=K.frozen 1;have K1:((i:Int)<(n:Int)):=by omega
 have K0:¬((i:Int)<0):=by omega
 have K5:OC.wrap (i:Int)=(i:Int):=by rw[J];omega
 have K2:(i:Int).toNat=i:=by omega
 have K6:OC.wrap ((k:Int)+1)=(k:Int)+1:=by rw[J];omega
 (try dsimp only at Iq J2 gy gJ Io Ip);clear hb K I D hz hq hi ja hM T aB aC C;have dE:x=0\/x=1:=by omega
 have dD:r=1\/r=2\/r=3\/r=4\/r=5\/r=6\/r=7:=by omega
 have wj:∀W:World,Sem.run X (Op.shift .shl .u8 (OW.wrap (x:Int)) OA (OC.wrap (7 - (r:Int)))) W= .ok (V .u8 (y:Int)) W:= λW=>by
  subst hy;rcases dE with rfl|rfl<;>rcases dD with rfl|rfl|rfl|rfl|rfl|rfl|rfl<;>rfl
 clear hr jT kz hx hk;rcases dE with rfl|rfl<;>rcases dD with rfl|rfl|rfl|rfl|rfl|rfl|rfl
 all_goals
  simp only[Ot,Ow,On,Nat.reducePow] at hy
  subst hy
  have dt:=bE.out
  (try simp only[OB,Int.reduceSub] at dt G rX wj⊢)
  go_enter Ou,Oo
  go_wp2_with fail
  refine bf (λw'=>aa [(h,95,#[Z (some ⟨g,0,none⟩) n c,V OA (k:Int),OH true])] w'/\w'.cell? ⟨g,i,none⟩=some (V .u8 (q:Int))) 20 (Y 0 (Y 1 (Y 2 (Y 3 (Y 4 (Y 5 (Y 6 (Y 7 (Y 8 (Y 9 (Y 10 (Y 11 (Y 12 (Y 13 (Y 14 (Y 15 (Y 16 (Y 17 (Y 18 (Y 19 (.done))))))))))))))))))))) (eE.out) (λPE cz=>?_)
  iterate 20
   refine aj (v:=?_) rfl (by rfl) ?_ ?_
   rotate_left
   ·intro _ j;(try dsimp only at j);have z0:=j.1.head.cell 0;have z1:=j.1.head.cell 1;have z2:=j.2;(try dsimp only at z0 z1 z2);go_simp;(try with_reducible rfl)
   simp only[OI,ON,OM]
  refine cz _ _ ?_
  clear cz PE
  simp only[OX,Ol]
  go_wp2_with fail
  refine⟨rfl,?_⟩
  go_wp2_with fail
  refine bodyPost_end (results_none rfl _ _ _) rfl ⟨⟨_,rfl⟩,?_⟩
  obtain⟨K4,fW⟩:=dY.out
  exact⟨bR HS.out,λB=>fo (aq (aq (KeepsFrom.refl B W) _ _) _ _),Bs (yd (Bt (ud h W) fW _ _) _ _)⟩
theorem wy (w0:World)(h:Nat)(v:Value)(M:List UInt8)(k x n:Nat)(hk:k<16777216)(hx:x<2)(hr:k % 8=0)(hM:U M=n)(hi:k / 8=n)(hh:w0.heap.size<=h)(W:World)
  (hc:ar w0 [(h,95,#[v,V OA (k:Int),OH true])] [⟨w0.heap.size,5,1,v,n,M.map af⟩] W):
  Calls X 101 #[OG (some ⟨h,0,none⟩),V OA (x:Int)] W λe w'=>(∃u,e=OD u)/\∃v',ar w0 [(h,95,#[v',V OA ((k:Int)+1),OH true])] [⟨w0.heap.size,5,1,v',n+1,(M++[UInt8.ofNat (x*128)]).map af⟩] w'/\(∀B,KeepsFrom B W w')/\PB h W w':=by
 obtain⟨A,c,hv⟩:=aP hc.2.2.head;dsimp only at hv;subst hv;have hb:=hc.2.1.head;have HC:=O hc;have bE:=hb.cell 0;have cz:=hb.cell 1;have hU:=hb.frozen 0;have aC:=hb.frozen 1;(try dsimp only at bE cz hU aC);have jT:((k:Int) % 8)=0:=by omega
 have K9:((k:Int) / 8)=(n:Int):=by omega
 have KI:(k:Int).tmod 8=0:=by rw[OO (by omega)];exact jT
 have KJ:OC.wrap (n:Int)=(n:Int):=by rw[J];omega
 have K5:(n:Int).toNat=n:=by omega
 have KK:OC.wrap ((k:Int)+1)=(k:Int)+1:=by rw[J];omega
 have ja:n<16777216:=by omega
 have fW:=O ja;have D:=O hM;clear hb hc ja hM hi hr hk
 go_enter Ou,Oo
 go_wp2_with (at_builtin;refine cr jw rfl rfl rfl ((ao HC.out (OQ #[V .u8 0] 5)).2.2.head) rfl (m:=1) (news:=[V .u8 0]) rfl (ab.sl (ab.new W 5 _) 0) ?c2 ?c4 ?c5 ?_)
 case c2=>intro u hu;simp at hu;subst hu;rfl
 case c4=>have:=fW.out;omega
 case c5=>have:=HC.out.1.size;simp;omega
 intro v5 W5 h2 h3 _;have aB:=n7 (ao HC.out (OQ #[V .u8 0] 5)) h3 h2 (OF _) (by simp) (by simp);have eE:=O (λB=>iy (cy (KeepsFrom.refl B W) (OQ #[V .u8 0] 5)) h3 (gM (ao HC.out (OQ #[V .u8 0] 5)).2.2.head));have gy:=O (Gx (Gw (ud h W) (OQ #[V .u8 0] 5)) h3 (ao HC.out (OQ #[V .u8 0] 5)).2.2.head);obtain⟨C,c5,kz,KG,KH⟩:=vA aB.2.2.head (by show 0<n+1;omega);dsimp only at kz;subst kz;have Io:=O aB;have G:=aB.2.1.head;have s0:=G.cell 0;have s1:=G.cell 1;have s2:=G.frozen 0;have s3:=G.frozen 1;(try dsimp only at s0 s1 s2 s3);clear aB G bE cz hU aC h2 h3;go_wp2_with fail
 have j:ar w0 [(h,95,#[Z (some ⟨C,0,none⟩) (n+1) c5,V OA (k:Int),OH true])] [⟨w0.heap.size,5,1,Z (some ⟨C,0,none⟩) (n+1) c5,n+1,(M++[0]).map af⟩] (W5.setCell ⟨h,0,none⟩ (Z (some ⟨C,0,none⟩) (n+1) c5)):=by
  have h2:=aW Io.out hh 0 (Z (some ⟨C,0,none⟩) (n+1) c5) (h,95,#[Z A n c,V OA (k:Int),OH true]) (by simp) rfl (by simp);have e0:[(0:UInt8)].map af=[Value.int .u8 0]:=rfl;rw[Oi,e0]
  simpa [di] using h2
 have KE:=O j;have Ip:=O (λB=>aq (eE.out B) ⟨h,0,none⟩ (Z (some ⟨C,0,none⟩) (n+1) c5));have Iq:=O (yd gy.out 0 (Z (some ⟨C,0,none⟩) (n+1) c5));have J2:=O (BB j.2.2.head);clear eE gy;have I:=j.2.1.head;have dt:=ue j
 have dY:(W5.setCell ⟨h,0,none⟩ (Z (some ⟨C,0,none⟩) (n+1) c5)).cell? ⟨C,n,none⟩=some (V .u8 0):=by
  have h1:=j.2.2.head.cellAt n (by show n<(n+1)*1;omega);(try dsimp only at h1);rw[h1,Oi,List.getElem?_append_right (by rw[OR,D.out];exact OF _),OR,D.out,OY];rfl
 have K2:=j.2.2.head.frozenAt n;(try dsimp only at K2);have K0:Hid (aa [(h,95,#[Z (some ⟨C,0,none⟩) (n+1) c5,V OA (k:Int),OH true])] (W5.setCell ⟨h,0,none⟩ (Z (some ⟨C,0,none⟩) (n+1) c5)).drew/\(W5.setCell ⟨h,0,none⟩ (Z (some ⟨C,0,none⟩) (n+1) c5)).drew.cell? ⟨C,n,none⟩=some (V .u8 0)):=O ⟨j.2.1.drew,dY⟩;have N:=Bu j hh n (UInt8.ofNat (x*128));have dD:af (UInt8.ofNat (x*128))=V .u8 ((x*128:Nat):Int):=by unfold af;rw[gG _ (by omega)]
 have K:(M++[0]).set n (UInt8.ofNat (x*128))=M++[UInt8.ofNat (x*128)]:=by
  rw[List.set_append_right _ _ (by rw[D.out];exact OF _),D.out,OY];rfl
 rw[dD,K] at N;have HS:=O N;have bE:=I.cell 0;have cz:=I.cell 1;have aC:=I.frozen 1;have dE:=I.far (p:=⟨C,n,none⟩) dt.1 (V .u8 ((x*128:Nat):Int));have rX:=dE.cell 1;have wj:=dE.frozen 1;(try dsimp only at bE cz aC rX wj);have K4:((n:Int)<(n:Int)+1):=by omega
 have K3:x=0\/x=1:=by omega
 have K6:bits .or .u8 0 0=0:=by decide
 have K8:bits .or .u8 0 128=128:=by decide
 have Kr:∀W:World,Sem.run X (Op.shift .shl .u8 (OW.wrap 0) OA (OC.wrap 7)) W= .ok (V .u8 0) W:= λW=>rfl;have KC:∀W:World,Sem.run X (Op.shift .shl .u8 (OW.wrap 1) OA (OC.wrap 7)) W= .ok (V .u8 128) W:= λW=>rfl;clear N dD K I dE dt j hx HC fW D s0 s1 s2 s3;generalize W5.setCell ⟨h,0,none⟩ (Z (some ⟨C,0,none⟩) (n+1) c5)=W6 at*;rcases K3 with rfl|rfl
 all_goals
  (try simp only[OB,Ot,Ow] at rX wj HS⊢)
  refine bf (λw'=>aa [(h,95,#[Z (some ⟨C,0,none⟩) (n+1) c5,V OA (k:Int),OH true])] w'/\w'.cell? ⟨C,n,none⟩=some (V .u8 0)) 20 (Y 0 (Y 1 (Y 2 (Y 3 (Y 4 (Y 5 (Y 6 (Y 7 (Y 8 (Y 9 (Y 10 (Y 11 (Y 12 (Y 13 (Y 14 (Y 15 (Y 16 (Y 17 (Y 18 (Y 19 (.done))))))))))))))))))))) (K0.out) (λPE gJ=>?_)
  iterate 20
   refine aj (v:=?_) rfl (by rfl) ?_ ?_
   rotate_left
   ·intro _ T;(try dsimp only at T);have z0:=T.1.head.cell 0;have z1:=T.1.head.cell 1;have z2:=T.2;(try dsimp only at z0 z1 z2);go_simp;(try with_reducible rfl)
   simp only[OI,ON,OM]
  refine gJ _ _ ?_
  clear gJ PE
  simp only[OX,Ol]
  go_wp2_with fail
  refine⟨rfl,?_⟩
  go_wp2_with fail
  refine bodyPost_end (results_none rfl _ _ _) rfl ⟨⟨_,rfl⟩,?_⟩
  obtain⟨KF,K1⟩:=J2.out
  exact⟨_,bR HS.out,λB=>fo (aq (aq (Ip.out B) _ _) _ _),Bs (yd (Bt Iq.out K1 _ _) _ _)⟩
theorem EI (N:World)(h:Nat)(L:List UInt8)(x:Nat)(hx:x<2)(hl:U L<16777216)(hh:N.heap.size<=h)(w:World)(hp:ea N h L w):
  Calls X 101 #[OG (some ⟨h,0,none⟩),V OA (x:Int)] w λe w'=>(∃u,e=OD u)/\ea N h (L++[if x=0 then 48 else 49]) w'/\(∀B,KeepsFrom B w w')/\PB h w w':=by
 obtain⟨v,T⟩:=hp;unfold BQ at T
 have C:rr (if x=0 then 48 else 49)=x:=by
  rcases(show x=0\/x=1 by omega) with rfl|rfl<;>rfl
 have D:(L++[if x=0 then(48:UInt8) else 49]).length=U L+1:=by simp
 by_cases hr:U L % 8=0
 ·refine(wy N h v (bM L) (U L) x (bM L).length hl hx hr rfl (by rw[eM];omega) hh w T).mono ?_
  rintro e w' ⟨hu,v',j,K⟩;refine⟨hu,⟨v',?_⟩,K⟩;unfold BQ;have G:=CD L (if x=0 then 48 else 49) hr;rw[C,hr] at G;have e2:(bM (L++[if x=0 then(48:UInt8) else 49])).length=(bM L).length+1:=(by rw[G,OE];rfl);rw[e2,G,D];exact j
 ·have M:0<(bM L).length:=by rw[eM];omega
  obtain⟨g,c,hv,_,_⟩:=vA T.2.2.head M;dsimp only at hv;subst hv;have I:U L / 8<(bM L).length:=by rw[eM];omega
  have hq:((bM L).getD (U L / 8) 0).toNat=gn L (U L / 8):=by
   rw[Oy,pK L _ (by rw[eM] at I;exact I),Option.getD_some,gG _ (FP L _)]
  refine(yg N h g (bM L).length c (bM L) (U L) (U L / 8) (gn L (U L / 8)) (x*2 ^ (7 - U L % 8)) (U L % 8) x hl hx rfl rfl I rfl hq rfl hh w T (by omega)).mono ?_;rintro e w' ⟨hu,j,K⟩;refine⟨hu,⟨Z (some ⟨g,0,none⟩) (bM L).length c,?_⟩,K⟩;unfold BQ;have G:=CI L (if x=0 then 48 else 49) hr;rw[C] at G;rw[Ia L x _ hx rfl (by omega),<-G] at j;have e2:(bM (L++[if x=0 then(48:UInt8) else 49])).length=(bM L).length:=(by rw[G,List.length_set]);rw[e2,D];exact j
theorem uL (n b j:Nat)(B:j<b):(aD n b).take (j+1)=(aD n b).take j++[if n / 2 ^ (b - 1 - j) % 2=0 then 48 else 49]:=by
 rw[Ob];congr 1
 have:(aD n b)[j]? =some (if n / 2 ^ (b - 1 - j) % 2=0 then 48 else 49):=by
  unfold aD;rw[Oa,List.getElem?_range B];rfl
 rw[this];rfl
theorem xH (a:Nat)(C:a<2 ^ 62):bits .and OA (a:Int) 1=((a % 2:Nat):Int):=by
 show OC.wrap ((BitVec.ofInt 64 (a:Int)&&& BitVec.ofInt 64 1).toNat:Int)=_;have j:BitVec.ofInt 64 (a:Int)=BitVec.ofNat 64 a:=by simp
 have B:BitVec.ofInt 64 1=BitVec.ofNat 64 1:=rfl;rw[j,B,BitVec.toNat_and,BitVec.toNat_ofNat,BitVec.toNat_ofNat,Og (by omega),Og (by decide),Nat.and_one_is_mod,J];omega
theorem wD (A:Option Addr)(n c:Nat)(l:List UInt8)(w:World)(I:Sl w A (l.map af))(K:U l=n)(hsz:n<=2 ^ 40)(C:A=none->c=0):
  Calls X 66 #[Z A n c] w λe w'=>(∃A' c',e=OD (Z A' n c')/\w'.ownsRow w.heap.size 5 1 (Z A' n c') n (l.map af))/\Below w.heap.size w w':=by
 have HA:=O I;have HN:=O K
 cases A with
 |none=>
  have hl:l=[]:=by
   cases l with
   |nil=>rfl
   |cons b l=>
    obtain⟨ad,e,_⟩:=I 0 (af b) rfl
    cases e
  subst hl;have bE:n=0:=K.symm;subst bE;have hc:=C rfl;subst hc;clear I K C;have aC:∀W:World,Sem.run X (binOp .eql 25 (Z none 0 0) (Z none 0 0)) W= .ok (OH true) W:= λW=>by kernel_rfl
  go_enter Ox,Ov
  go_wp2_with fail
  go_ret;exact⟨⟨_,_,rfl,Oc _ _ _ _⟩,Below.refl _ _⟩
 |some a=>
  clear I K C;have aC:∀W:World,Sem.run X (binOp .eql 25 (Z (some a) n c) (Z none 0 0)) W= .ok (OH false) W:= λW=>rfl;have j:=World.ownsRow_lit (base:=w.heap.size) (e:=5) (size:=1) w #[] 0 (OF _) (Nat.zero_le _) rfl;have B:Below w.heap.size w (w.alloc (OQ #[] 5)):=(Below.refl _ w).alloc (OF _) _;have T:=O j;have D:=O B;have M:=O (HA.out.below B);clear j B
  go_enter Ox,Ov
  go_wp2_with (at_builtin;refine cr jw rfl rfl rfl T.out rfl (m:=n) (news:=l.map af) (by rw[OR,HN.out,Nat.mul_one]) M.out ?c2 ?c4 ?c5 ?_)
  case c2=>intro u hu;rfl
  case c4=>omega
  intro v5 W5 h2 h3 _;have h2:W5.ownsRow w.heap.size 5 1 v5 n (l.map af):=(by simpa using h2);obtain⟨A5,c5,cz⟩:=aP h2;subst cz;have aB:=O h2;have G:=js D.out h3 (λr e=>by cases e;exact OF _) D.out.size;have N:=O G;clear h2 h3 G;go_wp2_with fail
  go_ret;exact⟨⟨A5,c5,rfl,aB.out⟩,N.out⟩
theorem sT (w0:World)(h:Nat)(L:List UInt8)(hl:U L<=16777216)(w:World)(hp:ea w0 h L w):
  Calls X 32 #[OG (some ⟨h,0,none⟩)] w λe w'=>(∃C D,e=OD (Z C (bM L).length D)/\w'.ownsRow w.heap.size 5 1 (Z C (bM L).length D) (bM L).length ((bM L).map af))/\Below w.heap.size w w':=by
 obtain⟨v,j⟩:=hp;have N:(bM L).length<=2 ^ 40:=by rw[eM];omega
 obtain⟨A,c,hv,I⟩:=cw j.2.2.head;dsimp only at hv I;subst hv
 have B:A=none->c=0:= λe=>by
  subst e;rcases j.2.2.head.2 with⟨G,_⟩|⟨g,aB,aC,G,_⟩
  ·exact(Value.slice.inj G).2.2
  ·have:=(Value.slice.inj G).1;cases this
 have C1:=O (ye h _ (U L:Int) w j.2.1.head);have C2:=O (wD A (bM L).length c (bM L) w I rfl N B);have z0:=j.2.1.head.cell 0;(try dsimp only at z0);clear j I N B;generalize bM L=M at*;generalize (U M)=n at*
 go_enter Tryz.func32,Tryz.ntmps32
 go_wp2_with (first|(go_at_call 65;refine C1.out.mono ?_;rintro e w2 ⟨rfl,rfl⟩)|(go_at_call 66;refine C2.out.mono ?_;rintro e w2 ⟨⟨C,D,rfl,T⟩,K⟩;have HS:=O T;have HB:=O K;clear T K z0))
 go_ret;exact⟨⟨C,D,rfl,HS.out⟩,HB.out⟩
theorem vK (sp:List UInt8)(j:Nat)(B:j<U sp):((sp.take (j+1)).flatMap λb=>49::aD b.toNat 8)=((sp.take j).flatMap λb=>49::aD b.toNat 8)++(49::aD sp[j].toNat 8):=by
 rw[Ob,OJ B,List.flatMap_append];simp
theorem yC (sp:List UInt8):(sp.flatMap λb=>49::aD b.toNat 8).length=9*(U sp):=by
 have:=jc sp;unfold fu at this;rw[OE,OV] at this;omega
theorem gD (s:List UInt8)(n b:Nat)(hn:n<2 ^ 32)(hb:b<=32)(hl:U s<=1000000)(w:World):
  Calls X 102 #[OK (bs s),V OA (n:Int),V OA (b:Int)] w λe w'=>e=OD (OK (bs (s++aD n b)))/\w=w':=by
 have HL:=O hl;have HN:=O hn;have k7:OC.wrap ((b:Int) - 1)=(b:Int) - 1:=by rw[J];omega
 clear hl hn
 go_enter Tryz.func102,Tryz.ntmps102
 go_wp2_with fail
 go_loopg [0,7] b (λgk t i=> λwr=>∃(j:Nat),j+gk=b/\i=V OA ((gk:Int) - 1)/\t=OK (bs (s++(aD n b).take j))/\wr=w)
 case atStart=>exact⟨0,by omega,rfl,by rw[Om,Oh],rfl⟩
 case round=>
  obtain⟨j,hj,rfl,rfl,rfl⟩:=hrel
  cases gk with
  |zero=>
   have K:j=b:=(by omega);have HE:=O K;clear hj K;go_wp2_with fail
   go_ret;exact⟨by rw[HE.out,OT (by rw[cf];exact OF _)];rfl,rfl⟩
  |succ g=>
   have G:((g+1:Nat):Int) - 1=(g:Int):=(by omega);have bE:(0:Int)<=(g:Int):=(by omega);have aC:(g:Int)<=64:=(by omega);have dt:(g:Int).toNat=g:=(by omega);have cz:¬((g:Int)<0):=(by omega);obtain⟨q,N⟩:∃q,n / 2 ^ g=q:=⟨_,rfl⟩;have dD:((n:Int) / 2 ^ g)=(q:Int):=by rw[<-N];exact_mod_cast rfl
   have C:q<2 ^ 62:=by
    have h1:q<=n:=(by rw[<-N];exact Nat.div_le_self _ _);have h3:=HN.out;have h4:(2:Nat) ^ 32<2 ^ 62:=(by decide);omega
   have B:=xH q C;obtain⟨x,hx⟩:∃x,q % 2=x:=⟨_,rfl⟩;rw[hx] at B;have aB:x=0\/x=1:=(by omega);have I:b - 1 - j=g:=(by omega);have M:(s++(aD n b).take j).length<=1000032:=by rw[OE,Of,cf];have:=HL.out;omega
   have T:Hid ((s++(aD n b).take j)++[if x=0 then(48:UInt8) else 49]=s++(aD n b).take (j+1)):=O (by
    rw[uL n b j (by omega),OL,I,N,hx])
   have dE:OC.wrap ((g:Int) - 1)=(g:Int) - 1:=(by rw[J];omega);have D:=O hj;rw[G];generalize s++(aD n b).take j=L at T M;clear hj N hx C I G;rcases aB with rfl|rfl
   ·skip
    simp only[Oe] at B;go_wp2_with fail
    go_roundg g
    case measure=>omega
    case rel=>exact⟨j+1,by have:=D.out;omega,rfl,by rw[<-T.out];rfl,rfl⟩
   ·skip
    simp only[OB] at B;go_wp2_with fail
    go_roundg g
    case measure=>omega
    case rel=>exact⟨j+1,by have:=D.out;omega,rfl,by rw[<-T.out];rfl,rfl⟩
theorem zA (s sp:List UInt8)(A:Option Addr)(n c:Nat)(w:World)(hA:Sl w A (sp.map af))(hn:U sp=n)(hs:n<=1000)(hl:U s<=1000):
  Calls X 125 #[OK (bs s),Z A n c] w λe w'=>e=OD (OK (bs (s++fu sp)))/\w=w':=by
 have HL:=O hl;have HN:=O hn;have HA:=O hA;have M:aD 1 1=[49]:=rfl;have K:aD 0 1=[48]:=rfl;have T:=O M;have N:=O K;clear hl hn hA M K
 go_enter Tryz.func125,Tryz.ntmps125
 go_wp2_with fail
 go_loopg [0,9] n (λgk t i=> λwr=>∃(j:Nat),j+gk=n/\i=V OA (j:Int)/\t=OK (bs (s++(sp.take j).flatMap λb=>49::aD b.toNat 8))/\wr=w)
 case atStart=>exact⟨0,by omega,rfl,by rw[Om,List.flatMap_nil,Oh],rfl⟩
 case round=>
  obtain⟨j,hj,rfl,rfl,rfl⟩:=hrel;have D:(s++(sp.take j).flatMap λb=>49::aD b.toNat 8).length<=10000:=by rw[OE,yC,Of];have:=HL.out;omega
  cases gk with
  |zero=>
   have B:j=n:=(by omega);have HE:=O B;have aC:¬((j:Int)<(n:Int)):=(by omega);have I:Hid ((s++(sp.take j).flatMap λb=>49::aD b.toNat 8)++aD 0 1=s++fu sp):=O (by rw[N.out,HE.out,OT (by rw[HN.out];exact OF _),OL];rfl);generalize (s++(sp.take j).flatMap λb=>49::aD b.toNat 8)=L at I D⊢;have C:=O (gD L 0 1 (by decide) (by decide) (by omega) wr);simp only[OB] at C;clear hj B;go_wp2_with (go_at_call 102;refine C.out.mono ?_;rintro e w2 ⟨rfl,rfl⟩)
   go_ret;exact⟨by rw[I.out];rfl,rfl⟩
  |succ g=>
   have aC:((j:Int)<(n:Int)):=(by omega);have bE:¬((j:Int)<0):=(by omega);have B:j<(U sp):=(by rw[HN.out];omega);obtain⟨b,hb⟩:∃b,sp[j]=b:=⟨_,rfl⟩;obtain⟨ad,rfl,_,hc⟩:=HA.out.byte j B;rw[hb] at hc;have G:b.toNat<256:=UInt8.toNat_lt _;have cz:OC.wrap ((j:Int)+1)=(j:Int)+1:=(by rw[J];omega);have dt:OC.wrap (b.toNat:Int)=(b.toNat:Int):=(by rw[J];omega);have I:Hid (((s++(sp.take j).flatMap λb=>49::aD b.toNat 8)++aD 1 1)++aD b.toNat 8=s++(sp.take (j+1)).flatMap λb=>49::aD b.toNat 8):=O (by rw[T.out,vK sp j B,hb,OL,OL];rfl);generalize (s++(sp.take j).flatMap λb=>49::aD b.toNat 8)=L at I D⊢;have C1:=O (gD L 1 1 (by decide) (by decide) (by omega) wr);have C2:=O (gD (L++aD 1 1) b.toNat 8 (by omega) (by decide) (by rw[OE,cf];omega) wr);simp only[OB] at C1 C2;have aB:=O hj;generalize (L++aD 1 1)++aD b.toNat 8=L2 at*;generalize L++aD 1 1=L1 at*;generalize b.toNat=bn at*;clear hj B hb G D;go_wp2_with fail
   refine C1.out.mono ?_;rintro e w2 ⟨rfl,rfl⟩;go_wp2_with fail
   refine C2.out.mono ?_;rintro e w2 ⟨rfl,rfl⟩;go_wp2_with fail
   go_roundg g
   case measure=>omega
   case rel=>exact⟨j+1,by have:=aB.out;omega,rfl,by rw[<-I.out],rfl⟩
def iX (qu:Int) (n:Nat):Bool:=decide (1<=qu)&&decide (qu<=31)&&decide (n<=32)
theorem uS (qu:Int)(sp:List UInt8)(A:Option Addr)(n c:Nat)(w:World)(D:Sl w A (sp.map af))(G:U sp=n):
  Calls X 75 #[V OA qu,Z A n c] w λe w'=>e=OD (if iX qu n then Oj #[OK (bs (aD qu.toNat 5++fu sp)),V OA 0] else Oj #[OK (bs []),V OA 2])/\w=w':=by
 have N:=O G;have M:=O D;clear D G;have he:bs []={data:= #[]}:=rfl;rw[he]
 cases j:iX qu n with
 |true=>
  simp only[iX,Od,decide_eq_true_eq] at j;obtain⟨⟨T,h2⟩,h3⟩:=j;obtain⟨q,rfl⟩:=Int.eq_ofNat_of_zero_le (by omega:0<=qu);have I:decide ((q:Int)<1)=false:=(by simp;omega);have K:decide ((31:Int)<(q:Int))=false:=(by simp;omega);have k3:decide ((32:Int)<(n:Int))=false:=(by simp;omega);have B:=O (gD [] q 5 (by omega) (by decide) (by simp) w);have C:=O (zA ([]++aD q 5) sp A n c w M.out N.out (by omega) (by simp[cf]));rw[he] at B;simp only[OB] at B;rw[OZ];rw[OS] at B C;generalize aD q 5++fu sp=L2 at*;generalize aD q 5=L1 at*;clear T h2 h3
  go_enter OU,OP
  go_wp2_with fail
  refine B.out.mono ?_;rintro e w2 ⟨rfl,rfl⟩;go_wp2_with fail
  refine C.out.mono ?_;rintro e w2 ⟨rfl,rfl⟩;go_wp2_with fail
  go_ret2;exact⟨rfl,rfl⟩
 |false=>
  cases I:decide (qu<1) with
  |true=>
   clear j
   go_enter OU,OP
   go_wp2_with fail
   go_ret2;exact⟨rfl,rfl⟩
  |false=>
   cases K:decide (31<qu) with
   |true=>
    clear j
    go_enter OU,OP
    go_wp2_with fail
    go_ret2;exact⟨rfl,rfl⟩
   |false=>
    have k3:decide ((32:Int)<(n:Int))=true:=by
     simp only[iX,Bool.and_eq_false_iff,decide_eq_false_iff_not] at j I K;simp;omega
    clear j
    go_enter OU,OP
    go_wp2_with fail
    go_ret2;exact⟨rfl,rfl⟩
theorem qN (n:Nat)(I:n<=15)(w:World):
  Calls X 59 #[V OA (n:Int)] w λe w'=>e=OD (Oj #[OK (bs (fK n)),V OA 0])/\w=w':=by
 have K:decide ((n:Int)<0)=false:=by simp
 have M:decide ((15:Int)<(n:Int))=false:=by simp;omega
 have he:bs []={data:= #[]}:=rfl;have j:=O (gD [] 1 16 (by decide) (by decide) (by simp) w);have B:=O (gD ([]++aD 1 16) n 4 (by omega) (by decide) (by simp[cf]) w);rw[he] at j;rw[OS] at j B;simp only[OB] at j B;unfold fK;rw[OZ];generalize aD 1 16++aD n 4=G at*;generalize aD 1 16=D at*
 go_enter Tryz.func59,Tryz.ntmps59
 go_wp2_with fail
 refine j.out.mono ?_;rintro e C ⟨rfl,rfl⟩;go_wp2_with fail
 refine B.out.mono ?_;rintro e C ⟨rfl,rfl⟩;go_wp2_with fail
 go_ret2;exact⟨rfl,rfl⟩
theorem zz (n:Nat)(qu:Int)(sp:List UInt8)(A:Option Addr)(k c:Nat)(w:World)(D:Sl w A (sp.map af))(G:U sp=k)(M:1<=n)(K:n<=15)(j:iX qu k=true):
  Calls X 61 #[V OA (n:Int),V OA qu,Z A k c] w λe w'=>e=OD (Oj #[OK (bs (fK n++(aD qu.toNat 5++fu sp))),V OA 0])/\w=w':=by
 have T:((n:Int)==0)=false:=by simp;omega
 have I:=O (qN n K w);have C:=O (uS qu sp A k c w D G);rw[j,if_pos rfl] at C;have B:k<=32:=by simp only[iX,Od,decide_eq_true_eq] at j;omega
 have l1:(fK n).length=20:=jd _;have l2:(aD qu.toNat 5++fu sp).length<=1000:=by rw[OE,cf,jc];omega
 generalize aD qu.toNat 5++fu sp=s2 at*;generalize fK (n:Int)=s1 at*;clear D G j B
 go_enter Tryz.func61,Tryz.ntmps61
 go_wp2_with (first|(go_at_call 59;refine I.out.mono ?_;rintro e N ⟨rfl,rfl⟩)|(go_at_call 75;refine C.out.mono ?_;rintro e N ⟨rfl,rfl⟩))
 go_ret2;exact⟨rfl,rfl⟩
end
open Go Go.RowKit
open Go.Lib renaming hid→O
open Nat renaming le_refl→U
open List renaming length→Z,map_append→V,length_append→OA
open Go.Value renaming slice→J,int→OC,string→OD
open Go.IntKind renaming i64→OB
theorem Cb:fO.set 0 [49]=(aQ true).map (·.2):=by kernel_rfl
theorem FT:bS true=(aQ true).map (·.2)++[eh]:=by simp[bS]
theorem Ec:bS false=(fO++[bD])++[eh]:=rfl
theorem Gm:fQ true=jL 0 63++[1000]:=by kernel_rfl
theorem Ez:fQ false=(jL 0 63++[1001])++[1000]:=by kernel_rfl
theorem jR (lo:Int)(j:Nat):(jL lo j).length=j:=by simp[jL]
def NC (w:World) (j B:Value) (N:List Int) (C:List (List UInt8)) (W:World):Prop:=ar w [] [⟨w.heap.size,3,1,j,Z N,N.map aE⟩,⟨w.heap.size,9,1,B,Z C,C.map aM⟩] W
theorem JB {w:World}{D:Value}{g n c:Nat}{N:List Int}{C:List (List UInt8)}{W:World}(h:NC w D (J (some ⟨g,0,none⟩) n c) N C W)(G:Z C=n)(i:Nat)(s:List UInt8):
  NC w D (J (some ⟨g,0,none⟩) n c) N (C.set i s) (W.setCell ⟨g,i,none⟩ (aM s)):=by
 subst G;have B:=h.2.2.head;have h2:=h.2.2.tail.head;dsimp only at B h2;unfold NC;refine⟨h.1.setCell (p:=⟨g,i,none⟩) ?_ _,ag _,ai.cons ?_ (ai.cons ?_ (aA _))⟩
 ·exact(h2.lt g rfl).1
 ·refine eR B ⟨g,i,none⟩ (aM s) ?_
  rcases ji h2 B (by decide) with j|j
  ·rw[j];simp
  ·exact j
 ·have j:=(h2.stored i (aM s)).1
  rw[List.map_set,List.length_set];exact j
theorem Ey {w:World}{j B:Value}{N:List Int}{C:List (List UInt8)}{W:World}{k:Int}{s:List UInt8}
  (h:ar w [] [⟨w.heap.size,3,1,j,Z N+1,N.map aE++[aE k]⟩,⟨w.heap.size,9,1,B,Z C+1,C.map aM++[aM s]⟩] W):NC w j B (N++[k]) (C++[s]) W:=by
 unfold NC;rw[V,V,OA,OA];exact h
theorem xT {w:World}{D G:Value}{N:List Int}{C:List (List UInt8)}{W:World}(h:NC w D G N C W):∃j c1 B c2,D=J j (Z N) c1/\G=J B (Z C) c2/\Sl W j (N.map aE)/\Sl W B (C.map aM)/\Below w.heap.size w W:=by
 obtain⟨j,c1,I,M⟩:=cw h.2.2.head;obtain⟨B,c2,K,T⟩:=cw h.2.2.tail.head;exact⟨j,c1,B,c2,I,K,M,T,h.1⟩
set_option maxRecDepth 100000 in
set_option maxHeartbeats 4000000 in
theorem Di (A:Option Addr)(n c:Nat)(l:List UInt8)(i:Int)(first:Bool)(w:World)(hA:Sl w A (l.map af))(hn:Z l=n)(hsz:n<=2 ^ 47)(hi: -9223372036854775808<=i/\i<=9223372036854775807):
  Calls Tryz.prog 261 #[J A n c,OC OB i,.bool first] w λe w'=>e=.returned (.tuple #[OC OB (ac (bS first) (fQ first) l i).1,OC OB (ac (bS first) (fQ first) l i).2.1,OC OB (ac (bS first) (fQ first) l i).2.2])/\Below w.heap.size w w':=by
 have Gt:=O (λ(b m:Nat) (W:World) (h:kB W b m (bS first) (fQ first)) (hm:(bS first).length=m) (kz:m<=300) (hA:Sl W A (l.map af))=>kL b A n m c (bS first) (fQ first) l i W h hm (by rw[<-tR];exact hm) kz (by cases first<;>kernel_rfl) hA hn hsz hi);have MK:=O (λ(X Y:Option Addr) (m x y:Nat) (W:World) (h1:Sl W X ((bS first).map aM)) (h2:Sl W Y ((fQ first).map aE)) (hm:(bS first).length=m) (hU:1<=m) (h3:m<=300)=>jC X Y m x y (bS first) (fQ first) W h1 h2 hm (by rw[<-tR];exact hm) hU h3 (xg first) (xh first));have HA:=O hA;clear hA hn hsz hi;generalize ac (bS first) (fQ first) l i=R at Gt⊢;obtain⟨r1,r2,r3⟩:=R
 go_enter Tryz.func261,Tryz.ntmps261
 go_wp2_with fail
 refine(qY w).mono ?_;rintro e w2 ⟨w1,v1,v2,dE,rfl,B⟩;obtain⟨A2,c2,q2,_⟩:=cw B.2.2.tail.head;dsimp only at q2;subst q2;have dt:Hid (NC w1 (J none 0 0) (J A2 (Z fO) c2) (jL 0 0) fO w2):=O ⟨B.1,ag _,ai.cons (World.ownsRow_nil _ _ _ _) (ai.cons B.2.2.tail.head (aA _))⟩;have bE:=O dE;clear dE B;rw[jt] at dt⊢;go_wp2_with fail
 go_loopg [11,12] 63 (λg v i=> λwr=>∃(j:Nat),j+g=63/\i=OC OB (j:Int)/\Hid (NC w1 v (J A2 63 c2) (jL 0 j) fO wr))
 case atStart=>exact⟨0,by omega,rfl,dt⟩
 case round=>
  obtain⟨j,hj,rfl,HN⟩:=hrel
  cases gk with
  |succ g=>
   have jT:((j:Int)<63):=(by omega);have hw:IntKind.i64.wrap ((j:Int)+1)=(j:Int)+1:=(by rw[IntKind.wrap_i64];omega);have B:=HN.out;obtain⟨A1,c1,q1,_⟩:=cw B.2.2.head;dsimp only at q1;subst q1;have HJ:=O hj;have rX:j<=62:=(by omega);unfold NC at B;rw[jR] at B⊢;have HZ:=O B;clear B hj HN;go_wp2_with (at_builtin;refine bW gt rfl rfl 1 [aE (j:Int)] rfl HZ.out rfl rfl (by intro u D;simp[aE] at D;subst D;rfl) (by omega) ⟨U _,HZ.out.1.size⟩ (by simp) (by simp) ?_;intro v1 W1 dY;have gy:=O dY;clear dY)
   go_roundg g
   case measure=>omega
   case rel=>
    refine⟨j+1,by have:=HJ.out;omega,rfl,O ?_⟩;unfold NC;rw[ru,jR,Int.add_zero];exact gy.out
  |zero=>
   obtain rfl:j=63:=by omega
   have jT:¬((63:Int)<63):=(by omega);obtain⟨A1,c1,wj,Io,q1,q2,_,_,_⟩:=xT HN.out;subst q1;clear q2
   cases first with
   |true=>
    have B:=HN.out
    obtain⟨g2,ja⟩:∃g2,A2=some ⟨g2,0,none⟩:=by
     obtain⟨g,Ip,e,_⟩:=ib B.2.2.tail.head (show 0<(Z fO) by rw[jt];decide);dsimp only at e;injection e with e;exact⟨g,e⟩
    subst ja
    have Iq:wr.cell? ⟨g2,0,none⟩=some (OD (bs [49,49])):=by
     have h1:=B.2.2.tail.head.cellAt 0 (show 0<Z fO*1 by rw[jt];decide);(try dsimp only at h1);rw[h1];have e:(fO.map aM)[0]? =some (OD (bs [49,49])):=(by kernel_rfl);exact e
    have J2:wr.frozen? ⟨g2,0,none⟩=false:=B.2.2.tail.head.frozenAt 0;have hs:=JB B jt 0 [49];rw[Cb] at hs;unfold NC at hs;rw[jR,show ((aQ true).map (·.2)).length=63 by kernel_rfl] at hs;rw[jR] at*;have HS:=O hs;have t1:True:=trivial;clear B hs HN
    go_wp2_with (first
     |(at_builtin;have _t:=t1;refine bW ik rfl rfl 1 [aM eh] rfl (cM HS.out) (by rw[World.size_setCell];rfl) rfl (by intro u D;simp[aM] at D;subst D;rfl) (by decide) ⟨U _,HS.out.1.size⟩ (by simp) (by simp) ?_;clear t1;intro v3 W3 T;have I:=O T;clear T)
     |(at_builtin;refine bW gt rfl rfl 1 [aE 1000] rfl (cM I.out) rfl rfl (by intro u D;simp[aE] at D;subst D;rfl) (by decide) ⟨U _,I.out.1.size⟩ (by simp) (by simp) ?_;intro v4 W4 aB;have cz:=O aB;clear aB))
    have aC:=Ey (N:=jL 0 63) (C:=(aQ true).map (·.2)) (by rw[jR,show ((aQ true).map (·.2)).length=63 by kernel_rfl];exact cz.out);obtain⟨A3,c3,A4,c4,q1,q2,s3,s4,b5⟩:=xT aC;rw[show ((aQ true).map (·.2)++[eh]:List (List UInt8)).length=64 by kernel_rfl] at q2;rw[show (jL 0 63++[1000]:List Int).length=64 by kernel_rfl] at q1;subst q1 q2;have G:=O (bE.out.trans (b5.mono bE.out.size));have H3:=O s3;have H4:=O s4;clear aC s3 s4 b5;refine(MK.out _ _ 64 _ _ _ (by rw[FT];exact H4.out) (by rw[Gm];exact H3.out) (by kernel_rfl) (by decide) (by decide)).mono ?_;rintro e w6 ⟨b,rfl,hT,K⟩;have B6:=O (G.out.trans (K.mono G.out.size));have HT:=O hT;clear K hT;go_wp2_with fail
    refine(Gt.out b 64 w6 HT.out (by kernel_rfl) (by decide) (HA.out.below B6.out)).mono ?_;rintro e w7 ⟨rfl,M⟩;have B7:=O (B6.out.trans (M.mono B6.out.size));clear M;go_wp2_with fail
    go_ret3;exact⟨rfl,B7.out⟩
   |false=>
    have B:=HN.out;unfold NC at B;rw[jR,jt] at B;rw[jR] at*;have HS:=O B;have t1:True:=trivial;have t2:True:=trivial;have t3:True:=trivial;clear B HN
    go_wp2_with (first
     |(at_builtin;have _t:=t1;refine bW ik rfl rfl 1 [aM bD] rfl (cM HS.out) rfl rfl (by intro u D;simp[aM] at D;subst D;rfl) (by decide) ⟨U _,HS.out.1.size⟩ (by simp) (by simp) ?_;clear t1;intro v3 W3 T;have I:=O T;clear T)
     |(at_builtin;have _t:=t2;refine bW gt rfl rfl 1 [aE 1001] rfl (cM I.out) rfl rfl (by intro u D;simp[aE] at D;subst D;rfl) (by decide) ⟨U _,I.out.1.size⟩ (by simp) (by simp) ?_;clear t2;intro v4 W4 aB;have cz:=O aB;clear aB)
     |(at_builtin;have _t:=t3;refine bW ik rfl rfl 1 [aM eh] rfl (cM cz.out) rfl rfl (by intro u D;simp[aM] at D;subst D;rfl) (by decide) ⟨U _,cz.out.1.size⟩ (by simp) (by simp) ?_;clear t3;intro v5 W5 eE;have dD:=O eE;clear eE)
     |(at_builtin;refine bW gt rfl rfl 1 [aE 1000] rfl (cM dD.out) rfl rfl (by intro u D;simp[aE] at D;subst D;rfl) (by decide) ⟨U _,dD.out.1.size⟩ (by simp) (by simp) ?_;intro v6 W6 fW;have gJ:=O fW;clear fW))
    have aC:=Ey (N:=jL 0 63++[1001]) (C:=fO++[bD]) (by rw[show (jL 0 63++[1001]:List Int).length=64 by kernel_rfl,show (fO++[bD]:List (List UInt8)).length=64 by kernel_rfl,V,V];exact gJ.out);obtain⟨A3,c3,A4,c4,q1,q2,s3,s4,b5⟩:=xT aC;rw[show ((fO++[bD])++[eh]:List (List UInt8)).length=65 by kernel_rfl] at q2;rw[show ((jL 0 63++[1001])++[1000]:List Int).length=65 by kernel_rfl] at q1;subst q1 q2;have G:=O (bE.out.trans (b5.mono bE.out.size));have H3:=O s3;have H4:=O s4;clear aC s3 s4 b5;refine(MK.out _ _ 65 _ _ _ (by rw[Ec];exact H4.out) (by rw[Ez];exact H3.out) (by kernel_rfl) (by decide) (by decide)).mono ?_;rintro e w6 ⟨b,rfl,hT,K⟩;have B6:=O (G.out.trans (K.mono G.out.size));have HT:=O hT;clear K hT;go_wp2_with fail
    refine(Gt.out b 65 w6 HT.out (by kernel_rfl) (by decide) (HA.out.below B6.out)).mono ?_;rintro e w7 ⟨rfl,M⟩;have B7:=O (B6.out.trans (M.mono B6.out.size));clear M;go_wp2_with fail
    go_ret3;exact⟨rfl,B7.out⟩
end Go.Proofs.YthhijgcfbjcgiaaGreatDoor
