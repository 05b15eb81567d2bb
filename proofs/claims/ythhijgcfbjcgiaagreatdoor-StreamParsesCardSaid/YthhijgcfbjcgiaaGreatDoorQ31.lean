/- From, GGet, PicT, Frm, Fits, Ref08, Ref09 -/
import Derived.Test.YthhijgcfbjcgiaaGreatDoorQ25
import Derived.Test.YthhijgcfbjcgiaaGreatDoorQ30
import Derived.Test.YthhijgcfbjcgiaaGreatDoorQ20
import Derived.Test.YthhijgcfbjcgiaaGreatDoorQ12
namespace Go.Proofs.YthhijgcfbjcgiaaGreatDoor
section
open Go Go.RowKit
attribute [local go_sem] Oper.semAt_some
set_option maxHeartbeats 16000000
set_option maxRecDepth 100000
open Go.Lib renaming hid→O
open List renaming setIfInBounds_toArray→U,set_cons_succ→X,set_cons_zero→J,length→OA,length_singleton→OH,length_append→OI,drop_succ_cons→ON,drop_zero→OQ,getElem?_append_right→OT,map_append→Oe
open Go.Value renaming int→Z,bool→OC,slice→OG,tuple→OU,pointer→OV
open Go.IntKind renaming i64→V,wrap_i64→Y,i64→OB
open Tryz renaming prog→OD,results88→OL,ntmps180→OO,func180→OP,ntmps141→OW,func141→OX,ntmps77→OY,ntmps88→OZ,func77→Oa,func88→Ob,ntmps218→Og,func218→Oi
open Go.Ending renaming returned→OE
open Go.Proofs.YthhijgcfbjcgiaaGreatDoor.cb renaming take→OF,step→Of
open Nat renaming le_refl→OJ,lt_or_ge→Oh
open Int renaming toNat_natCast→OK,tdiv_eq_ediv_of_nonneg→OR,tmod_eq_emod_of_nonneg→OS
open Go.Obj renaming cells→OM
open Bool renaming and_eq_true→Oc,eq_iff_iff→Od
def o7 (l:List UInt8) (a:Nat) (pre:List Nat):Prop:=∀k x,pre[k]? =some x->x=a+k/\x<8*OA l
theorem o7.snoc {l:List UInt8}{a:Nat}{pre:List Nat}(h:o7 l a pre)(G:a+OA pre<8*OA l):o7 l a (pre++[a+OA pre]):=by
 intro k x j;rcases Nat.lt_trichotomy k (OA pre) with C|B|D
 ·rw[List.getElem?_append_left C] at j;exact h k x j
 ·subst B
  rw[OT (OJ _)] at j;simp at j;exact⟨j.symm,by omega⟩
 ·rw[OT (by omega),List.getElem?_eq_none (by simp;omega)] at j
  cases j
theorem yB {l:List UInt8}{a x:Nat}{pre:List Nat}(h:o7 l a (pre++[x])):x=a+OA pre/\x<8*(OA l):=h (OA pre) x (by simp)
def tS (l:List UInt8) (i:Nat):Array Value:= #[Z V (i:Int),Z V ((aS l i:Nat):Int)]
def Jn (j:Nat) (w:World):Int:=match w.cell? ⟨j,0,none⟩ with|some (Z V x)=>x|_=>0
theorem AR {w:World}{j:Nat}{t:TypeId}{x:Int}(h:ab w j t #[Z V x]):Jn j w=x:=by
 unfold Jn;rw[h.cell 0];rfl
theorem uB (A:Option Addr)(m c:Nat)(a:Int)(w:World):Calls OD 139 #[OG A m c,Z V a] w λe w'=>e=OE (.func (.func 183) #[] #[OV (some ⟨w.heap.size+1,0,none⟩),OV (some ⟨w.heap.size,0,none⟩)])/\w'=(w.alloc (OM #[OG A m c] 25)).alloc (OM #[Z V a] 3):=by
 go_enter Tryz.func139,Tryz.ntmps139
 go_wp2_with fail
 go_ret;exact⟨by simp,rfl⟩
theorem uQ (n:Nat)(hn:1<=n)(D gb:Nat)(A:Option Addr)(m c:Nat)(l:List UInt8)(a:Nat)(hl:OA l=m)(hsz:m<=2 ^ 40)(ha:a<=8*m)(C:List Nat->World->Prop)
  (jT:∀pre W v,C pre W->C pre (W.setCell ⟨D,0,none⟩ v)) (kz:∀pre W W',C pre W->Below W.heap.size W W'->C pre W')
  (hCs:∀pre W,C pre W->ab W gb 25 #[OG A m c]/\Sl W A (l.map af)):
  wO Fence.wide n OD 183 #[OV (some ⟨D,0,none⟩),OV (some ⟨gb,0,none⟩)] (tS l)
   (λpre W=>C pre W/\ab W D 3 #[Z V (a:Int)])
   (λpre W=>C pre W/\ab W D 3 #[Z V ((a+OA pre:Nat):Int)])
   (λpre W=>C pre W/\ab W D 3 #[Z V (((a+OA pre:Nat):Int) - 1)])
   (λpre W=>C pre W/\ab W D 3 #[Z V ((a+OA pre:Nat):Int)])
   (λxs=>o7 l a xs/\8*m<=a+OA xs) (o7 l a):=by
 intro lp K Jx W hK hY ja Ip;refine callsIn_of_wp Tryz.func183 rfl trivial ?_ rfl;simp only[Tryz.ntmps183,List.size_toArray,List.length_cons,List.length_nil,Nat.reduceAdd,Nat.reduceSub,Array.replicate_succ,Array.replicate_zero,List.push_toArray,List.append_toArray,List.nil_append,List.cons_append];have HY:=O hY;have K3:=O jT;have K5:=O kz;have K6:=O hCs;have HK:=O hK;have HL:=O hl;have H0:=O ja;have K9:=O Ip;have K2:=O ha;clear hY jT kz hCs hK hl ja Ip ha;gi_wp2_with fail
 gi_loopw [] (λwr=>∃(pre:List Nat),Hid (o7 l a pre)/\Hid (C pre wr)/\Hid (ab wr D 3 #[Z V ((a+OA pre:Nat):Int)])/\Hid (K wr)/\Hid (a+OA pre<=8*m)) (λwr=>8*m - (Jn D wr).toNat)
 case atStart=>exact⟨[],O (λk x h=>by simp at h),O H0.out.1,O H0.out.2,K9,K2⟩
 case round=>
  obtain⟨pre,hU,eE,bE,KC,KE⟩:=hrel;obtain⟨p,hp⟩:∃p,a+OA pre=p:=⟨_,rfl⟩;rw[hp] at bE KE;have T:=O hp;obtain⟨wj,hA⟩:=K6.out _ _ eE.out;have B:=O (show aa [(D,3,#[Z V (p:Int)]),(gb,25,#[OG A m c])] wr.drew from aa.cons bE.out (aa.cons wj (ag _)));have K1:=O (show Sl wr.drew A (l.map af) from hA);have cz:Below wr.heap.size wr wr.drew:=(Below.refl _ wr).drew;have dY:=O (K5.out _ _ _ eE.out cz);have gy:=O (HK.out.below KC.out cz);clear hp wj hA cz;gi_wp2_with fail
  refine ln (λw'=>aa [(D,3,#[Z V (p:Int)]),(gb,25,#[OG A m c])] w') 10 (OF 0 (OF 1 (Of 2 (OF 3 (OF 4 (OF 5 (OF 6 (OF 7 (OF 8 (Of 9 .done)))))))))) rfl (by kernel_rfl) (by kernel_rfl) (λ_ _ d _ _ h=>by cases d<;>exact h) (by simp only[cb.out,Array.getD_eq_getD_getElem?,List.getElem?_toArray,List.getElem?_cons_zero,List.getElem?_cons_succ,Option.getD_some];rfl) (by simp only[List.map_cons,List.map_nil];rfl) (B.out) (λPE M=>?_)
  iterate 2
   refine fS (v:=?_) rfl (by rfl) ?_ (λ_=>rfl) ?_
   rotate_left
   ·intro _ j;(try dsimp only at j);have z0:=j.head.cell 0;have z1:=j.tail.head.cell 0;(try dsimp only at z0 z1);go_simp;(try with_reducible rfl)
   simp only[U,J,X]
  refine lG (f:=84) rfl (by rfl) (by first|(go_simp;done)|(go_simp;rfl)) (dm A m c _ (by omega)) ?_;rintro e w2 ⟨rfl,rfl⟩;refine⟨_,rfl,_,λ_ h=>h,B.out,?_⟩;simp only[U,J,X];rcases Oh p (8*m) with dD|Io
  ·have I:((p:Int)<8*(m:Int)):=by omega
   have J2:(decide ((p:Int)<8*(m:Int)))=true:=by simpa using I
   iterate 6
    refine fS (v:=?_) rfl (by rfl) ?_ (λ_=>rfl) ?_
    rotate_left
    ·intro _ j;(try dsimp only at j);have z0:=j.head.cell 0;have z1:=j.tail.head.cell 0;(try dsimp only at z0 z1);go_simp;(try with_reducible rfl)
    simp only[U,J,X]
   have CB:=wZ A m c l (p:Int) wr.drew K1.out HL.out (by omega) (by omega);rw[OK] at CB;refine lG (f:=99) rfl (by rfl) (by first|(go_simp;done)|(go_simp;rfl)) CB ?_;rintro e w2 ⟨rfl,rfl⟩;refine⟨_,rfl,_,λ_ h=>h,B.out,?_⟩;simp only[U,J,X];have N:=hU.out.snoc (by rw[T.out,HL.out];exact dD);rw[T.out] at N;obtain⟨fn,tmps,K0,body,dE,hR⟩:=HY.out pre p wr.drew ⟨dY.out,by rw[T.out];exact B.out.head⟩ gy.out N;have HR:=O hR;have aB:=O N;dsimp only[tS] at dE;have KG:OB.wrap ((p:Int)+1)=(p:Int)+1:=(by rw[Y];omega);have gJ:=O dD;clear hR N CB dD;refine M _ _ ?_;clear M PE;simp only[ON,OQ];gi_wp2_with fail
   refine HR.out.mono ?_;rintro e W3 (⟨rfl,dt,Iq⟩|⟨rfl,rX⟩)
   ·have G:=dt.2
    have e9:(((a+(pre++[p]).length:Nat):Int) - 1)=(p:Int):=(by have:=T.out;rw[OI,OH];omega);rw[e9] at G;have fW:=O G;have K4:=O dt.1;have Kr:=O Iq;have z0:=G.cell 0;have z1:=G.frozen 0;(try dsimp only at z0 z1);clear G dt Iq dE e9;gi_wp2_with fail
    have aC:=fW.out.set_ 0 (Z V ((p:Int)+1));refine⟨⟨pre++[p],aB,O (K3.out _ _ _ K4.out),O ?_,O (HK.out.set Kr.out fW.out (p:=⟨D,0,none⟩)),O (by have:=T.out;have:=gJ.out;rw[OI,OH];omega)⟩,?_⟩
    ·have e9:((a+(pre++[p]).length:Nat):Int)=(p:Int)+1:=by have:=T.out;rw[OI,OH];omega
     rw[e9];exact aC
    ·have h9:=AR (show ab _ D 3 #[Z V ((p:Int)+1)] from aC);have KF:=AR bE.out
     rw[h9,KF];have:=gJ.out;omega
   ·clear dE
    gi_wp2_with fail
    refine bodyPost_end (results_none rfl _ _ _) rfl ?_;exact⟨⟨_,rfl⟩,.inr ⟨_,aB.out,rX⟩⟩
  ·have I:¬((p:Int)<8*(m:Int)):=by omega
   have J2:(decide ((p:Int)<8*(m:Int)))=false:=(by simpa using I);have K8:=O Io;clear Io
   iterate 2
    refine fS (v:=?_) rfl (by rfl) ?_ (λ_=>rfl) ?_
    rotate_left
    ·intro _ j;(try dsimp only at j);go_simp;(try with_reducible rfl)
    simp only[U,J,X]
   iterate 4
    refine lH rfl (by rfl) (λ_=>rfl) ?_
    simp only[U,J,X]
   refine jH (by rfl) rfl B.out ?_;simp only[U,J,X];refine M _ _ ?_;clear M PE;simp only[ON,OQ];gi_wp2_with (refine wpListIn_skip (by rfl) (by rfl) ?_)
   refine bodyPost_end (results_none rfl _ _ _) rfl ?_;exact⟨⟨_,rfl⟩,.inl ⟨pre,⟨hU.out,by rw[T.out];exact K8.out⟩,⟨dY.out,by have h:=B.out.head;rw[<-T.out] at h;simpa using h⟩,gy.out⟩⟩
def dR (r:Nat×Int) (p:Nat):Int:=if r.2=0 then(r.1:Int) - p else 0
def rY (r:(Int×List UInt8)×Nat×Int) (p:Nat) (w:World) (e:Ending) (w':World):Prop:=
 ∃v,e=OE (OU #[Z V r.1.1,v,Z V (dR r.2 p),Z V r.2.2])/\Below w.heap.size w w'/\w'.ownsRow w.heap.size 5 1 v r.1.2.length (r.1.2.map af)
theorem jg {w W:World}{p:Nat}(e:Int)(he:e≠0)(j:Below w.heap.size w W):rY ((0,[]),0,e) p w (OE (OU #[Z V 0,OG none 0 0,Z V 0,Z V e])) W:=
 ⟨OG none 0 0,by unfold dR;rw[if_neg he],j,World.ownsRow_nil _ _ _ _⟩
structure rm (l:List UInt8) (p:Nat) (pre:List UInt8):Prop where
 le:OA pre<=32
 eq:dj l 32 p=(pre++(dj l (32 - OA pre) (p+9*OA pre)).1,(dj l (32 - OA pre) (p+9*OA pre)).2.1,(dj l (32 - OA pre) (p+9*OA pre)).2.2)
theorem rR (l:List UInt8)(p:Nat):rm l p []:=⟨by decide,rfl⟩
theorem rm.next {l:List UInt8}{p:Nat}{pre:List UInt8}(h:rm l p pre)(j:OA pre<32)(B:aS l (p+9*OA pre)≠0)(h2:p+9*OA pre+9<=8*OA l):rm l p (pre++[UInt8.ofNat (au l (p+9*OA pre+1) 8)]):=by
 refine⟨by rw[OI,OH];omega,?_⟩;have e:=h.eq;rw[show 32 - OA pre=(32 - (OA pre+1))+1 by omega,IL B h2] at e;rw[e,OI,OH,show p+9*(OA pre+1)=p+9*OA pre+9 by omega];simp
theorem Eh (A:Option Addr)(n c:Nat)(l:List UInt8)(p:Nat)(w:World)(hA:Sl w A (l.map af))(hn:OA l=n)(hsz:n<=2 ^ 40)(hp:p<=8*n):
  Calls OD 88 #[OG A n c,Z V (p:Int)] w (rY (fa l p) p w):=by
 have HA:=O hA;have HN:=O hn;have HP:=O hp;have CC:=O (λW=>dm A n c W (by omega));have RM:=O (λ(i m:Int) W (h0:0<=i) (h1:0<=m) (h2:m<=32) (h3:8*(n:Int)<i+m)=>dq A n c i m W h0 h1 h2 h3 (by omega));have RD:=O (λ(v i m:Int) W hv K (h0:0<=i) (h1:0<=m) (h2:m<=32) (h3:i+m<=8*(n:Int))=>fY v A n c l i m W hv K hn h0 h1 h2 h3 (by omega));have k1:¬((p:Int)<0):=by omega
 have k2:¬(8*(n:Int)<(p:Int)):=by omega
 obtain⟨r,K⟩:∃r,fa l p=r:=⟨_,rfl⟩;rw[K];unfold fa at K
 by_cases h5:8*n<p+5
 ·rw[if_pos (by rw[HN.out];exact h5)] at K
  subst K;have C1:=O (λW=>RM.out (p:Int) 5 W (by omega) (by decide) (by decide) (by omega));clear hA hn hp h5 hsz RM RD
  go_enter Ob,OZ
  go_wp2_with fail
  go_step3
  go_wp2_with (first|(go_at_call 84;refine(CC.out _).mono ?_;rintro e M ⟨rfl,rfl⟩)|(go_at_call 56;refine(C1.out _).mono ?_;rintro e M ⟨rfl,rfl⟩))
  (try rw[Exit.noGoto_ret]);exact bodyPost_ret (by simp[results,OL,go_sem]) rfl (jg 5 (by decide) (Below.refl _ _))
 rw[if_neg (by rw[HN.out];exact h5)] at K;have R5:=O (RD.out (au l p 5:Nat) (p:Int) 5 w (by rw[OK];rfl) HA.out (by omega) (by decide) (by decide) (by omega))
 by_cases h9:au l p 5=0
 ·rw[if_pos h9] at K
  subst K;rw[h9] at R5;simp only[Int.natCast_zero] at R5;clear hA hn hp h5 hsz RM RD h9
  go_enter Ob,OZ
  go_wp2_with fail
  go_step3
  go_wp2_with (first|(go_at_call 84;refine(CC.out _).mono ?_;rintro e M ⟨rfl,rfl⟩)|(go_at_call 56;refine R5.out.mono ?_;rintro e M ⟨rfl,rfl⟩))
  (try rw[Exit.noGoto_ret]);exact bodyPost_ret (by simp[results,OL,go_sem]) rfl (jg 9 (by decide) (Below.refl _ _))
 rw[if_neg h9] at K;have Iq:(((au l p 5:Nat):Int)==0)=false:=by simp[h9]
 have eE:=cW l p 5;generalize au l p 5=q at*;have kz:=O K;have J2:(p:Int)<=8*(n:Int):=by omega
 have Io:(n:Int)<=1099511627776:=by omega
 clear hA hn hp h5 h9 K hsz eE
 go_enter Ob,OZ
 go_wp2_with fail
 go_step3
 go_wp2_with (first|(go_at_call 84;refine(CC.out _).mono ?_;rintro e M ⟨rfl,rfl⟩)|(go_at_call 56;refine R5.out.mono ?_;rintro e M ⟨rfl,rfl⟩))
 go_step3
 go_wp2_with fail
 go_loopg [10,11] 33 (λgk v k=> λwr=>∃(pre:List UInt8),OA pre+gk=33/\k=Z V (((5+9*OA pre:Nat)):Int)/\Hid (rm l (p+5) pre)/\Hid (ar w [] [⟨w.heap.size,5,1,v,OA pre,pre.map af⟩] wr))
 case atStart=>exact⟨[],rfl,rfl,O (rR _ _),O (fd (ju w) _ _ _)⟩
 case round=>
  obtain⟨pre,hj,rfl,HS,HC⟩:=hrel;obtain⟨A5,c5,hv⟩:=aP HC.out.2.2.head;dsimp only at hv;subst hv;have I:=HS.out.le;obtain⟨j,B⟩:∃j,OA pre=j:=⟨_,rfl⟩;obtain⟨s,hs⟩:∃s,p+5+9*j=s:=⟨_,rfl⟩;have G:=HS.out.eq;rw[B,hs] at G;rw[B] at I hj⊢;have ja:=O B;have Ip:=O hs;have hU:Hid (ar w [] [⟨w.heap.size,5,1,OG A5 j c5,j,pre.map af⟩] wr):=O (by have h:=HC.out;rw[B] at h;exact h);have K0:OB.wrap ((p:Int)+((5+9*j:Nat):Int))=(s:Int):=(by rw[Y];omega);have dE:OB.wrap ((s:Int)+1)=(s:Int)+1:=(by rw[Y];omega);have aB:OB.wrap (((5+9*j:Nat):Int)+9)=((5+9*(j+1):Nat):Int):=(by rw[Y];omega);have aC:OB.wrap (((5+9*j:Nat):Int)+1)=((s+1:Nat):Int) - (p:Int):=(by rw[Y];omega);have C:=kz.out;rw[G] at C
  by_cases h1:8*n<s+1
  ·have C1:=O (λW=>RM.out (s:Int) 1 W (by omega) (by decide) (by decide) (by omega))
   rw[um (by rw[HN.out];exact h1),if_neg (by simp)] at C;subst C;clear hj B hs G I h1 RM RD dE aB aC;generalize ((5+9*j:Nat):Int)=kk at*;go_wp2_with (go_at_call 56;refine(C1.out _).mono ?_;rintro e M ⟨rfl,rfl⟩)
   (try rw[Exit.noGoto_ret]);exact bodyPost_ret (by simp[results,OL,go_sem]) rfl (jg 5 (by decide) HC.out.1)
  have R1:=O (RD.out (aS l s:Nat) (s:Int) 1 wr (by rw[OK,show (1:Int).toNat=1 from rfl,gW]) (HA.out.below HC.out.1) (by omega) (by decide) (by decide) (by omega))
  by_cases hb:aS l s=0
  ·rw[oJ (by rw[HN.out];omega) hb,if_pos (by rfl)] at C
   have D:((aS l s:Nat):Int)=0:=(by omega);rw[D] at R1;subst C;clear hj hs G I h1 RM RD dE aB hb D;generalize ((5+9*j:Nat):Int)=kk at*;go_wp2_with (go_at_call 56;refine R1.out.mono ?_;rintro e M ⟨rfl,rfl⟩)
   (try rw[Exit.noGoto_ret]);refine bodyPost_ret (v:=OU #[Z V (q:Int),OG A5 j c5,Z V ((s:Int)+1 - (p:Int)),Z V 0]) (by simp[results,OL,go_sem]) rfl ⟨OG A5 j c5,?_,HC.out.1,?_⟩
   ·unfold dR
    rw[if_pos (by rfl)];simp
   ·have h:=HC.out.2.2.head
    simp only[List.append_nil];rw[B] at h⊢;exact h
  have cz:=kD l s hb;have D:((aS l s:Nat):Int)=1:=(by omega);rw[D] at R1;have T:((j:Int)==32)=decide (j=32):=by rw[Od];simp;omega
  by_cases N:j=32
  ·have e0:32 - j=0:=by omega
   rw[e0,rP (by rw[HN.out];omega) hb,if_neg (by simp)] at C;have rX:((j:Int)==32)=true:=(by rw[T];simpa using N);subst C;clear hj hs G I h1 RM RD dE aB aC hb D cz T e0 N;generalize ((5+9*j:Nat):Int)=kk at*;go_wp2_with (go_at_call 56;refine R1.out.mono ?_;rintro e M ⟨rfl,rfl⟩)
   (try rw[Exit.noGoto_ret]);exact bodyPost_ret (by simp[results,OL,go_sem]) rfl (jg 4 (by decide) HC.out.1)
  have rX:((j:Int)==32)=false:=(by rw[T];simpa using N);have e1:32 - j=(31 - j)+1:=by omega
  by_cases h9:8*n<s+9
  ·have C8:=O (λW=>RM.out ((s:Int)+1) 8 W (by omega) (by decide) (by decide) (by omega))
   rw[e1,rQ (by rw[HN.out];omega) hb (by rw[HN.out];exact h9),if_neg (by simp)] at C;subst C;clear hj hs G I h1 RM RD aB aC hb D cz T e1 N h9;generalize ((5+9*j:Nat):Int)=kk at*;go_wp2_with fail
   refine R1.out.mono ?_;rintro e M ⟨rfl,rfl⟩;go_wp2_with fail
   refine(C8.out _).mono ?_;rintro e M ⟨rfl,rfl⟩;go_wp2_with fail
   (try rw[Exit.noGoto_ret]);exact bodyPost_ret (by simp[results,OL,go_sem]) rfl (jg 5 (by decide) HC.out.1)
  have R8:=O (RD.out (au l (s+1) 8:Nat) ((s:Int)+1) 8 wr (by rw[show ((s:Int)+1).toNat=s+1 by omega];rfl) (HA.out.below HC.out.1) (by omega) (by decide) (by decide) (by omega));have hx:=cW l (s+1) 8;have bE:=O (HS.out.next (by rw[B];omega) (by rw[B,hs];exact hb) (by rw[B,hs,HN.out];omega));rw[B,hs] at bE;obtain⟨x,fW⟩:∃x,au l (s+1) 8=x:=⟨_,rfl⟩;rw[fW] at R8 bE hx;have K1:IntKind.u8.wrap (x:Int)=(x:Int):=(by rw[IntKind.wrap_u8];omega);have gy:Hid (af (UInt8.ofNat x)=Z .u8 (x:Int)):=O (by unfold af;rw[gG _ (by omega)]);have wj:j<=32:=(by omega);have hg:∃g,gk=g+1:=⟨gk - 1,by omega⟩;obtain⟨g,rfl⟩:=hg;have HJ:=O hj;clear hj hs G I h1 RM RD aC hb D cz T e1 N h9 C fW hx;obtain⟨k2,dt⟩:∃k:Int,((5+9*(j+1):Nat):Int)=k:=⟨_,rfl⟩;rw[dt] at aB;have jT:=O dt;clear dt;generalize ((5+9*j:Nat):Int)=kk at*;go_wp2_with fail
  refine R1.out.mono ?_;rintro e M ⟨rfl,rfl⟩;go_wp2_with fail
  refine R8.out.mono ?_;rintro e M ⟨rfl,rfl⟩;go_wp2_with (at_builtin;refine bW jw rfl rfl 1 [Z .u8 (x:Int)] rfl hU.out rfl rfl (by intro u hu;simp at hu;subst hu;rfl) (by omega) ⟨OJ _,HC.out.1.size⟩ (by simp) (by simp) ?_;intro v6 W6 dY;have gJ:=O dY;clear dY)
  go_roundg g
  case measure=>omega
  case rel=>
   have dD:(pre++[UInt8.ofNat x]).length=j+1:=(by rw[OI,OH,ja.out]);refine⟨pre++[UInt8.ofNat x],by rw[dD];have:=HJ.out;omega,?_,O bE.out,O ?_⟩
   ·rw[dD,jT.out]
   ·have h:=gJ.out
    rw[dD,Oe,List.map_singleton,gy.out];exact h
def il (l:List UInt8) (p:Nat) (j:Int) (k:Nat):Int×Nat×Int:=if j≠0 then(0,p,j) else if 8*OA l<p+k then(0,p,5) else((au l p k:Nat),p+k,0)
def db (A:Option Addr) (n c:Nat) (p:Nat) (j:Int):Array Value:= #[OG A n c,Z V (p:Int),Z V j]
structure Hd (g:Nat) (A:Option Addr) (n c:Nat) (r:Int×Nat×Int) (w:World) (e:Ending) (w':World):Prop where
 e:e=OE (Z V r.1)
 b:ab w' g 163 (db A n c r.2.1 r.2.2)
 gb:w.grownBy w' (some g)
theorem lM (w:World)(g:Nat):w.grownBy w.drew (some g):=dw (Below.refl _ _).drew (OJ _)
theorem Gg {K:World->Prop}(D:lq K){A B:World}{g:Nat}{t:TypeId}{cs:Array Value}(h:K A)(G:A.grownBy B (some g))(C:ab A g t cs):K B:=
 D A B h (λi o j I=>(G.block i (Array.getElem?_eq_some_iff.1 j).1 (λe=>by
  cases e
  unfold ab at C;rw[C] at j;cases j;cases I)).trans j)
theorem iT {g k:Nat}{t:TypeId}{cs:Array Value}{w w':World}(h:ab w k t cs)(B:w.grownBy w' (some g))(j:k≠g):ab w' k t cs:=h.grown B (λe=>by cases e;exact j rfl)
theorem oz (g:Nat)(A:Option Addr)(n c:Nat)(l:List UInt8)(p:Nat)(G:Int)(k:Nat)(w:World)(M:ab w g 163 (db A n c p G))(hA:Sl w A (l.map af))(hn:OA l=n)(hsz:n<=2 ^ 40)(hp:p<=8*n)(hk:k<=32):
  Calls OD 141 #[OV (some ⟨g,0,none⟩),Z V (k:Int)] w (Hd g A n c (il l p G k) w):=by
 have HB:=O M;have HA:=O hA;have HN:=O hn;obtain⟨r,T⟩:∃r,il l p G k=r:=⟨_,rfl⟩;rw[T];unfold il at T;unfold db at M;have z0:=M.cell 0;have z1:=M.cell 1;have z2:=M.cell 2;have f1:=M.frozen 1;have f2:=M.frozen 2;(try dsimp only at z0 z1 z2 f1 f2)
 by_cases K:G≠0
 ·rw[if_pos K] at T
  subst T;have hq:(G !=0)=true:=(by simpa using K);clear M hA hn
  go_enter OX,OW
  go_wp2_with fail
  go_ret;exact⟨rfl,HB.out,tV _ _⟩
 rw[if_neg K] at T;have bE:G=0:=by omega
 subst bE;have C:=O (show ab w.drew g 163 (db A n c p 0) from HB.out)
 by_cases N:8*OA l<p+k
 ·rw[if_pos N] at T
  subst T;have CR:=dq A n c (p:Int) (k:Int) w.drew (by omega) (by omega) (by omega) (by omega) (by omega);have j:=C.out.set_ 2 (Z V 5);unfold db at j;simp only[U,J,X] at j;have aC:=O j;have u0:=j.cell 1;(try dsimp only at u0);have aB:=O CR;clear M hA hn j CR N
  go_enter OX,OW
  go_wp2_with fail
  refine bf (λw'=>ab w' g 163 (db A n c p 0)) 14 (OF 0 (OF 1 (OF 2 (OF 3 (OF 4 (OF 5 (OF 6 (OF 7 (OF 8 (Of 9 (OF 10 (OF 11 (OF 12 (Of 13 .done)))))))))))))) (C.out) (λPE I=>?_)
  iterate 9
   refine aj (v:=?_) rfl (by rfl) ?_ ?_
   rotate_left
   ·intro _ B;(try dsimp only at B);have q:=B;unfold db at q;have y0:=q.cell 0;have y1:=q.cell 1;(try dsimp only at y0 y1);go_simp;(try with_reducible rfl)
   simp only[U,J,X]
  refine aX (f:=56) rfl (by rfl) (by first|(go_simp;done)|(go_simp;rfl)) aB.out ?_;rintro e w2 ⟨rfl,rfl⟩;refine⟨_,rfl,_,λ_ h=>h,C.out,?_⟩;simp only[U,J,X]
  iterate 3
   refine aj (v:=?_) rfl (by rfl) ?_ ?_
   rotate_left
   ·intro _ B;(try dsimp only at B);go_simp;(try with_reducible rfl)
   simp only[U,J,X]
  refine az (v:=?_) (w':=?_) rfl (by rfl) ?_ ?_ ?_;rotate_left 2
  ·go_simp;(try (constructor<;>with_reducible rfl))
  ·exact C.out
  simp only[U,J,X];refine I _ _ ?_;clear I PE;simp only[ON,OQ];go_wp2_with fail
  refine⟨rfl,?_⟩;go_wp2_with fail
  go_ret;exact⟨rfl,aC.out,(lM w g).trans (hO _ _ _ _)⟩
 ·rw[if_neg N] at T
  subst T;have CR:=kE A n c l (p:Int) (k:Int) w.drew HA.out hn (by omega) (by omega) (by omega) (by omega) (by omega);rw[OK,OK] at CR;have j:=C.out.set_ 2 (Z V 0);unfold db at j;simp only[U,J,X] at j;have D:=j.set_ 1 (Z V ((p:Int)+(k:Int)));simp only[U,J,X] at D;have aC:Hid (ab ((w.drew.setCell ⟨g,2,none⟩ (Z V 0)).setCell ⟨g,1,none⟩ (Z V ((p:Int)+(k:Int)))) g 163 (db A n c (p+k) 0)):=O (by unfold db;rw[show ((p+k:Nat):Int)=(p:Int)+(k:Int) by omega];exact D);have u0:=j.cell 1;have u1:=j.frozen 1;(try dsimp only at u0 u1);have cz:OB.wrap ((p:Int)+(k:Int))=(p:Int)+(k:Int):=(by rw[Y];omega);have aB:=O CR;clear M hA hn j D CR N;generalize au l p k=x at*
  go_enter OX,OW
  go_wp2_with fail
  refine bf (λw'=>ab w' g 163 (db A n c p 0)) 14 (OF 0 (OF 1 (OF 2 (OF 3 (OF 4 (OF 5 (OF 6 (OF 7 (OF 8 (Of 9 (OF 10 (OF 11 (OF 12 (Of 13 .done)))))))))))))) (C.out) (λPE I=>?_)
  iterate 9
   refine aj (v:=?_) rfl (by rfl) ?_ ?_
   rotate_left
   ·intro _ B;(try dsimp only at B);have q:=B;unfold db at q;have y0:=q.cell 0;have y1:=q.cell 1;(try dsimp only at y0 y1);go_simp;(try with_reducible rfl)
   simp only[U,J,X]
  refine aX (f:=56) rfl (by rfl) (by first|(go_simp;done)|(go_simp;rfl)) aB.out ?_;rintro e w2 ⟨rfl,rfl⟩;refine⟨_,rfl,_,λ_ h=>h,C.out,?_⟩;simp only[U,J,X]
  iterate 3
   refine aj (v:=?_) rfl (by rfl) ?_ ?_
   rotate_left
   ·intro _ B;(try dsimp only at B);go_simp;(try with_reducible rfl)
   simp only[U,J,X]
  refine az (v:=?_) (w':=?_) rfl (by rfl) ?_ ?_ ?_;rotate_left 2
  ·go_simp;(try (constructor<;>with_reducible rfl))
  ·exact C.out
  simp only[U,J,X];refine I _ _ ?_;clear I PE;simp only[ON,OQ];go_wp2_with fail
  refine⟨rfl,?_⟩;go_wp2_with fail
  go_ret;exact⟨rfl,aC.out,((lM w g).trans (hO _ _ _ _)).trans (hO _ _ _ _)⟩
theorem ob (f:Int)(j:f=0\/f=1)(w:World):Calls OD 123 #[Z V f] w λe w'=>e=OE (Z V (jI f))/\w=w':=by
 rcases j with rfl|rfl
 all_goals
  go_enter Tryz.func123,Tryz.ntmps123
  go_wp2_with fail
  go_ret
  exact⟨rfl,rfl⟩
theorem qM (f:Int)(j:f=0\/f=1)(w:World):Calls OD 73 #[Z V f] w λe w'=>e=OE (OC true)/\w=w':=by
 have C:=O (ob f j w);rcases j with rfl|rfl
 all_goals
  go_enter Tryz.func73,Tryz.ntmps73
  go_wp2_with (go_at_call 123;refine C.out.mono ?_;rintro e B ⟨rfl,rfl⟩)
  go_ret
  exact⟨rfl,rfl⟩
theorem Cn (f:Int)(j:f=0\/f=1)(w:World):Calls OD 219 #[Z V f] w λe w'=>e=OE (Z V (jA f))/\w=w':=by
 have C:=O (ob f j w);rcases j with rfl|rfl
 all_goals
  go_enter Tryz.func219,Tryz.ntmps219
  go_wp2_with (go_at_call 123;refine C.out.mono ?_;rintro e B ⟨rfl,rfl⟩)
  go_ret
  exact⟨by kernel_rfl,rfl⟩
theorem Co (f:Int)(j:f=0\/f=1)(w:World):Calls OD 124 #[Z V f] w λe w'=>e=OE (Z V (2 - f))/\w=w':=by
 rcases j with rfl|rfl
 all_goals
  go_enter Tryz.func124,Tryz.ntmps124
  go_wp2_with fail
  go_ret
  exact⟨rfl,rfl⟩
theorem Cm (f:Int)(j:f=0\/f=1)(w:World):Calls OD 179 #[Z V f] w λe w'=>e=OE (OU #[Z V (jI f),Z V (jA f),Z V (jI f*jA f*3 / 2),Z V 0])/\w=w':=by
 have C:=O (ob f j w);have D:=O (Cn f j w);have E:=O (qM f j w);rcases j with rfl|rfl
 all_goals
  go_enter Tryz.func179,Tryz.ntmps179
  go_wp2_with (first|(go_at_call 123;refine C.out.mono ?_;rintro e B ⟨rfl,rfl⟩)|(go_at_call 219;refine D.out.mono ?_;rintro e B ⟨rfl,rfl⟩)|(go_at_call 73;refine E.out.mono ?_;rintro e B ⟨rfl,rfl⟩))
  refine bodyPost_ret (by simp[results,Tryz.results179,go_sem];kernel_rfl) rfl ⟨rfl,rfl⟩
theorem xx (f g a:Int)(hf:f=0\/f=1)(hg:1<=g/\g<=12)(ha:1<=a/\a<=33)(w:World):Calls OD 218 #[Z V f,Z V g,Z V a] w λe w'=>e=OE (OU #[Z V (gq f g a),Z V (gr g a)])/\w=w':=by
 obtain⟨I,K⟩:=hg;obtain⟨D,G⟩:=ha;have w1:OB.wrap (a - 1)=a - 1:=by rw[Y];omega
 have w2:OB.wrap (g - 1)=g - 1:=by rw[Y];omega
 have t1:(a - 1).tmod 11=(a - 1) % 11:=OS (by omega);have t2:(a - 1).tdiv 11=(a - 1) / 11:=OR (by omega);have t3:(g - 1).tmod 2=(g - 1) % 2:=OS (by omega);have t4:(g - 1).tdiv 2=(g - 1) / 2:=OR (by omega);have M:0<=(a - 1) % 11/\(a - 1) % 11<11:=by omega
 have N:0<=(a - 1) / 11/\(a - 1) / 11<3:=by omega
 have T:0<=(g - 1) % 2/\(g - 1) % 2<2:=by omega
 have b4:0<=(g - 1) / 2/\(g - 1) / 2<6:=by omega
 unfold gq gr;generalize (a - 1) % 11=B at*;generalize (a - 1) / 11=j at*;generalize (g - 1) % 2=C at*;generalize (g - 1) / 2=r4 at*;have v1:OB.wrap j=j:=by rw[Y];omega
 have v2:OB.wrap r4=r4:=by rw[Y];omega
 have v3:OB.wrap (B*16)=B*16:=by rw[Y];omega
 have v4:OB.wrap (j*16)=j*16:=by rw[Y];omega
 have v5:OB.wrap (C*176)=C*176:=by rw[Y];omega
 have v6:OB.wrap (r4*48)=r4*48:=by rw[Y];omega
 have v7:OB.wrap (B*16+C*176)=B*16+C*176:=by rw[Y];omega
 have v8:OB.wrap (j*16+r4*48)=j*16+r4*48:=by rw[Y];omega
 clear M N T b4 I K D G;rcases hf with rfl|rfl
 ·skip
  go_enter Oi,Og
  go_wp2_with fail
  go_ret2;exact⟨by simp,rfl⟩
 ·skip
  go_enter Oi,Og
  go_wp2_with fail
  go_ret2;exact⟨by simp,rfl⟩
def tH (f:Int) (w:World) (e:Ending) (w':World):Prop:=∃A c,e=OE (OG A (aJ f).length c)/\w'.ownsRow w.heap.size 3 1 (OG A (aJ f).length c) (aJ f).length ((aJ f).map aE)/\Below w.heap.size w w'
def jy (f:Int) (j:Nat):Int:=1+(j:Int)*(2 - f)
theorem Ej (f:Int)(C:f=0\/f=1)(j:Nat)(B:j<(aJ f).length):(aJ f).take (j+1)=(aJ f).take j++[jy f j]:=by
 rcases C with rfl|rfl
 ·have:∀k:Fin 3,(aJ 0).take (k.1+1)=(aJ 0).take k.1++[jy 0 k.1]:=by decide
  exact this ⟨j,B⟩
 ·have:∀k:Fin 12,(aJ 1).take (k.1+1)=(aJ 1).take k.1++[jy 1 k.1]:=by decide
  exact this ⟨j,B⟩
theorem xy (f:Int)(G:f=0\/f=1)(w:World):Calls OD 74 #[Z V f] w (tH f w):=by
 unfold tH;have gJ:∀j:Nat,f=0->(aJ f).length=3:= λ_ h=>by subst h;rfl
 have HT:=O (Ej f G);have dY:=O (λW=>Co f G W);obtain⟨L,D⟩:∃L,(aJ f).length=L:=⟨_,rfl⟩;obtain⟨M,hM⟩:∃M:Int,M=if f=1 then 12 else 5:=⟨_,rfl⟩
 have T:∀j:Nat,j<=L->(jy f j<=M↔j<L):=by
  rcases G with rfl|rfl
  ·have D:3=L:=D
   rw[if_neg (by decide)] at hM;intro j hj;unfold jy;omega
  ·have D:12=L:=D
   rw[if_pos rfl] at hM;intro j hj;unfold jy;omega
 have jT:L<=12:=by rw[<-D];unfold aJ;split<;>decide
 have N:=O T;have HL:=O D;rw[D];have C:∀j:Nat,jy f j+(2 - f)=jy f (j+1):= λj=>by unfold jy;rcases G with rfl|rfl<;>omega
 have dE:=O C;have aC:∀j:Nat,j<=12->1<=jy f j/\jy f j<=25:= λj hj=>by unfold jy;rcases G with rfl|rfl<;>omega
 have K:=O aC;have dD:Hid (jy f 0=1):=O (by unfold jy;simp);clear gJ T D C aC
 have fW:(f==1)=true/\M=12\/(f==1)=false/\M=5:=by
  rcases G with rfl|rfl
  ·exact .inr ⟨rfl,by rw[hM];rfl⟩
  ·exact .inl ⟨rfl,by rw[hM];rfl⟩
 clear hM G;rcases fW with⟨gy,rfl⟩|⟨gy,rfl⟩
 all_goals
  go_enter Tryz.func74,Tryz.ntmps74
  go_wp2_with fail
  go_loopg [2,4] L (λgk v i=> λwr=>∃(j:Nat),j+gk=L/\i=Z V (jy f j)/\Hid (ar w [] [⟨w.heap.size,3,1,v,j,((aJ f).take j).map aE⟩] wr))
  case atStart=>exact⟨0,by omega,by rw[dD.out],O (fd (ju w) _ _ _)⟩
  case round=>
   obtain⟨j,hj,rfl,I⟩:=hrel;obtain⟨A,c,hv⟩:=aP I.out.2.2.head;dsimp only at hv;subst hv;have hb:=K.out j (by omega);have B:=dE.out j
   cases gk with
   |zero=>
    have hU:j=L:=(by omega);subst hU;have bE:¬(jy f j<=_):= λh=>Nat.lt_irrefl _ ((N.out j (OJ _)).1 h);generalize jy f j=q at*;clear hb B;go_wp2_with fail
    go_ret;refine⟨A,c,rfl,?_,I.out.1⟩;have h:=I.out.2.2.head;(try dsimp only at h);rw[List.take_of_length_le (by rw[HL.out];exact OJ _)] at h;exact h
   |succ g=>
    have bE:=(N.out j (by omega)).2 (by omega);have cz:=HT.out j (by rw[HL.out];omega);have eE:=O cz;have HJ:=O hj;have ja:=O B;obtain⟨q,hq⟩:∃q,jy f j=q:=⟨_,rfl⟩;have HQ:=O hq;rw[hq] at hb bE B
    have rX:OB.wrap (q+(2 - f))=jy f (j+1):=by
     have:=K.out (j+1) (by omega);rw[B,Y];omega
    rw[hq];have kz:j<=12:=(by omega);clear hb B cz hj hq;go_wp2_with (first|(at_builtin;refine bW gt rfl rfl 1 [Z V q] rfl I.out rfl rfl (by intro u hu;simp at hu;subst hu;rfl) (by omega) ⟨OJ _,I.out.1.size⟩ (by simp) (by simp) ?_;intro v5 W5 aB;have dt:=O aB;clear aB)|(go_at_call 124;refine(dY.out _).mono ?_;rintro e w2 ⟨rfl,rfl⟩))
    go_roundg g
    case measure=>omega
    case rel=>
     refine⟨j+1,by have:=HJ.out;omega,rfl,O ?_⟩;rw[eE.out,Oe,HQ.out];exact dt.out
def Hv (w:World) (e:Ending) (w':World):Prop:=w=w'/\∃k:Nat,e=OE (Z V (k:Int))
theorem Ek (A:Option Addr)(n c:Nat)(l:List Int)(x:Int)(w:World)(T:Sl w A (l.map aE))(hn:OA l=n)(hsz:n<=1000)(hx:x∈l):Calls OD 251 #[OG A n c,Z V x] w (Hv w):=by
 have HA:=O T;have M:=O hn;have HX:=O hx;clear T hn hx
 go_enter Tryz.func251,Tryz.ntmps251
 go_wp2_with fail
 go_loopg [8] n (λgk i=> λwr=>∃(j:Nat),j+gk=n/\i=Z V (j:Int)/\wr=w/\Hid (∀k (h:k<OA l),k<j->l[k]≠x))
 case atStart=>exact⟨0,by omega,rfl,rfl,O (λk h h2=>by omega)⟩
 case round=>
  obtain⟨j,D,rfl,rfl,K⟩:=hrel
  cases gk with
  |zero=>
   obtain⟨k,hk,I⟩:=List.getElem_of_mem HX.out;exact absurd I (K.out k hk (by have:=M.out;omega))
  |succ g=>
   have aC:((j:Int)<(n:Int)):=(by omega);have aB:¬((j:Int)<0):=(by omega);have G:j<(OA l):=(by rw[M.out];omega);obtain⟨ad,rfl,_,hc⟩:=HA.out.int j G;obtain⟨y,hy⟩:∃y,l[j]=y:=⟨_,rfl⟩;rw[hy] at hc;have bE:OB.wrap ((j:Int)+1)=(j:Int)+1:=(by rw[Y];omega);have HY:=O hy;have B:=O D
   cases he:(x==y) with
   |true=>
    clear D;go_wp2_with fail
    go_ret;exact⟨rfl,j,rfl⟩
   |false=>
    have C:Hid (y≠x):=O (λe=>by subst e;simp at he);clear D;go_wp2_with fail
    go_roundg g
    case measure=>omega
    case rel=>
     refine⟨j+1,by have:=B.out;omega,rfl,rfl,O λk h hk=>?_⟩;rcases Oh k j with N|N
     ·exact K.out k h N
     ·obtain rfl:k=j:=by omega
      rw[HY.out];exact C.out
theorem xf (A:Option Addr)(n c:Nat)(l:List Int)(x:Int)(w:World)(j:Sl w A (l.map aE))(B:OA l=n)(hsz:n<=1000)(D:x∈l):Calls OD 217 #[OG A n c,Z V x] w λe w'=>e=OE (OC true)/\w=w':=by
 have C:=O (Ek A n c l x w j B hsz D);clear j B D
 go_enter Tryz.func217,Tryz.ntmps217
 go_wp2_with (go_at_call 251;refine C.out.mono ?_;rintro e I ⟨rfl,k,rfl⟩;have G:(0:Int)<=(k:Int):=by omega)
 go_ret;exact⟨rfl,rfl⟩
theorem ma (f:Int)(j:f=0\/f=1)(w:World):Calls OD 38 #[Z V f] w λe w'=>∃A c,e=OE (OU #[OG A (aJ f).length c,Z V 0])/\w'.ownsRow w.heap.size 3 1 (OG A (aJ f).length c) (aJ f).length ((aJ f).map aE)/\Below w.heap.size w w':=by
 have C:=O (qM f j w);have D:=O (xy f j w);unfold tH at D;clear j;generalize (aJ f).length=n at*;generalize (aJ f).map aE=xs at*
 go_enter Tryz.func38,Tryz.ntmps38
 go_wp2_with (first|(go_at_call 73;refine C.out.mono ?_;rintro e M ⟨rfl,rfl⟩)|(go_at_call 74;refine D.out.mono ?_;rintro e M ⟨A,c,rfl,G,B⟩;have K:=O G;have I:=O B;clear G B))
 go_ret2;exact⟨A,c,rfl,K.out,I.out⟩
theorem jz {f g:Int}(j:g∈aJ f):1<=g/\g<=12:=by
 unfold aJ at j
 split at j
 ·simp at j;omega
 ·simp at j;omega
theorem xw (f g a:Int)(G:f=0\/f=1)(I:g∈aJ f)(N:1<=a/\a<=33)(w:World):Calls OD 178 #[Z V f,Z V g,Z V a] w λe w'=>e=OE (OU #[Z V (gq f g a),Z V (gr g a),Z V 0])/\Below w.heap.size w w':=by
 have C:=O (ma f G w);have D:=O (λA n c W h1 h2 h3=>xf A n c (aJ f) g W h1 h2 h3 I);have E:=O (λW=>xx f g a G (jz I) N W);have HL:Hid ((aJ f).length<=12):=O (iw f);obtain⟨j,B⟩:=N;have k1:decide (a<1)=false:=by simp;omega
 have k2:decide (33<a)=false:=by simp;omega
 obtain⟨n,K⟩:∃n,(aJ f).length=n:=⟨_,rfl⟩;rw[K] at C;have M:=O K;generalize gq f g a=vx at*;generalize gr g a=vy at*;clear G I j B K
 go_enter Tryz.func178,Tryz.ntmps178
 go_wp2_with (first|(go_at_call 38;refine C.out.mono ?_;rintro e w2 ⟨A,c,rfl,hs,T⟩;have HS:=O (fM hs);have HB:=O T;clear hs T)|(go_at_call 217;refine(D.out _ _ _ _ HS.out M.out (by have:=HL.out;have:=M.out;omega)).mono ?_;rintro e w3 ⟨rfl,rfl⟩)|(go_at_call 218;refine(E.out _).mono ?_;rintro e w4 ⟨rfl,rfl⟩))
 go_ret3;exact⟨rfl,HB.out⟩
def xI (w h x y:Int):Bool:=decide (0<=x)&&decide (x<w)&&decide (0<=y)&&decide (y<h)
theorem Es (v:Value)(w h x y:Int)(W:World)(C:v=OG none 0 0):Calls OD 180 #[.agg #[v,Z V w,Z V h],Z V x,Z V y] W λe B=>e=OE (OC (xI w h x y))/\Below W.heap.size W B:=by
 subst C;have j:=O ((Below.refl _ W).alloc (OJ _) (OM #[OG none 0 0,Z V w,Z V h] 201));unfold xI
 cases D:decide (0<=x) with
 |false=>
  go_enter OP,OO
  go_wp2_with fail
  go_ret;exact⟨rfl,j.out⟩
 |true=>
  cases h2:decide (x<w) with
  |false=>
   go_enter OP,OO
   go_wp2_with fail
   go_ret;exact⟨rfl,j.out⟩
  |true=>
   cases G:decide (0<=y) with
   |false=>
    go_enter OP,OO
    go_wp2_with fail
    go_ret;exact⟨rfl,j.out⟩
   |true=>
    cases I:decide (y<h) with
    |false=>
     go_enter OP,OO
     go_wp2_with fail
     go_ret;exact⟨rfl,j.out⟩
    |true=>
     go_enter OP,OO
     go_wp2_with fail
     go_ret;exact⟨rfl,j.out⟩
theorem JA (f g a x y:Int):pu f g a x y=(xI (jI f) (jA f) (gq f g a+x) (gr g a+y)&&xI (jI f) (jA f) (gq f g a+x+15) (gr g a+y+15)):=by
 unfold pu xI;generalize gq f g a=p;generalize gr g a=q;generalize jI f=w;generalize jA f=h;rw[Od];simp only[Oc,decide_eq_true_eq];omega
theorem su {f g a:Int}(j:f=0\/f=1)(C:1<=g/\g<=12)(B:1<=a/\a<=33):0<=gq f g a/\gq f g a<=1000/\0<=gr g a/\gr g a<=1000:=by
 unfold gq gr;rcases j with rfl|rfl
 ·rw[if_neg (by decide)];omega
 ·rw[if_pos rfl];omega
theorem zE (f g a x y:Int)(hf:f=0\/f=1)(hg:g∈aJ f)(ha:1<=a/\a<=33)(hx: -15<=x/\x<=15)(hy: -15<=y/\y<=15)(w:World):
  Calls OD 131 #[.agg #[Z V f,Z V g,Z V a],Z V x,Z V y] w λe w'=>e=OE (Z V (if pu f g a x y then 0 else 12))/\Below w.heap.size w w':=by
 rw[JA];have cz:=su hf (jz hg) ha;have C:=O (λW=>xw f g a hf hg ha W);have D:=O (λW=>Cm f hf W)
 obtain⟨mx,dD,dt⟩:∃mx:Int,(∀(ts:Array TypeId)(t:TypeId)(W:World),(Builtin.max_ ts t #[Z V x,Z V (-x),Z V y,Z V (-y)]).run OD W= .ok (Z V mx) W)/\mx<=15:=by
  refine⟨_,λ_ _ _=>rfl,?_⟩
  repeat' split
  all_goals omega
 have bE:¬(min x y< -15):=by omega
 have k1:decide (15<mx)=false:=by simp;omega
 have k2:decide (min x y< -15)=false:=by simpa using bE
 have n1:OB.wrap (-x)= -x:=by rw[Y];omega
 have n2:OB.wrap (-y)= -y:=by rw[Y];omega
 generalize jI f*jA f*3 / 2=sz at*;have M:=O (λu v W=>Es (OG none 0 0) (jI f) (jA f) u v W rfl);generalize gq f g a=p at*;generalize gr g a=q at*;generalize jI f=wd at*;generalize jA f=hi at*;obtain⟨c1,c2,c3,c4⟩:=cz;obtain⟨x1,x2⟩:=hx;obtain⟨y1,y2⟩:=hy;have v1:OB.wrap (p+x)=p+x:=by rw[Y];omega
 have v2:OB.wrap (q+y)=q+y:=by rw[Y];omega
 have v3:OB.wrap (p+x+15)=p+x+15:=by rw[Y];omega
 have v4:OB.wrap (q+y+15)=q+y+15:=by rw[Y];omega
 have T:=O ((Below.refl _ w).alloc (OJ _) (OM #[Z V f,Z V g,Z V a] 118));have aC:=O (ab.new w 118 #[Z V f,Z V g,Z V a]);have MA:=O (λW=>M.out (p+x) (q+y) W);have MB:=O (λW=>M.out (p+x+15) (q+y+15) W);generalize xI wd hi (p+x) (q+y)=b1 at*;generalize xI wd hi (p+x+15) (q+y+15)=b2 at*;clear hf hg ha dt c1 c2 c3 c4 x1 x2 y1 y2 M
 go_enter Tryz.func131,Tryz.ntmps131
 go_wp2_with (first|(go_at_call 178;refine(C.out _).mono ?_;rintro e w2 ⟨rfl,j⟩;have aB:=O (T.out.trans (j.mono T.out.size));have N:=aC.out.below j aC.out.lt;have z0:=N.cell 0;(try dsimp only at z0);clear N j)|(go_at_call 179;refine(D.out _).mono ?_;rintro e w3 ⟨rfl,rfl⟩))
 obtain⟨k,hk⟩:∃k,w2.heap.size=k:=⟨_,rfl⟩;have hp:=aH (ab.new w2 201 #[OG none 0 0,Z V wd,Z V hi]) hk;have K:=aB.out.alloc aB.out.size (OM #[OG none 0 0,Z V wd,Z V hi] 201);rw[hk];generalize w2.alloc (OM #[OG none 0 0,Z V wd,Z V hi] 201)=w3 at hp K⊢;have HP:=O hp;have G:=O K;clear hp K hk z0;refine(MA.out _).mono ?_;rintro e w4 ⟨rfl,j⟩;have N:=HP.out.below j HP.out.lt;have z0:=N.cell 0;have z1:=N.cell 1;have z2:=N.cell 2;(try dsimp only at z0 z1 z2);have B:=O (G.out.trans (j.mono G.out.size));clear N j HP G
 cases b1 with
 |false=>
  go_wp2_with fail
  go_ret;exact⟨rfl,B.out⟩
 |true=>
  cases b2 with
  |false=>
   go_wp2_with (go_at_call 180;refine(MB.out _).mono ?_;rintro e w5 ⟨rfl,j⟩;have I:=O (B.out.trans (j.mono B.out.size));clear j)
   go_ret;exact⟨rfl,I.out⟩
  |true=>
   go_wp2_with (go_at_call 180;refine(MB.out _).mono ?_;rintro e w5 ⟨rfl,j⟩;have I:=O (B.out.trans (j.mono B.out.size));clear j)
   go_ret;exact⟨rfl,I.out⟩
theorem rc (m:aT)(A:Option Addr)(n c:Nat)(f g:Int)(hm:AL m)(hf:f=0\/f=1)(hg:g∈aJ f)(w:World):
  Calls OD 77 #[Z V f,Z V g,fI m A n c] w λe w'=>e=OE (OC (iM f g m))/\Below w.heap.size w w':=by
 have C:=O (λW=>nA m.kd W);rw[show li m.kd=qy m.kd by unfold li;rw[hm.kd];rfl,show mN m.kd=0 by unfold mN;rw[hm.kd];rfl] at C;have hx:=hm.px;have hy:=hm.py;simp only[aK,Oc,decide_eq_true_eq] at hx hy;have D:=O (λW=>zE f g m.ad m.x m.y hf hg ⟨hm.a1,hm.a2⟩ (by omega) (by omega) W);obtain⟨ad,kd,qu,x,y,pa,bl⟩:=m;unfold iM fI;unfold qy at C;dsimp only at C D⊢;have I:=O ((Below.refl _ w).alloc (OJ _) (OM #[Z V ad,Z V kd,Z V qu,Z V x,Z V y,Z V pa,OG A n c] 55));have K:=O (ab.new w 55 #[Z V ad,Z V kd,Z V qu,Z V x,Z V y,Z V pa,OG A n c]);generalize pI kd=bI at*;generalize pQ kd=bQ at*;generalize pV kd=bV at*;generalize pF kd=bF at*;generalize pC kd=bC at*;generalize pu f g ad x y=b1 at*;clear hm hx hy hf hg;have T:Hid (∀W,Calls OD 106 #[Z V kd] W λe w'=>e=OE (OU #[.agg #[OC bI,OC bQ,OC bV,OC bF,OC bC],Z V 0])/\Below W.heap.size W w'):=O (λW=>C.out W);clear C
 cases bV with
 |false=>
  go_enter Oa,OY
  go_wp2_with (first|(go_at_call 106;refine(T.out _).mono ?_;rintro e w2 ⟨rfl,M⟩;have j:=O (I.out.trans (M.mono I.out.size));have G:=(K.out.below M K.out.lt).alloc (OM #[OC bI,OC bQ,OC false,OC bF,OC bC] 110);have z0:=G.cell 0;have z3:=G.cell 3;have z4:=G.cell 4;(try dsimp only at z0 z3 z4);clear G M)|(go_at_call 131;refine(D.out _).mono ?_;rintro e w3 ⟨rfl,B⟩;have N:=O ((j.out.alloc j.out.size (OM #[OC bI,OC bQ,OC false,OC bF,OC bC] 110)).trans (B.mono (j.out.alloc j.out.size _).size));clear B))
  go_ret;exact⟨rfl,j.out.alloc j.out.size _⟩
 |true=>
  cases b1 with
  |false=>
   go_enter Oa,OY
   go_wp2_with (first|(go_at_call 106;refine(T.out _).mono ?_;rintro e w2 ⟨rfl,M⟩;have j:=O (I.out.trans (M.mono I.out.size));have G:=(K.out.below M K.out.lt).alloc (OM #[OC bI,OC bQ,OC true,OC bF,OC bC] 110);have z0:=G.cell 0;have z3:=G.cell 3;have z4:=G.cell 4;(try dsimp only at z0 z3 z4);clear G M)|(go_at_call 131;refine(D.out _).mono ?_;rintro e w3 ⟨rfl,B⟩;have N:=O ((j.out.alloc j.out.size (OM #[OC bI,OC bQ,OC true,OC bF,OC bC] 110)).trans (B.mono (j.out.alloc j.out.size _).size));clear B))
   go_ret;exact⟨rfl,N.out⟩
  |true=>
   go_enter Oa,OY
   go_wp2_with (first|(go_at_call 106;refine(T.out _).mono ?_;rintro e w2 ⟨rfl,M⟩;have j:=O (I.out.trans (M.mono I.out.size));have G:=(K.out.below M K.out.lt).alloc (OM #[OC bI,OC bQ,OC true,OC bF,OC bC] 110);have z0:=G.cell 0;have z3:=G.cell 3;have z4:=G.cell 4;(try dsimp only at z0 z3 z4);clear G M)|(go_at_call 131;refine(D.out _).mono ?_;rintro e w3 ⟨rfl,B⟩;have N:=O ((j.out.alloc j.out.size (OM #[OC bI,OC bQ,OC true,OC bF,OC bC] 110)).trans (B.mono (j.out.alloc j.out.size _).size));clear B))
   go_ret;exact⟨rfl,N.out⟩
end
section
open Go Go.RowKit
set_option maxRecDepth 100000
open List renaming length→O,length_append→Z,getElem?_eq_getElem→Y,flatMap_append→OA,append_assoc→OB,all_eq_true→OD,append_nil→OE,range→OF,range_succ→OG,getD→OI
open Go.Lib renaming hid→U
open Nat renaming le_refl→V
open Go.IntKind renaming i64→X,wrap_i64→OC,i64→OH
open Go.Value renaming int→J,slice→OL,string→OM
open Tryz renaming prog→OJ
open Go.Ending renaming returned→OK
def fG (x:List UInt8):Nat->List (List UInt8)×Nat
 |0=>([],0)
 |i+1=>if i=(O x)\/x.getD i 0=32 then((fG x i).1++[(x.take i).drop (fG x i).2],i+1) else fG x i
def xn (x:List UInt8):List (List UInt8):=(fG x (O x+1)).1
theorem Ba (x:List UInt8):∀i,(fG x i).2<=i/\(fG x i).1.length<=i
 |0=>⟨V _,V _⟩
 |i+1=>by
  have h:=Ba x i;unfold fG
  split
  ·refine⟨V _,?_⟩
   rw[Z];simp;omega
  ·omega
def kZ (q:Nat) (n:Nat):List (Int×Int):=(OF n).map λk:Nat=>((q:Int),(k:Int)+1)
def fj (r:Nat):List (List UInt8):=(da.take r).flatMap xn
def iO (r:Nat):List (Int×Int):=(OF r).flatMap λq=>kZ q (xn (da.getD q [])).length
theorem xd (r:Nat)(h:r<O da):fj (r+1)=fj r++xn da[r]:=by
 unfold fj;rw[List.take_add_one,Y h,OA];simp
theorem Da (r:Nat)(h:r<O da):iO (r+1)=iO r++kZ r (xn da[r]).length:=by
 unfold iO;rw[OG,OA];simp[List.getD_eq_getElem?_getD,Y h]
theorem EO (q n:Nat):kZ q (n+1)=kZ q n++[((q:Int),(n:Int)+1)]:=by simp[kZ,OG]
theorem GC (q n:Nat):(kZ q n).length=n:=by simp[kZ]
def fO:List (List UInt8):=(aQ false).map (·.2)
def uh:List (Int×Int):=(aQ false).map (·.1)
theorem zt:fj 27=fO:=by kernel_rfl
theorem EP:iO 27=uh:=by kernel_rfl
theorem jt:O fO=63:=by kernel_rfl
theorem oA:O uh=63:=by kernel_rfl
theorem IH:da.all (λx=>decide (O x<=200))=true:=by kernel_rfl
theorem Dj (w:World):Calls OJ 273 #[] w λe w'=>(∃A,e=OK (OL A 27 27)/\Sl w' A (da.map aM))/\Below w.heap.size w w':=by
 go_enter Tryz.func273,Tryz.ntmps273
 go_wp2_with fail
 go_ret;exact⟨⟨_,rfl,ab.sl (ab.new w 9 (da.map aM).toArray) 0⟩,(Below.refl _ _).alloc (V _) _⟩
theorem pL (L:List (Int×Int))(p:Int×Int):av bj (L++[p])=av bj L++[J X p.1,J X p.2]:=by rw[eo,dV];rfl
def m8 (w:World) (j B:Value) (P:List (Int×Int)) (C:List (List UInt8)) (W:World):Prop:=ar w [] [⟨w.heap.size,189,2,j,O P,av bj P⟩,⟨w.heap.size,9,1,B,O C,C.map aM⟩] W
def DN (w:World) (e:Ending) (w':World):Prop:=∃C j B,Below w.heap.size w C/\e=OK (.tuple #[j,B])/\m8 C j B uh fO w'
theorem J1:(OF 28).all (λr=>decide ((iO r).length<=63)&&decide ((fj r).length<=63))=true:=by kernel_rfl
theorem Ed {x:List UInt8}{i:Nat}(h:i=(O x)\/x.getD i 0=32):fG x (i+1)=((fG x i).1++[(x.take i).drop (fG x i).2],i+1):=if_pos h
theorem Id {x:List UInt8}{i:Nat}(h:¬(i=(O x)\/x.getD i 0=32)):fG x (i+1)=fG x i:=if_neg h
theorem G6 {w:World}{j B:Value}{P:List (Int×Int)}{C:List (List UInt8)}{p:Int×Int}{c:List UInt8}{W:World}
  (h:ar w [] [⟨w.heap.size,9,1,B,O C+1,C.map aM++[aM c]⟩,⟨w.heap.size,189,2,j,O P+1,av bj P++[J X p.1,J X p.2]⟩] W):m8 w j B (P++[p]) (C++[c]) W:=by
 unfold m8;rw[pL,List.map_append,Z,Z];exact cM h
set_option maxHeartbeats 4000000 in
theorem qY (w:World):Calls OJ 247 #[] w (DN w):=by
 go_enter Tryz.func247,Tryz.ntmps247
 go_wp2_with fail
 refine(Dj w).mono ?_;rintro e N ⟨⟨A,rfl,hS⟩,dt⟩;have HS:=U hS;have Io:=U dt;have Ip:Hid (m8 N (OL none 0 0) (OL none 0 0) (iO 0) (fj 0) N):=U (fd (fd (ju N) N.heap.size 9 1) N.heap.size 189 2);clear hS dt;go_wp2_with fail
 go_loopg [2,3,5] 27 (λg v1 v2 i=> λwr=>∃(r:Nat),r+g=27/\i=J X (r:Int)/\Hid (m8 N v1 v2 (iO r) (fj r) wr))
 case atStart=>exact⟨0,by omega,rfl,Ip⟩
 case round=>
  obtain⟨r,hr,rfl,HC⟩:=hrel
  cases gk with
  |zero=>
   obtain rfl:r=27:=by omega
   rw[EP,zt] at HC;go_wp2_with fail
   go_ret2;exact⟨N,_,_,Io.out,rfl,HC.out⟩
  |succ g=>
   have KF:((r:Int)<27):=(by omega);have G:r<(O da):=by rw[yv];omega
   have B:da[r].length<=200:=by
    have:=OD.1 IH da[r] (List.getElem_mem G)
    simpa using this
   have T:(iO r).length<=63/\(fj r).length<=63:=by
    have:=OD.1 J1 r (List.mem_range.2 (by omega))
    simpa using this
   have dY:=xd r G;have eE:=Da r G
   have fW:∀W,Sl W A (da.map aM)->∃ad,A=some ad/\W.cell? (ad.add r)=some (OM (bs da[r])):= λW hW=>by
    obtain⟨ad,h1,_,h2⟩:=hW.at_ r (by rw[List.length_map];exact G);rw[List.getElem_map] at h2;exact⟨ad,h1,h2⟩
   obtain⟨x,hx⟩:∃x,da[r]=x:=⟨_,rfl⟩;rw[hx] at B dY eE fW;have K0:=U dY;have K4:=U eE;have HX:=U fW;have HR:=U hr;have gy:=U B;have wj:=U T
   have Iq:Hid (m8 N _ _ (iO r++kZ r (fG x 0).1.length) (fj r++(fG x 0).1) wr):=U (by
    unfold fG;rw[OE,List.length_nil,show kZ r 0=[] from rfl,OE];exact HC.out)
   clear dY eE fW hx hr B G HC T;obtain⟨xl,jT⟩:∃xl,O x=xl:=⟨_,rfl⟩;have K6:=U jT;clear jT;go_wp2_with fail
   go_loopg [2,3,6,7,8] (xl+1) (λgg v1 v2 t6 t7 t8=> λwx=>∃(i:Nat),i+gg=xl+1/\t6=J X (((fG x i).1.length:Int)+1)/\t7=J X ((fG x i).2:Nat)/\t8=J X (i:Int)/\Hid (m8 N v1 v2 (iO r++kZ r (fG x i).1.length) (fj r++(fG x i).1) wx))
   case atStart=>exact⟨0,by omega,rfl,rfl,rfl,Iq⟩
   case round=>
    obtain⟨i,hi,rfl,rfl,rfl,j⟩:=hrel;obtain⟨ad,rfl,dE⟩:=HX.out wr (HS.out.below j.out.1)
    have K5:Hid (∀W,Below N.heap.size N W->W.cell? (ad.add r)=some (OM (bs x))):=U (λW hb=>by
     obtain⟨K9,h1,h2⟩:=HX.out W (HS.out.below hb)
     cases h1
     exact h2)
    have hl:=K6.out
    cases gk with
    |zero=>
     obtain rfl:i=xl+1:=by omega
     have K8:¬(((xl+1:Nat):Int)<=(O x:Int)):=(by omega);have K:Hid (m8 N _ _ (iO (r+1)) (fj (r+1)) wr):=U (by rw[K4.out,K0.out];unfold xn;rw[hl];exact j.out);clear j;go_wp2_with fail
     go_roundg g
     case measure=>omega
     case rel=>exact⟨r+1,by have:=HR.out;omega,rfl,K⟩
    |succ gg=>
     have K8:((i:Int)<=(O x:Int)):=(by omega);have aB:=Ba x i;have B:=gy.out;have T:=wj.out
     by_cases I:i=(O x)\/x.getD i 0=32
     ·have D:=Ed I
      have hU:((i:Int)==(O x:Int))=true\/(((i:Int)==(O x:Int))=false/\∃h:i<O x,((x[i].toNat:Int)==32)=true):=by
       by_cases h1:i=O x
       ·left;rw[h1];simp
       ·right
        have C:i<(O x):=(by omega);refine⟨by rw[beq_eq_false_iff_ne];omega,C,?_⟩;have h2:x.getD i 0=32:=(by rcases I with h|h;exact absurd h h1;exact h);have cz:x.getD i 0=x[i]:=(by simp[OI,C]);rw[<-cz,h2];rfl
      obtain⟨⟨cs,fr⟩,hc⟩:∃q,fG x i=q:=⟨_,rfl⟩;rw[hc] at D aB j⊢;dsimp only at D aB j⊢;have ja:=EO r (O cs);have hz:=j.out;obtain⟨A1,c1,q1⟩:=aP hz.2.2.head;obtain⟨A2,c2,q2,_⟩:=cw hz.2.2.tail.head;dsimp only at q1 q2;subst q1 q2;unfold m8 at hz;obtain⟨n1,aC⟩:∃n1,(iO r++kZ r (O cs)).length=n1:=⟨_,rfl⟩;obtain⟨n2,bE⟩:∃n2,(fj r++cs).length=n2:=⟨_,rfl⟩;have dt:n1<=300:=(by rw[<-aC,Z,GC];omega);have Kr:n2<=300:=(by rw[<-bE,Z];omega);rw[aC,bE] at hz⊢;have K1:=U aC;have K2:=U bE;have HP:=U hz;have M:=U D;have K3:=U ja;have KG:OH.wrap ((O cs:Int)+1+1)=(O cs:Int)+1+1:=(by rw[OC];omega);have KH:OH.wrap ((i:Int)+1)=(i:Int)+1:=(by rw[OC];omega);have KE:((fr:Int)<=(i:Int)):=(by omega);have KC:¬((i:Int)<(fr:Int)):=(by omega);have kz:True:=trivial;have HI:=U hi;clear I D hc hz ja hi hl B T aB j aC bE;rcases hU with e1|⟨e1,C,e2⟩
      all_goals
       go_wp2_with (first
        |(at_builtin;have _t:=kz;refine bW pm rfl rfl 1 [J X (r:Int),J X ((O cs:Int)+1)] rfl HP.out rfl rfl (by intro u hu;simp at hu;rcases hu with rfl|rfl<;>rfl) (by omega) ⟨V _,HP.out.1.size⟩ (by simp) (by simp) ?_;clear kz;intro v1 W1 dD;have K:=U dD;have rX:=K5.out _ dD.1;clear dD dE)
        |(at_builtin;refine bW ik rfl rfl 1 [aM ((x.take i).drop fr)] rfl (cM K.out) rfl rfl (by intro u hu;simp[aM] at hu;subst hu;rfl) (by omega) ⟨V _,K.out.1.size⟩ (by simp) (by simp) ?_;intro v2 W2 gJ;have J2:=U gJ;clear gJ))
       go_roundg gg
       case measure=>omega
       case rel=>
        refine⟨i+1,by have:=HI.out;omega,?_,?_,rfl,U ?_⟩
        ·rw[M.out,Z];rfl
        ·rw[M.out];rfl
        ·rw[M.out,Z,List.length_singleton,K3.out,<-OB,<-OB]
         have h4:=J2.out;rw[<-K1.out,<-K2.out] at h4;exact G6 h4
     ·have D:=Id I
      rw[not_or] at I;have C:i<(O x):=(by omega);have e1:((i:Int)==(O x:Int))=false:=(by rw[beq_eq_false_iff_ne];omega);have cz:x.getD i 0=x[i]:=by simp[OI,C]
      have e2:((x[i].toNat:Int)==32)=false:=by
       rw[beq_eq_false_iff_ne];intro h;apply I.2;rw[cz];exact UInt8.toNat_inj.1 (by show x[i].toNat=32;omega)
      have K:Hid (m8 N _ _ (iO r++kZ r (fG x (i+1)).1.length) (fj r++(fG x (i+1)).1) wr):=U (by rw[D];exact j.out);have M:=U D;clear I D cz aB T j;go_wp2_with fail
      go_roundg gg
      case measure=>omega
      case rel=>exact⟨i+1,by omega,by rw[M.out],by rw[M.out],rfl,K⟩
end
open Go Go.RowKit
attribute [local go_sem] Oper.semAt_some

end Go.Proofs.YthhijgcfbjcgiaaGreatDoor
