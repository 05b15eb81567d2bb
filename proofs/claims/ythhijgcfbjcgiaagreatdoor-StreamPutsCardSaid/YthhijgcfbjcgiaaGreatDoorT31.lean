/- From, GGet, PicT, Frm, Fits, Ref08, Ref08b -/
import Derived.Test.YthhijgcfbjcgiaaGreatDoorT25
import Derived.Test.YthhijgcfbjcgiaaGreatDoorT30
import Derived.Test.YthhijgcfbjcgiaaGreatDoorT20
import Derived.Test.YthhijgcfbjcgiaaGreatDoorT11
namespace Go.Proofs.YthhijgcfbjcgiaaGreatDoor
section
open Go Go.RowKit
attribute [local go_sem] Oper.semAt_some
set_option maxHeartbeats 16000000
set_option maxRecDepth 100000
open Go.Lib renaming hid→O
open List renaming setIfInBounds_toArray→U,set_cons_succ→X,set_cons_zero→J,length→OA,length_singleton→OH,length_append→OI,drop_succ_cons→ON,drop_zero→OQ,getElem?_append_right→OT,map_append→Oe
open Go.Value renaming int→Z,bool→OC,slice→OG,tuple→OU,pointer→OV
open Go.IntKind renaming i64→V,wrap_i64→Y,i64→OB
open Tryz renaming prog→OD,results88→OL,ntmps180→OO,func180→OP,ntmps141→OW,func141→OX,ntmps77→OY,ntmps88→OZ,func77→Oa,func88→Ob,ntmps218→Og,func218→Oi
open Go.Ending renaming returned→OE
open Go.Proofs.YthhijgcfbjcgiaaGreatDoor.bY renaming take→OF,step→Of
open Nat renaming le_refl→OJ,lt_or_ge→Oh
open Int renaming toNat_natCast→OK,tdiv_eq_ediv_of_nonneg→OR,tmod_eq_emod_of_nonneg→OS
open Go.Obj renaming cells→OM
open Bool renaming and_eq_true→Oc,eq_iff_iff→Od
def oX (l:List UInt8) (a:Nat) (pre:List Nat):Prop:=∀k x,pre[k]? =some x->x=a+k/\x<8*OA l
theorem oX.snoc {l:List UInt8}{a:Nat}{pre:List Nat}(h:oX l a pre)(G:a+OA pre<8*OA l):oX l a (pre++[a+OA pre]):=by
 intro k x j;rcases Nat.lt_trichotomy k (OA pre) with C|B|D
 ·rw[List.getElem?_append_left C] at j;exact h k x j
 ·subst B
  rw[OT (OJ _)] at j;simp at j;exact⟨j.symm,by omega⟩
 ·rw[OT (by omega),List.getElem?_eq_none (by simp;omega)] at j
  cases j
theorem yp {l:List UInt8}{a x:Nat}{pre:List Nat}(h:oX l a (pre++[x])):x=a+OA pre/\x<8*(OA l):=h (OA pre) x (by simp)
def tp (l:List UInt8) (i:Nat):Array Value:= #[Z V (i:Int),Z V ((aZ l i:Nat):Int)]
def Jb (j:Nat) (w:World):Int:=match w.cell? ⟨j,0,none⟩ with|some (Z V x)=>x|_=>0
theorem AJ {w:World}{j:Nat}{t:TypeId}{x:Int}(h:ab w j t #[Z V x]):Jb j w=x:=by
 unfold Jb;rw[h.cell 0];rfl
theorem tY (A:Option Addr)(m c:Nat)(a:Int)(w:World):Calls OD 139 #[OG A m c,Z V a] w λe w'=>e=OE (.func (.func 183) #[] #[OV (some ⟨w.heap.size+1,0,none⟩),OV (some ⟨w.heap.size,0,none⟩)])/\w'=(w.alloc (OM #[OG A m c] 25)).alloc (OM #[Z V a] 3):=by
 go_enter Tryz.func139,Tryz.ntmps139
 go_wp2_with fail
 go_ret;exact⟨by simp,rfl⟩
theorem uu (n:Nat)(hn:1<=n)(D gb:Nat)(A:Option Addr)(m c:Nat)(l:List UInt8)(a:Nat)(hl:OA l=m)(hsz:m<=2 ^ 40)(ha:a<=8*m)(C:List Nat->World->Prop)
  (kA:∀pre W v,C pre W->C pre (W.setCell ⟨D,0,none⟩ v)) (kU:∀pre W W',C pre W->Below W.heap.size W W'->C pre W')
  (hCs:∀pre W,C pre W->ab W gb 25 #[OG A m c]/\Sl W A (l.map ag)):
  wk Fence.wide n OD 183 #[OV (some ⟨D,0,none⟩),OV (some ⟨gb,0,none⟩)] (tp l)
   (λpre W=>C pre W/\ab W D 3 #[Z V (a:Int)])
   (λpre W=>C pre W/\ab W D 3 #[Z V ((a+OA pre:Nat):Int)])
   (λpre W=>C pre W/\ab W D 3 #[Z V (((a+OA pre:Nat):Int) - 1)])
   (λpre W=>C pre W/\ab W D 3 #[Z V ((a+OA pre:Nat):Int)])
   (λxs=>oX l a xs/\8*m<=a+OA xs) (oX l a):=by
 intro lp K Jx W hK hY jY Hu;refine callsIn_of_wp Tryz.func183 rfl trivial ?_ rfl;simp only[Tryz.ntmps183,List.size_toArray,List.length_cons,List.length_nil,Nat.reduceAdd,Nat.reduceSub,Array.replicate_succ,Array.replicate_zero,List.push_toArray,List.append_toArray,List.nil_append,List.cons_append];have HY:=O hY;have K6:=O kA;have K9:=O kU;have Kt:=O hCs;have HK:=O hK;have HL:=O hl;have H0:=O jY;have Kv:=O Hu;have K5:=O ha;clear hY kA kU hCs hK hl jY Hu ha;gi_wp2_with fail
 gi_loopw [] (λwr=>∃(pre:List Nat),Hid (oX l a pre)/\Hid (C pre wr)/\Hid (ab wr D 3 #[Z V ((a+OA pre:Nat):Int)])/\Hid (K wr)/\Hid (a+OA pre<=8*m)) (λwr=>8*m - (Jb D wr).toNat)
 case atStart=>exact⟨[],O (λk x h=>by simp at h),O H0.out.1,O H0.out.2,Kv,K5⟩
 case round=>
  obtain⟨pre,jg,eE,bM,Kx,Ky⟩:=hrel;obtain⟨p,hp⟩:∃p,a+OA pre=p:=⟨_,rfl⟩;rw[hp] at bM Ky;have T:=O hp;obtain⟨Hl,hA⟩:=Kt.out _ _ eE.out;have B:=O (show aa [(D,3,#[Z V (p:Int)]),(gb,25,#[OG A m c])] wr.drew from aa.cons bM.out (aa.cons Hl (ai _)));have K4:=O (show Sl wr.drew A (l.map ag) from hA);have cE:Below wr.heap.size wr wr.drew:=(Below.refl _ wr).drew;have dO:=O (K9.out _ _ _ eE.out cE);have gj:=O (HK.out.below Kx.out cE);clear hp Hl hA cE;gi_wp2_with fail
  refine gt (λw'=>aa [(D,3,#[Z V (p:Int)]),(gb,25,#[OG A m c])] w') 10 (OF 0 (OF 1 (Of 2 (OF 3 (OF 4 (OF 5 (OF 6 (OF 7 (OF 8 (Of 9 .done)))))))))) rfl (by kernel_rfl) (by kernel_rfl) (λ_ _ d _ _ h=>by cases d<;>exact h) (by simp only[bY.out,Array.getD_eq_getD_getElem?,List.getElem?_toArray,List.getElem?_cons_zero,List.getElem?_cons_succ,Option.getD_some];rfl) (by simp only[List.map_cons,List.map_nil];rfl) (B.out) (λPE M=>?_)
  iterate 2
   refine dz (v:=?_) rfl (by rfl) ?_ (λ_=>rfl) ?_
   rotate_left
   ·intro _ j;(try dsimp only at j);have z0:=j.head.cell 0;have z1:=j.tail.head.cell 0;(try dsimp only at z0 z1);go_simp;(try with_reducible rfl)
   simp only[U,J,X]
  refine lJ (f:=84) rfl (by rfl) (by first|(go_simp;done)|(go_simp;rfl)) (di A m c _ (by omega)) ?_;rintro e w2 ⟨rfl,rfl⟩;refine⟨_,rfl,_,λ_ h=>h,B.out,?_⟩;simp only[U,J,X];rcases Oh p (8*m) with dv|Ht
  ·have I:((p:Int)<8*(m:Int)):=by omega
   have K0:(decide ((p:Int)<8*(m:Int)))=true:=by simpa using I
   iterate 6
    refine dz (v:=?_) rfl (by rfl) ?_ (λ_=>rfl) ?_
    rotate_left
    ·intro _ j;(try dsimp only at j);have z0:=j.head.cell 0;have z1:=j.tail.head.cell 0;(try dsimp only at z0 z1);go_simp;(try with_reducible rfl)
    simp only[U,J,X]
   have CB:=wC A m c l (p:Int) wr.drew K4.out HL.out (by omega) (by omega);rw[OK] at CB;refine lJ (f:=99) rfl (by rfl) (by first|(go_simp;done)|(go_simp;rfl)) CB ?_;rintro e w2 ⟨rfl,rfl⟩;refine⟨_,rfl,_,λ_ h=>h,B.out,?_⟩;simp only[U,J,X];have N:=jg.out.snoc (by rw[T.out,HL.out];exact dv);rw[T.out] at N;obtain⟨fn,tmps,K3,KA,dy,hR⟩:=HY.out pre p wr.drew ⟨dO.out,by rw[T.out];exact B.out.head⟩ gj.out N;have HR:=O hR;have av:=O N;dsimp only[tp] at dy;have KB:OB.wrap ((p:Int)+1)=(p:Int)+1:=(by rw[Y];omega);have iP:=O dv;clear hR N CB dv;refine M _ _ ?_;clear M PE;simp only[ON,OQ];gi_wp2_with fail
   refine HR.out.mono ?_;rintro e W3 (⟨rfl,cI,JT⟩|⟨rfl,rG⟩)
   ·have G:=cI.2
    have e9:(((a+(pre++[p]).length:Nat):Int) - 1)=(p:Int):=(by have:=T.out;rw[OI,OH];omega);rw[e9] at G;have fJ:=O G;have K8:=O cI.1;have Kw:=O JT;have z0:=G.cell 0;have z1:=G.frozen 0;(try dsimp only at z0 z1);clear G cI JT dy e9;gi_wp2_with fail
    have aJ:=fJ.out.set_ 0 (Z V ((p:Int)+1));refine⟨⟨pre++[p],av,O (K6.out _ _ _ K8.out),O ?_,O (HK.out.set Kw.out fJ.out (p:=⟨D,0,none⟩)),O (by have:=T.out;have:=iP.out;rw[OI,OH];omega)⟩,?_⟩
    ·have e9:((a+(pre++[p]).length:Nat):Int)=(p:Int)+1:=by have:=T.out;rw[OI,OH];omega
     rw[e9];exact aJ
    ·have h9:=AJ (show ab _ D 3 #[Z V ((p:Int)+1)] from aJ);have Kz:=AJ bM.out
     rw[h9,Kz];have:=iP.out;omega
   ·clear dy
    gi_wp2_with fail
    refine bodyPost_end (results_none rfl _ _ _) rfl ?_;exact⟨⟨_,rfl⟩,.inr ⟨_,av.out,rG⟩⟩
  ·have I:¬((p:Int)<8*(m:Int)):=by omega
   have K0:(decide ((p:Int)<8*(m:Int)))=false:=(by simpa using I);have Ku:=O Ht;clear Ht
   iterate 2
    refine dz (v:=?_) rfl (by rfl) ?_ (λ_=>rfl) ?_
    rotate_left
    ·intro _ j;(try dsimp only at j);go_simp;(try with_reducible rfl)
    simp only[U,J,X]
   iterate 4
    refine fN rfl (by rfl) (λ_=>rfl) ?_
    simp only[U,J,X]
   refine gU (by rfl) rfl B.out ?_;simp only[U,J,X];refine M _ _ ?_;clear M PE;simp only[ON,OQ];gi_wp2_with (refine wpListIn_skip (by rfl) (by rfl) ?_)
   refine bodyPost_end (results_none rfl _ _ _) rfl ?_;exact⟨⟨_,rfl⟩,.inl ⟨pre,⟨jg.out,by rw[T.out];exact Ku.out⟩,⟨dO.out,by have h:=B.out.head;rw[<-T.out] at h;simpa using h⟩,gj.out⟩⟩
def kb (r:Nat×Int) (p:Nat):Int:=if r.2=0 then(r.1:Int) - p else 0
def Dy (r:(Int×List UInt8)×Nat×Int) (p:Nat) (w:World) (e:Ending) (w':World):Prop:=
 ∃v,e=OE (OU #[Z V r.1.1,v,Z V (kb r.2 p),Z V r.2.2])/\Below w.heap.size w w'/\w'.ownsRow w.heap.size 5 1 v r.1.2.length (r.1.2.map ag)
theorem nD {w W:World}{p:Nat}(e:Int)(he:e≠0)(j:Below w.heap.size w W):Dy ((0,[]),0,e) p w (OE (OU #[Z V 0,OG none 0 0,Z V 0,Z V e])) W:=
 ⟨OG none 0 0,by unfold kb;rw[if_neg he],j,World.ownsRow_nil _ _ _ _⟩
structure td (l:List UInt8) (p:Nat) (pre:List UInt8):Prop where
 le:OA pre<=32
 eq:dF l 32 p=(pre++(dF l (32 - OA pre) (p+9*OA pre)).1,(dF l (32 - OA pre) (p+9*OA pre)).2.1,(dF l (32 - OA pre) (p+9*OA pre)).2.2)
theorem yu (l:List UInt8)(p:Nat):td l p []:=⟨by decide,rfl⟩
theorem td.next {l:List UInt8}{p:Nat}{pre:List UInt8}(h:td l p pre)(j:OA pre<32)(B:aZ l (p+9*OA pre)≠0)(h2:p+9*OA pre+9<=8*OA l):td l p (pre++[UInt8.ofNat (aB l (p+9*OA pre+1) 8)]):=by
 refine⟨by rw[OI,OH];omega,?_⟩;have e:=h.eq;rw[show 32 - OA pre=(32 - (OA pre+1))+1 by omega,It B h2] at e;rw[e,OI,OH,show p+9*(OA pre+1)=p+9*OA pre+9 by omega];simp
theorem D0 (A:Option Addr)(n c:Nat)(l:List UInt8)(p:Nat)(w:World)(hA:Sl w A (l.map ag))(hn:OA l=n)(hsz:n<=2 ^ 40)(hp:p<=8*n):
  Calls OD 88 #[OG A n c,Z V (p:Int)] w (Dy (gM l p) p w):=by
 have HA:=O hA;have HN:=O hn;have HP:=O hp;have CC:=O (λW=>di A n c W (by omega));have RM:=O (λ(i m:Int) W (h0:0<=i) (h1:0<=m) (h2:m<=32) (h3:8*(n:Int)<i+m)=>dj A n c i m W h0 h1 h2 h3 (by omega));have RD:=O (λ(v i m:Int) W hv K (h0:0<=i) (h1:0<=m) (h2:m<=32) (h3:i+m<=8*(n:Int))=>fS v A n c l i m W hv K hn h0 h1 h2 h3 (by omega));have k1:¬((p:Int)<0):=by omega
 have k2:¬(8*(n:Int)<(p:Int)):=by omega
 obtain⟨r,K⟩:∃r,gM l p=r:=⟨_,rfl⟩;rw[K];unfold gM at K
 by_cases h5:8*n<p+5
 ·rw[if_pos (by rw[HN.out];exact h5)] at K
  subst K;have C1:=O (λW=>RM.out (p:Int) 5 W (by omega) (by decide) (by decide) (by omega));clear hA hn hp h5 hsz RM RD
  go_enter Ob,OZ
  go_wp2_with fail
  go_step3
  go_wp2_with (first|(go_at_call 84;refine(CC.out _).mono ?_;rintro e M ⟨rfl,rfl⟩)|(go_at_call 56;refine(C1.out _).mono ?_;rintro e M ⟨rfl,rfl⟩))
  (try rw[Exit.noGoto_ret]);exact bodyPost_ret (by simp[results,OL,go_sem]) rfl (nD 5 (by decide) (Below.refl _ _))
 rw[if_neg (by rw[HN.out];exact h5)] at K;have R5:=O (RD.out (aB l p 5:Nat) (p:Int) 5 w (by rw[OK];rfl) HA.out (by omega) (by decide) (by decide) (by omega))
 by_cases h9:aB l p 5=0
 ·rw[if_pos h9] at K
  subst K;rw[h9] at R5;simp only[Int.natCast_zero] at R5;clear hA hn hp h5 hsz RM RD h9
  go_enter Ob,OZ
  go_wp2_with fail
  go_step3
  go_wp2_with (first|(go_at_call 84;refine(CC.out _).mono ?_;rintro e M ⟨rfl,rfl⟩)|(go_at_call 56;refine R5.out.mono ?_;rintro e M ⟨rfl,rfl⟩))
  (try rw[Exit.noGoto_ret]);exact bodyPost_ret (by simp[results,OL,go_sem]) rfl (nD 9 (by decide) (Below.refl _ _))
 rw[if_neg h9] at K;have JT:(((aB l p 5:Nat):Int)==0)=false:=by simp[h9]
 have eE:=fF l p 5;generalize aB l p 5=q at*;have kU:=O K;have K0:(p:Int)<=8*(n:Int):=by omega
 have Ht:(n:Int)<=1099511627776:=by omega
 clear hA hn hp h5 h9 K hsz eE
 go_enter Ob,OZ
 go_wp2_with fail
 go_step3
 go_wp2_with (first|(go_at_call 84;refine(CC.out _).mono ?_;rintro e M ⟨rfl,rfl⟩)|(go_at_call 56;refine R5.out.mono ?_;rintro e M ⟨rfl,rfl⟩))
 go_step3
 go_wp2_with fail
 go_loopg [10,11] 33 (λgk v k=> λwr=>∃(pre:List UInt8),OA pre+gk=33/\k=Z V (((5+9*OA pre:Nat)):Int)/\Hid (td l (p+5) pre)/\Hid (ay w [] [⟨w.heap.size,5,1,v,OA pre,pre.map ag⟩] wr))
 case atStart=>exact⟨[],rfl,rfl,O (yu _ _),O (fT (lz w) _ _ _)⟩
 case round=>
  obtain⟨pre,hj,rfl,HS,HC⟩:=hrel;obtain⟨A5,c5,hv⟩:=bg HC.out.2.2.head;dsimp only at hv;subst hv;have I:=HS.out.le;obtain⟨j,B⟩:∃j,OA pre=j:=⟨_,rfl⟩;obtain⟨s,hs⟩:∃s,p+5+9*j=s:=⟨_,rfl⟩;have G:=HS.out.eq;rw[B,hs] at G;rw[B] at I hj⊢;have jY:=O B;have Hu:=O hs;have jg:Hid (ay w [] [⟨w.heap.size,5,1,OG A5 j c5,j,pre.map ag⟩] wr):=O (by have h:=HC.out;rw[B] at h;exact h);have K3:OB.wrap ((p:Int)+((5+9*j:Nat):Int))=(s:Int):=(by rw[Y];omega);have dy:OB.wrap ((s:Int)+1)=(s:Int)+1:=(by rw[Y];omega);have av:OB.wrap (((5+9*j:Nat):Int)+9)=((5+9*(j+1):Nat):Int):=(by rw[Y];omega);have aJ:OB.wrap (((5+9*j:Nat):Int)+1)=((s+1:Nat):Int) - (p:Int):=(by rw[Y];omega);have C:=kU.out;rw[G] at C
  by_cases h1:8*n<s+1
  ·have C1:=O (λW=>RM.out (s:Int) 1 W (by omega) (by decide) (by decide) (by omega))
   rw[Bt (by rw[HN.out];exact h1),if_neg (by simp)] at C;subst C;clear hj B hs G I h1 RM RD dy av aJ;generalize ((5+9*j:Nat):Int)=kk at*;go_wp2_with (go_at_call 56;refine(C1.out _).mono ?_;rintro e M ⟨rfl,rfl⟩)
   (try rw[Exit.noGoto_ret]);exact bodyPost_ret (by simp[results,OL,go_sem]) rfl (nD 5 (by decide) HC.out.1)
  have R1:=O (RD.out (aZ l s:Nat) (s:Int) 1 wr (by rw[OK,show (1:Int).toNat=1 from rfl,kc]) (HA.out.below HC.out.1) (by omega) (by decide) (by decide) (by omega))
  by_cases hb:aZ l s=0
  ·rw[sH (by rw[HN.out];omega) hb,if_pos (by rfl)] at C
   have D:((aZ l s:Nat):Int)=0:=(by omega);rw[D] at R1;subst C;clear hj hs G I h1 RM RD dy av hb D;generalize ((5+9*j:Nat):Int)=kk at*;go_wp2_with (go_at_call 56;refine R1.out.mono ?_;rintro e M ⟨rfl,rfl⟩)
   (try rw[Exit.noGoto_ret]);refine bodyPost_ret (v:=OU #[Z V (q:Int),OG A5 j c5,Z V ((s:Int)+1 - (p:Int)),Z V 0]) (by simp[results,OL,go_sem]) rfl ⟨OG A5 j c5,?_,HC.out.1,?_⟩
   ·unfold kb
    rw[if_pos (by rfl)];simp
   ·have h:=HC.out.2.2.head
    simp only[List.append_nil];rw[B] at h⊢;exact h
  have cE:=rH l s hb;have D:((aZ l s:Nat):Int)=1:=(by omega);rw[D] at R1;have T:((j:Int)==32)=decide (j=32):=by rw[Od];simp;omega
  by_cases N:j=32
  ·have e0:32 - j=0:=by omega
   rw[e0,yq (by rw[HN.out];omega) hb,if_neg (by simp)] at C;have rG:((j:Int)==32)=true:=(by rw[T];simpa using N);subst C;clear hj hs G I h1 RM RD dy av aJ hb D cE T e0 N;generalize ((5+9*j:Nat):Int)=kk at*;go_wp2_with (go_at_call 56;refine R1.out.mono ?_;rintro e M ⟨rfl,rfl⟩)
   (try rw[Exit.noGoto_ret]);exact bodyPost_ret (by simp[results,OL,go_sem]) rfl (nD 4 (by decide) HC.out.1)
  have rG:((j:Int)==32)=false:=(by rw[T];simpa using N);have e1:32 - j=(31 - j)+1:=by omega
  by_cases h9:8*n<s+9
  ·have C8:=O (λW=>RM.out ((s:Int)+1) 8 W (by omega) (by decide) (by decide) (by omega))
   rw[e1,yr (by rw[HN.out];omega) hb (by rw[HN.out];exact h9),if_neg (by simp)] at C;subst C;clear hj hs G I h1 RM RD av aJ hb D cE T e1 N h9;generalize ((5+9*j:Nat):Int)=kk at*;go_wp2_with fail
   refine R1.out.mono ?_;rintro e M ⟨rfl,rfl⟩;go_wp2_with fail
   refine(C8.out _).mono ?_;rintro e M ⟨rfl,rfl⟩;go_wp2_with fail
   (try rw[Exit.noGoto_ret]);exact bodyPost_ret (by simp[results,OL,go_sem]) rfl (nD 5 (by decide) HC.out.1)
  have R8:=O (RD.out (aB l (s+1) 8:Nat) ((s:Int)+1) 8 wr (by rw[show ((s:Int)+1).toNat=s+1 by omega];rfl) (HA.out.below HC.out.1) (by omega) (by decide) (by decide) (by omega));have hx:=fF l (s+1) 8;have bM:=O (HS.out.next (by rw[B];omega) (by rw[B,hs];exact hb) (by rw[B,hs,HN.out];omega));rw[B,hs] at bM;obtain⟨x,fJ⟩:∃x,aB l (s+1) 8=x:=⟨_,rfl⟩;rw[fJ] at R8 bM hx;have K4:IntKind.u8.wrap (x:Int)=(x:Int):=(by rw[IntKind.wrap_u8];omega);have gj:Hid (ag (UInt8.ofNat x)=Z .u8 (x:Int)):=O (by unfold ag;rw[fj _ (by omega)]);have Hl:j<=32:=(by omega);have hg:∃g,gk=g+1:=⟨gk - 1,by omega⟩;obtain⟨g,rfl⟩:=hg;have HJ:=O hj;clear hj hs G I h1 RM RD aJ hb D cE T e1 N h9 C fJ hx;obtain⟨k2,cI⟩:∃k:Int,((5+9*(j+1):Nat):Int)=k:=⟨_,rfl⟩;rw[cI] at av;have kA:=O cI;clear cI;generalize ((5+9*j:Nat):Int)=kk at*;go_wp2_with fail
  refine R1.out.mono ?_;rintro e M ⟨rfl,rfl⟩;go_wp2_with fail
  refine R8.out.mono ?_;rintro e M ⟨rfl,rfl⟩;go_wp2_with (at_builtin;refine f7 nC rfl rfl 1 [Z .u8 (x:Int)] rfl jg.out rfl rfl (by intro u hu;simp at hu;subst hu;rfl) (by omega) ⟨OJ _,HC.out.1.size⟩ (by simp) (by simp) ?_;intro v6 W6 dO;have iP:=O dO;clear dO)
  go_roundg g
  case measure=>omega
  case rel=>
   have dv:(pre++[UInt8.ofNat x]).length=j+1:=(by rw[OI,OH,jY.out]);refine⟨pre++[UInt8.ofNat x],by rw[dv];have:=HJ.out;omega,?_,O bM.out,O ?_⟩
   ·rw[dv,kA.out]
   ·have h:=iP.out
    rw[dv,Oe,List.map_singleton,gj.out];exact h
def ib (l:List UInt8) (p:Nat) (j:Int) (k:Nat):Int×Nat×Int:=if j≠0 then(0,p,j) else if 8*OA l<p+k then(0,p,5) else((aB l p k:Nat),p+k,0)
def cW (A:Option Addr) (n c:Nat) (p:Nat) (j:Int):Array Value:= #[OG A n c,Z V (p:Int),Z V j]
structure GR (g:Nat) (A:Option Addr) (n c:Nat) (r:Int×Nat×Int) (w:World) (e:Ending) (w':World):Prop where
 e:e=OE (Z V r.1)
 b:ab w' g 163 (cW A n c r.2.1 r.2.2)
 gb:w.grownBy w' (some g)
theorem lP (w:World)(g:Nat):w.grownBy w.drew (some g):=dr (Below.refl _ _).drew (OJ _)
theorem FW {K:World->Prop}(D:li K){A B:World}{g:Nat}{t:TypeId}{cs:Array Value}(h:K A)(G:A.grownBy B (some g))(C:ab A g t cs):K B:=
 D A B h (λi o j I=>(G.block i (Array.getElem?_eq_some_iff.1 j).1 (λe=>by
  cases e
  unfold ab at C;rw[C] at j;cases j;cases I)).trans j)
theorem i7 {g k:Nat}{t:TypeId}{cs:Array Value}{w w':World}(h:ab w k t cs)(B:w.grownBy w' (some g))(j:k≠g):ab w' k t cs:=h.grown B (λe=>by cases e;exact j rfl)
theorem ov (g:Nat)(A:Option Addr)(n c:Nat)(l:List UInt8)(p:Nat)(G:Int)(k:Nat)(w:World)(M:ab w g 163 (cW A n c p G))(hA:Sl w A (l.map ag))(hn:OA l=n)(hsz:n<=2 ^ 40)(hp:p<=8*n)(hk:k<=32):
  Calls OD 141 #[OV (some ⟨g,0,none⟩),Z V (k:Int)] w (GR g A n c (ib l p G k) w):=by
 have HB:=O M;have HA:=O hA;have HN:=O hn;obtain⟨r,T⟩:∃r,ib l p G k=r:=⟨_,rfl⟩;rw[T];unfold ib at T;unfold cW at M;have z0:=M.cell 0;have z1:=M.cell 1;have z2:=M.cell 2;have f1:=M.frozen 1;have f2:=M.frozen 2;(try dsimp only at z0 z1 z2 f1 f2)
 by_cases K:G≠0
 ·rw[if_pos K] at T
  subst T;have hq:(G !=0)=true:=(by simpa using K);clear M hA hn
  go_enter OX,OW
  go_wp2_with fail
  go_ret;exact⟨rfl,HB.out,tr _ _⟩
 rw[if_neg K] at T;have bM:G=0:=by omega
 subst bM;have C:=O (show ab w.drew g 163 (cW A n c p 0) from HB.out)
 by_cases N:8*OA l<p+k
 ·rw[if_pos N] at T
  subst T;have CR:=dj A n c (p:Int) (k:Int) w.drew (by omega) (by omega) (by omega) (by omega) (by omega);have j:=C.out.set_ 2 (Z V 5);unfold cW at j;simp only[U,J,X] at j;have aJ:=O j;have u0:=j.cell 1;(try dsimp only at u0);have av:=O CR;clear M hA hn j CR N
  go_enter OX,OW
  go_wp2_with fail
  refine aP (λw'=>ab w' g 163 (cW A n c p 0)) 14 (OF 0 (OF 1 (OF 2 (OF 3 (OF 4 (OF 5 (OF 6 (OF 7 (OF 8 (Of 9 (OF 10 (OF 11 (OF 12 (Of 13 .done)))))))))))))) (C.out) (λPE I=>?_)
  iterate 9
   refine af (v:=?_) rfl (by rfl) ?_ ?_
   rotate_left
   ·intro _ B;(try dsimp only at B);have q:=B;unfold cW at q;have y0:=q.cell 0;have y1:=q.cell 1;(try dsimp only at y0 y1);go_simp;(try with_reducible rfl)
   simp only[U,J,X]
  refine aG (f:=56) rfl (by rfl) (by first|(go_simp;done)|(go_simp;rfl)) av.out ?_;rintro e w2 ⟨rfl,rfl⟩;refine⟨_,rfl,_,λ_ h=>h,C.out,?_⟩;simp only[U,J,X]
  iterate 3
   refine af (v:=?_) rfl (by rfl) ?_ ?_
   rotate_left
   ·intro _ B;(try dsimp only at B);go_simp;(try with_reducible rfl)
   simp only[U,J,X]
  refine aj (v:=?_) (w':=?_) rfl (by rfl) ?_ ?_ ?_;rotate_left 2
  ·go_simp;(try (constructor<;>with_reducible rfl))
  ·exact C.out
  simp only[U,J,X];refine I _ _ ?_;clear I PE;simp only[ON,OQ];go_wp2_with fail
  refine⟨rfl,?_⟩;go_wp2_with fail
  go_ret;exact⟨rfl,aJ.out,(lP w g).trans (gY _ _ _ _)⟩
 ·rw[if_neg N] at T
  subst T;have CR:=kD A n c l (p:Int) (k:Int) w.drew HA.out hn (by omega) (by omega) (by omega) (by omega) (by omega);rw[OK,OK] at CR;have j:=C.out.set_ 2 (Z V 0);unfold cW at j;simp only[U,J,X] at j;have D:=j.set_ 1 (Z V ((p:Int)+(k:Int)));simp only[U,J,X] at D;have aJ:Hid (ab ((w.drew.setCell ⟨g,2,none⟩ (Z V 0)).setCell ⟨g,1,none⟩ (Z V ((p:Int)+(k:Int)))) g 163 (cW A n c (p+k) 0)):=O (by unfold cW;rw[show ((p+k:Nat):Int)=(p:Int)+(k:Int) by omega];exact D);have u0:=j.cell 1;have u1:=j.frozen 1;(try dsimp only at u0 u1);have cE:OB.wrap ((p:Int)+(k:Int))=(p:Int)+(k:Int):=(by rw[Y];omega);have av:=O CR;clear M hA hn j D CR N;generalize aB l p k=x at*
  go_enter OX,OW
  go_wp2_with fail
  refine aP (λw'=>ab w' g 163 (cW A n c p 0)) 14 (OF 0 (OF 1 (OF 2 (OF 3 (OF 4 (OF 5 (OF 6 (OF 7 (OF 8 (Of 9 (OF 10 (OF 11 (OF 12 (Of 13 .done)))))))))))))) (C.out) (λPE I=>?_)
  iterate 9
   refine af (v:=?_) rfl (by rfl) ?_ ?_
   rotate_left
   ·intro _ B;(try dsimp only at B);have q:=B;unfold cW at q;have y0:=q.cell 0;have y1:=q.cell 1;(try dsimp only at y0 y1);go_simp;(try with_reducible rfl)
   simp only[U,J,X]
  refine aG (f:=56) rfl (by rfl) (by first|(go_simp;done)|(go_simp;rfl)) av.out ?_;rintro e w2 ⟨rfl,rfl⟩;refine⟨_,rfl,_,λ_ h=>h,C.out,?_⟩;simp only[U,J,X]
  iterate 3
   refine af (v:=?_) rfl (by rfl) ?_ ?_
   rotate_left
   ·intro _ B;(try dsimp only at B);go_simp;(try with_reducible rfl)
   simp only[U,J,X]
  refine aj (v:=?_) (w':=?_) rfl (by rfl) ?_ ?_ ?_;rotate_left 2
  ·go_simp;(try (constructor<;>with_reducible rfl))
  ·exact C.out
  simp only[U,J,X];refine I _ _ ?_;clear I PE;simp only[ON,OQ];go_wp2_with fail
  refine⟨rfl,?_⟩;go_wp2_with fail
  go_ret;exact⟨rfl,aJ.out,((lP w g).trans (gY _ _ _ _)).trans (gY _ _ _ _)⟩
theorem nY (f:Int)(j:f=0\/f=1)(w:World):Calls OD 123 #[Z V f] w λe w'=>e=OE (Z V (jO f))/\w=w':=by
 rcases j with rfl|rfl
 all_goals
  go_enter Tryz.func123,Tryz.ntmps123
  go_wp2_with fail
  go_ret
  exact⟨rfl,rfl⟩
theorem qE (f:Int)(j:f=0\/f=1)(w:World):Calls OD 73 #[Z V f] w λe w'=>e=OE (OC true)/\w=w':=by
 have C:=O (nY f j w);rcases j with rfl|rfl
 all_goals
  go_enter Tryz.func73,Tryz.ntmps73
  go_wp2_with (go_at_call 123;refine C.out.mono ?_;rintro e B ⟨rfl,rfl⟩)
  go_ret
  exact⟨rfl,rfl⟩
theorem BU (f:Int)(j:f=0\/f=1)(w:World):Calls OD 219 #[Z V f] w λe w'=>e=OE (Z V (jC f))/\w=w':=by
 have C:=O (nY f j w);rcases j with rfl|rfl
 all_goals
  go_enter Tryz.func219,Tryz.ntmps219
  go_wp2_with (go_at_call 123;refine C.out.mono ?_;rintro e B ⟨rfl,rfl⟩)
  go_ret
  exact⟨by kernel_rfl,rfl⟩
theorem BV (f:Int)(j:f=0\/f=1)(w:World):Calls OD 124 #[Z V f] w λe w'=>e=OE (Z V (2 - f))/\w=w':=by
 rcases j with rfl|rfl
 all_goals
  go_enter Tryz.func124,Tryz.ntmps124
  go_wp2_with fail
  go_ret
  exact⟨rfl,rfl⟩
theorem BT (f:Int)(j:f=0\/f=1)(w:World):Calls OD 179 #[Z V f] w λe w'=>e=OE (OU #[Z V (jO f),Z V (jC f),Z V (jO f*jC f*3 / 2),Z V 0])/\w=w':=by
 have C:=O (nY f j w);have D:=O (BU f j w);have E:=O (qE f j w);rcases j with rfl|rfl
 all_goals
  go_enter Tryz.func179,Tryz.ntmps179
  go_wp2_with (first|(go_at_call 123;refine C.out.mono ?_;rintro e B ⟨rfl,rfl⟩)|(go_at_call 219;refine D.out.mono ?_;rintro e B ⟨rfl,rfl⟩)|(go_at_call 73;refine E.out.mono ?_;rintro e B ⟨rfl,rfl⟩))
  refine bodyPost_ret (by simp[results,Tryz.results179,go_sem];kernel_rfl) rfl ⟨rfl,rfl⟩
theorem wX (f g a:Int)(hf:f=0\/f=1)(hg:1<=g/\g<=12)(ha:1<=a/\a<=33)(w:World):Calls OD 218 #[Z V f,Z V g,Z V a] w λe w'=>e=OE (OU #[Z V (gp f g a),Z V (gq g a)])/\w=w':=by
 obtain⟨K,M⟩:=hg;obtain⟨G,I⟩:=ha;have w1:OB.wrap (a - 1)=a - 1:=by rw[Y];omega
 have w2:OB.wrap (g - 1)=g - 1:=by rw[Y];omega
 have t1:(a - 1).tmod 11=(a - 1) % 11:=OS (by omega);have t2:(a - 1).tdiv 11=(a - 1) / 11:=OR (by omega);have t3:(g - 1).tmod 2=(g - 1) % 2:=OS (by omega);have t4:(g - 1).tdiv 2=(g - 1) / 2:=OR (by omega);have N:0<=(a - 1) % 11/\(a - 1) % 11<11:=by omega
 have T:0<=(a - 1) / 11/\(a - 1) / 11<3:=by omega
 have b3:0<=(g - 1) % 2/\(g - 1) % 2<2:=by omega
 have b4:0<=(g - 1) / 2/\(g - 1) / 2<6:=by omega
 unfold gp gq;generalize (a - 1) % 11=C at*;generalize (a - 1) / 11=j at*;generalize (g - 1) % 2=D at*;generalize (g - 1) / 2=B at*;have v1:OB.wrap j=j:=by rw[Y];omega
 have v2:OB.wrap B=B:=by rw[Y];omega
 have v3:OB.wrap (C*16)=C*16:=by rw[Y];omega
 have v4:OB.wrap (j*16)=j*16:=by rw[Y];omega
 have v5:OB.wrap (D*176)=D*176:=by rw[Y];omega
 have v6:OB.wrap (B*48)=B*48:=by rw[Y];omega
 have v7:OB.wrap (C*16+D*176)=C*16+D*176:=by rw[Y];omega
 have v8:OB.wrap (j*16+B*48)=j*16+B*48:=by rw[Y];omega
 clear N T b3 b4 K M G I;rcases hf with rfl|rfl
 ·skip
  go_enter Oi,Og
  go_wp2_with fail
  go_ret2;exact⟨by simp,rfl⟩
 ·skip
  go_enter Oi,Og
  go_wp2_with fail
  go_ret2;exact⟨by simp,rfl⟩
def s8 (f:Int) (w:World) (e:Ending) (w':World):Prop:=∃A c,e=OE (OG A (aK f).length c)/\w'.ownsRow w.heap.size 3 1 (OG A (aK f).length c) (aK f).length ((aK f).map aH)/\Below w.heap.size w w'
def jA (f:Int) (j:Nat):Int:=1+(j:Int)*(2 - f)
theorem D5 (f:Int)(C:f=0\/f=1)(j:Nat)(B:j<(aK f).length):(aK f).take (j+1)=(aK f).take j++[jA f j]:=by
 rcases C with rfl|rfl
 ·have:∀k:Fin 3,(aK 0).take (k.1+1)=(aK 0).take k.1++[jA 0 k.1]:=by decide
  exact this ⟨j,B⟩
 ·have:∀k:Fin 12,(aK 1).take (k.1+1)=(aK 1).take k.1++[jA 1 k.1]:=by decide
  exact this ⟨j,B⟩
theorem wY (f:Int)(G:f=0\/f=1)(w:World):Calls OD 74 #[Z V f] w (s8 f w):=by
 unfold s8;have iP:∀j:Nat,f=0->(aK f).length=3:= λ_ h=>by subst h;rfl
 have HT:=O (D5 f G);have dO:=O (λW=>BV f G W);obtain⟨L,D⟩:∃L,(aK f).length=L:=⟨_,rfl⟩;obtain⟨M,hM⟩:∃M:Int,M=if f=1 then 12 else 5:=⟨_,rfl⟩
 have T:∀j:Nat,j<=L->(jA f j<=M↔j<L):=by
  rcases G with rfl|rfl
  ·have D:3=L:=D
   rw[if_neg (by decide)] at hM;intro j hj;unfold jA;omega
  ·have D:12=L:=D
   rw[if_pos rfl] at hM;intro j hj;unfold jA;omega
 have kA:L<=12:=by rw[<-D];unfold aK;split<;>decide
 have N:=O T;have HL:=O D;rw[D];have C:∀j:Nat,jA f j+(2 - f)=jA f (j+1):= λj=>by unfold jA;rcases G with rfl|rfl<;>omega
 have dy:=O C;have aJ:∀j:Nat,j<=12->1<=jA f j/\jA f j<=25:= λj hj=>by unfold jA;rcases G with rfl|rfl<;>omega
 have K:=O aJ;have dv:Hid (jA f 0=1):=O (by unfold jA;simp);clear iP T D C aJ
 have fJ:(f==1)=true/\M=12\/(f==1)=false/\M=5:=by
  rcases G with rfl|rfl
  ·exact .inr ⟨rfl,by rw[hM];rfl⟩
  ·exact .inl ⟨rfl,by rw[hM];rfl⟩
 clear hM G;rcases fJ with⟨gj,rfl⟩|⟨gj,rfl⟩
 all_goals
  go_enter Tryz.func74,Tryz.ntmps74
  go_wp2_with fail
  go_loopg [2,4] L (λgk v i=> λwr=>∃(j:Nat),j+gk=L/\i=Z V (jA f j)/\Hid (ay w [] [⟨w.heap.size,3,1,v,j,((aK f).take j).map aH⟩] wr))
  case atStart=>exact⟨0,by omega,by rw[dv.out],O (fT (lz w) _ _ _)⟩
  case round=>
   obtain⟨j,hj,rfl,I⟩:=hrel;obtain⟨A,c,hv⟩:=bg I.out.2.2.head;dsimp only at hv;subst hv;have hb:=K.out j (by omega);have B:=dy.out j
   cases gk with
   |zero=>
    have jg:j=L:=(by omega);subst jg;have bM:¬(jA f j<=_):= λh=>Nat.lt_irrefl _ ((N.out j (OJ _)).1 h);generalize jA f j=q at*;clear hb B;go_wp2_with fail
    go_ret;refine⟨A,c,rfl,?_,I.out.1⟩;have h:=I.out.2.2.head;(try dsimp only at h);rw[List.take_of_length_le (by rw[HL.out];exact OJ _)] at h;exact h
   |succ g=>
    have bM:=(N.out j (by omega)).2 (by omega);have cE:=HT.out j (by rw[HL.out];omega);have eE:=O cE;have HJ:=O hj;have jY:=O B;obtain⟨q,hq⟩:∃q,jA f j=q:=⟨_,rfl⟩;have HQ:=O hq;rw[hq] at hb bM B
    have rG:OB.wrap (q+(2 - f))=jA f (j+1):=by
     have:=K.out (j+1) (by omega);rw[B,Y];omega
    rw[hq];have kU:j<=12:=(by omega);clear hb B cE hj hq;go_wp2_with (first|(at_builtin;refine f7 jx rfl rfl 1 [Z V q] rfl I.out rfl rfl (by intro u hu;simp at hu;subst hu;rfl) (by omega) ⟨OJ _,I.out.1.size⟩ (by simp) (by simp) ?_;intro v5 W5 av;have cI:=O av;clear av)|(go_at_call 124;refine(dO.out _).mono ?_;rintro e w2 ⟨rfl,rfl⟩))
    go_roundg g
    case measure=>omega
    case rel=>
     refine⟨j+1,by have:=HJ.out;omega,rfl,O ?_⟩;rw[eE.out,Oe,HQ.out];exact cI.out
def GY (w:World) (e:Ending) (w':World):Prop:=w=w'/\∃k:Nat,e=OE (Z V (k:Int))
theorem D6 (A:Option Addr)(n c:Nat)(l:List Int)(x:Int)(w:World)(T:Sl w A (l.map aH))(hn:OA l=n)(hsz:n<=1000)(hx:x∈l):Calls OD 251 #[OG A n c,Z V x] w (GY w):=by
 have HA:=O T;have M:=O hn;have HX:=O hx;clear T hn hx
 go_enter Tryz.func251,Tryz.ntmps251
 go_wp2_with fail
 go_loopg [8] n (λgk i=> λwr=>∃(j:Nat),j+gk=n/\i=Z V (j:Int)/\wr=w/\Hid (∀k (h:k<OA l),k<j->l[k]≠x))
 case atStart=>exact⟨0,by omega,rfl,rfl,O (λk h h2=>by omega)⟩
 case round=>
  obtain⟨j,D,rfl,rfl,K⟩:=hrel
  cases gk with
  |zero=>
   obtain⟨k,hk,I⟩:=List.getElem_of_mem HX.out;exact absurd I (K.out k hk (by have:=M.out;omega))
  |succ g=>
   have aJ:((j:Int)<(n:Int)):=(by omega);have av:¬((j:Int)<0):=(by omega);have G:j<(OA l):=(by rw[M.out];omega);obtain⟨ad,rfl,_,hc⟩:=HA.out.int j G;obtain⟨y,hy⟩:∃y,l[j]=y:=⟨_,rfl⟩;rw[hy] at hc;have bM:OB.wrap ((j:Int)+1)=(j:Int)+1:=(by rw[Y];omega);have HY:=O hy;have B:=O D
   cases he:(x==y) with
   |true=>
    clear D;go_wp2_with fail
    go_ret;exact⟨rfl,j,rfl⟩
   |false=>
    have C:Hid (y≠x):=O (λe=>by subst e;simp at he);clear D;go_wp2_with fail
    go_roundg g
    case measure=>omega
    case rel=>
     refine⟨j+1,by have:=B.out;omega,rfl,rfl,O λk h hk=>?_⟩;rcases Oh k j with N|N
     ·exact K.out k h N
     ·obtain rfl:k=j:=by omega
      rw[HY.out];exact C.out
theorem wK (A:Option Addr)(n c:Nat)(l:List Int)(x:Int)(w:World)(j:Sl w A (l.map aH))(B:OA l=n)(hsz:n<=1000)(D:x∈l):Calls OD 217 #[OG A n c,Z V x] w λe w'=>e=OE (OC true)/\w=w':=by
 have C:=O (D6 A n c l x w j B hsz D);clear j B D
 go_enter Tryz.func217,Tryz.ntmps217
 go_wp2_with (go_at_call 251;refine C.out.mono ?_;rintro e I ⟨rfl,k,rfl⟩;have G:(0:Int)<=(k:Int):=by omega)
 go_ret;exact⟨rfl,rfl⟩
theorem mj (f:Int)(j:f=0\/f=1)(w:World):Calls OD 38 #[Z V f] w λe w'=>∃A c,e=OE (OU #[OG A (aK f).length c,Z V 0])/\w'.ownsRow w.heap.size 3 1 (OG A (aK f).length c) (aK f).length ((aK f).map aH)/\Below w.heap.size w w':=by
 have C:=O (qE f j w);have D:=O (wY f j w);unfold s8 at D;clear j;generalize (aK f).length=n at*;generalize (aK f).map aH=xs at*
 go_enter Tryz.func38,Tryz.ntmps38
 go_wp2_with (first|(go_at_call 73;refine C.out.mono ?_;rintro e M ⟨rfl,rfl⟩)|(go_at_call 74;refine D.out.mono ?_;rintro e M ⟨A,c,rfl,G,B⟩;have K:=O G;have I:=O B;clear G B))
 go_ret2;exact⟨A,c,rfl,K.out,I.out⟩
theorem jB {f g:Int}(j:g∈aK f):1<=g/\g<=12:=by
 unfold aK at j
 split at j
 ·simp at j;omega
 ·simp at j;omega
theorem wW (f g a:Int)(G:f=0\/f=1)(I:g∈aK f)(N:1<=a/\a<=33)(w:World):Calls OD 178 #[Z V f,Z V g,Z V a] w λe w'=>e=OE (OU #[Z V (gp f g a),Z V (gq g a),Z V 0])/\Below w.heap.size w w':=by
 have C:=O (mj f G w);have D:=O (λA n c W h1 h2 h3=>wK A n c (aK f) g W h1 h2 h3 I);have E:=O (λW=>wX f g a G (jB I) N W);have HL:Hid ((aK f).length<=12):=O (ip f);obtain⟨j,B⟩:=N;have k1:decide (a<1)=false:=by simp;omega
 have k2:decide (33<a)=false:=by simp;omega
 obtain⟨n,K⟩:∃n,(aK f).length=n:=⟨_,rfl⟩;rw[K] at C;have M:=O K;generalize gp f g a=vx at*;generalize gq g a=vy at*;clear G I j B K
 go_enter Tryz.func178,Tryz.ntmps178
 go_wp2_with (first|(go_at_call 38;refine C.out.mono ?_;rintro e w2 ⟨A,c,rfl,hs,T⟩;have HS:=O (fG hs);have HB:=O T;clear hs T)|(go_at_call 217;refine(D.out _ _ _ _ HS.out M.out (by have:=HL.out;have:=M.out;omega)).mono ?_;rintro e w3 ⟨rfl,rfl⟩)|(go_at_call 218;refine(E.out _).mono ?_;rintro e w4 ⟨rfl,rfl⟩))
 go_ret3;exact⟨rfl,HB.out⟩
def xk (w h x y:Int):Bool:=decide (0<=x)&&decide (x<w)&&decide (0<=y)&&decide (y<h)
theorem Ef (v:Value)(w h x y:Int)(W:World)(C:v=OG none 0 0):Calls OD 180 #[.agg #[v,Z V w,Z V h],Z V x,Z V y] W λe B=>e=OE (OC (xk w h x y))/\Below W.heap.size W B:=by
 subst C;have j:=O ((Below.refl _ W).alloc (OJ _) (OM #[OG none 0 0,Z V w,Z V h] 201));unfold xk
 cases D:decide (0<=x) with
 |false=>
  go_enter OP,OO
  go_wp2_with fail
  go_ret;exact⟨rfl,j.out⟩
 |true=>
  cases h2:decide (x<w) with
  |false=>
   go_enter OP,OO
   go_wp2_with fail
   go_ret;exact⟨rfl,j.out⟩
  |true=>
   cases G:decide (0<=y) with
   |false=>
    go_enter OP,OO
    go_wp2_with fail
    go_ret;exact⟨rfl,j.out⟩
   |true=>
    cases I:decide (y<h) with
    |false=>
     go_enter OP,OO
     go_wp2_with fail
     go_ret;exact⟨rfl,j.out⟩
    |true=>
     go_enter OP,OO
     go_wp2_with fail
     go_ret;exact⟨rfl,j.out⟩
theorem Jm (f g a x y:Int):ph f g a x y=(xk (jO f) (jC f) (gp f g a+x) (gq g a+y)&&xk (jO f) (jC f) (gp f g a+x+15) (gq g a+y+15)):=by
 unfold ph xk;generalize gp f g a=p;generalize gq g a=q;generalize jO f=w;generalize jC f=h;rw[Od];simp only[Oc,decide_eq_true_eq];omega
theorem rP {f g a:Int}(j:f=0\/f=1)(C:1<=g/\g<=12)(B:1<=a/\a<=33):0<=gp f g a/\gp f g a<=1000/\0<=gq g a/\gq g a<=1000:=by
 unfold gp gq;rcases j with rfl|rfl
 ·rw[if_neg (by decide)];omega
 ·rw[if_pos rfl];omega
theorem zt (f g a x y:Int)(hf:f=0\/f=1)(hg:g∈aK f)(ha:1<=a/\a<=33)(hx: -15<=x/\x<=15)(hy: -15<=y/\y<=15)(w:World):
  Calls OD 131 #[.agg #[Z V f,Z V g,Z V a],Z V x,Z V y] w λe w'=>e=OE (Z V (if ph f g a x y then 0 else 12))/\Below w.heap.size w w':=by
 rw[Jm];have cE:=rP hf (jB hg) ha;have C:=O (λW=>wW f g a hf hg ha W);have D:=O (λW=>BT f hf W)
 obtain⟨mx,dv,cI⟩:∃mx:Int,(∀(ts:Array TypeId)(t:TypeId)(W:World),(Builtin.max_ ts t #[Z V x,Z V (-x),Z V y,Z V (-y)]).run OD W= .ok (Z V mx) W)/\mx<=15:=by
  refine⟨_,λ_ _ _=>rfl,?_⟩
  repeat' split
  all_goals omega
 have bM:¬(min x y< -15):=by omega
 have k1:decide (15<mx)=false:=by simp;omega
 have k2:decide (min x y< -15)=false:=by simpa using bM
 have n1:OB.wrap (-x)= -x:=by rw[Y];omega
 have n2:OB.wrap (-y)= -y:=by rw[Y];omega
 generalize jO f*jC f*3 / 2=sz at*;have M:=O (λu v W=>Ef (OG none 0 0) (jO f) (jC f) u v W rfl);generalize gp f g a=p at*;generalize gq g a=q at*;generalize jO f=wd at*;generalize jC f=hi at*;obtain⟨c1,c2,c3,c4⟩:=cE;obtain⟨x1,x2⟩:=hx;obtain⟨y1,y2⟩:=hy;have v1:OB.wrap (p+x)=p+x:=by rw[Y];omega
 have v2:OB.wrap (q+y)=q+y:=by rw[Y];omega
 have v3:OB.wrap (p+x+15)=p+x+15:=by rw[Y];omega
 have v4:OB.wrap (q+y+15)=q+y+15:=by rw[Y];omega
 have T:=O ((Below.refl _ w).alloc (OJ _) (OM #[Z V f,Z V g,Z V a] 118));have aJ:=O (ab.new w 118 #[Z V f,Z V g,Z V a]);have MA:=O (λW=>M.out (p+x) (q+y) W);have MB:=O (λW=>M.out (p+x+15) (q+y+15) W);generalize xk wd hi (p+x) (q+y)=b1 at*;generalize xk wd hi (p+x+15) (q+y+15)=b2 at*;clear hf hg ha cI c1 c2 c3 c4 x1 x2 y1 y2 M
 go_enter Tryz.func131,Tryz.ntmps131
 go_wp2_with (first|(go_at_call 178;refine(C.out _).mono ?_;rintro e w2 ⟨rfl,j⟩;have av:=O (T.out.trans (j.mono T.out.size));have N:=aJ.out.below j aJ.out.lt;have z0:=N.cell 0;(try dsimp only at z0);clear N j)|(go_at_call 179;refine(D.out _).mono ?_;rintro e w3 ⟨rfl,rfl⟩))
 obtain⟨k,hk⟩:∃k,w2.heap.size=k:=⟨_,rfl⟩;have hp:=aE (ab.new w2 201 #[OG none 0 0,Z V wd,Z V hi]) hk;have K:=av.out.alloc av.out.size (OM #[OG none 0 0,Z V wd,Z V hi] 201);rw[hk];generalize w2.alloc (OM #[OG none 0 0,Z V wd,Z V hi] 201)=w3 at hp K⊢;have HP:=O hp;have G:=O K;clear hp K hk z0;refine(MA.out _).mono ?_;rintro e w4 ⟨rfl,j⟩;have N:=HP.out.below j HP.out.lt;have z0:=N.cell 0;have z1:=N.cell 1;have z2:=N.cell 2;(try dsimp only at z0 z1 z2);have B:=O (G.out.trans (j.mono G.out.size));clear N j HP G
 cases b1 with
 |false=>
  go_wp2_with fail
  go_ret;exact⟨rfl,B.out⟩
 |true=>
  cases b2 with
  |false=>
   go_wp2_with (go_at_call 180;refine(MB.out _).mono ?_;rintro e w5 ⟨rfl,j⟩;have I:=O (B.out.trans (j.mono B.out.size));clear j)
   go_ret;exact⟨rfl,I.out⟩
  |true=>
   go_wp2_with (go_at_call 180;refine(MB.out _).mono ?_;rintro e w5 ⟨rfl,j⟩;have I:=O (B.out.trans (j.mono B.out.size));clear j)
   go_ret;exact⟨rfl,I.out⟩
theorem qV (m:aX)(A:Option Addr)(n c:Nat)(f g:Int)(hm:wh m)(hf:f=0\/f=1)(hg:g∈aK f)(w:World):
  Calls OD 77 #[Z V f,Z V g,dU m A n c] w λe w'=>e=OE (OC (iL f g m))/\Below w.heap.size w w':=by
 have C:=O (λW=>nE m.kd W);rw[show ld m.kd=qo m.kd by unfold ld;rw[hm.kd];rfl,show mR m.kd=0 by unfold mR;rw[hm.kd];rfl] at C;have hx:=hm.px;have hy:=hm.py;simp only[aA,Oc,decide_eq_true_eq] at hx hy;have D:=O (λW=>zt f g m.ad m.x m.y hf hg ⟨hm.a1,hm.a2⟩ (by omega) (by omega) W);obtain⟨ad,kd,qu,x,y,pa,bl⟩:=m;unfold iL dU;unfold qo at C;dsimp only at C D⊢;have I:=O ((Below.refl _ w).alloc (OJ _) (OM #[Z V ad,Z V kd,Z V qu,Z V x,Z V y,Z V pa,OG A n c] 55));have K:=O (ab.new w 55 #[Z V ad,Z V kd,Z V qu,Z V x,Z V y,Z V pa,OG A n c]);generalize pI kd=bI at*;generalize pQ kd=bQ at*;generalize pV kd=bV at*;generalize pF kd=bF at*;generalize pC kd=bC at*;generalize ph f g ad x y=b1 at*;clear hm hx hy hf hg;have T:Hid (∀W,Calls OD 106 #[Z V kd] W λe w'=>e=OE (OU #[.agg #[OC bI,OC bQ,OC bV,OC bF,OC bC],Z V 0])/\Below W.heap.size W w'):=O (λW=>C.out W);clear C
 cases bV with
 |false=>
  go_enter Oa,OY
  go_wp2_with (first|(go_at_call 106;refine(T.out _).mono ?_;rintro e w2 ⟨rfl,M⟩;have j:=O (I.out.trans (M.mono I.out.size));have G:=(K.out.below M K.out.lt).alloc (OM #[OC bI,OC bQ,OC false,OC bF,OC bC] 110);have z0:=G.cell 0;have z3:=G.cell 3;have z4:=G.cell 4;(try dsimp only at z0 z3 z4);clear G M)|(go_at_call 131;refine(D.out _).mono ?_;rintro e w3 ⟨rfl,B⟩;have N:=O ((j.out.alloc j.out.size (OM #[OC bI,OC bQ,OC false,OC bF,OC bC] 110)).trans (B.mono (j.out.alloc j.out.size _).size));clear B))
  go_ret;exact⟨rfl,j.out.alloc j.out.size _⟩
 |true=>
  cases b1 with
  |false=>
   go_enter Oa,OY
   go_wp2_with (first|(go_at_call 106;refine(T.out _).mono ?_;rintro e w2 ⟨rfl,M⟩;have j:=O (I.out.trans (M.mono I.out.size));have G:=(K.out.below M K.out.lt).alloc (OM #[OC bI,OC bQ,OC true,OC bF,OC bC] 110);have z0:=G.cell 0;have z3:=G.cell 3;have z4:=G.cell 4;(try dsimp only at z0 z3 z4);clear G M)|(go_at_call 131;refine(D.out _).mono ?_;rintro e w3 ⟨rfl,B⟩;have N:=O ((j.out.alloc j.out.size (OM #[OC bI,OC bQ,OC true,OC bF,OC bC] 110)).trans (B.mono (j.out.alloc j.out.size _).size));clear B))
   go_ret;exact⟨rfl,N.out⟩
  |true=>
   go_enter Oa,OY
   go_wp2_with (first|(go_at_call 106;refine(T.out _).mono ?_;rintro e w2 ⟨rfl,M⟩;have j:=O (I.out.trans (M.mono I.out.size));have G:=(K.out.below M K.out.lt).alloc (OM #[OC bI,OC bQ,OC true,OC bF,OC bC] 110);have z0:=G.cell 0;have z3:=G.cell 3;have z4:=G.cell 4;(try dsimp only at z0 z3 z4);clear G M)|(go_at_call 131;refine(D.out _).mono ?_;rintro e w3 ⟨rfl,B⟩;have N:=O ((j.out.alloc j.out.size (OM #[OC bI,OC bQ,OC true,OC bF,OC bC] 110)).trans (B.mono (j.out.alloc j.out.size _).size));clear B))
   go_ret;exact⟨rfl,N.out⟩
end
open Go Go.RowKit
set_option maxRecDepth 100000
open List renaming length→O,length_append→Z,getElem?_eq_getElem→Y,flatMap_append→OA,append_assoc→OB,all_eq_true→OD,append_nil→OE,range→OF,range_succ→OG,getD→OI
open Go.Lib renaming hid→U
open Nat renaming le_refl→V
open Go.IntKind renaming i64→X,wrap_i64→OC,i64→OH
open Go.Value renaming int→J,slice→OL,string→OM
open Tryz renaming prog→OJ
open Go.Ending renaming returned→OK
def fx (x:List UInt8):Nat->List (List UInt8)×Nat
 |0=>([],0)
 |i+1=>if i=(O x)\/x.getD i 0=32 then((fx x i).1++[(x.take i).drop (fx x i).2],i+1) else fx x i
def wO (x:List UInt8):List (List UInt8):=(fx x (O x+1)).1
theorem AU (x:List UInt8):∀i,(fx x i).2<=i/\(fx x i).1.length<=i
 |0=>⟨V _,V _⟩
 |i+1=>by
  have h:=AU x i;unfold fx
  split
  ·refine⟨V _,?_⟩
   rw[Z];simp;omega
  ·omega
def kX (q:Nat) (n:Nat):List (Int×Int):=(OF n).map λk:Nat=>((q:Int),(k:Int)+1)
def fc (r:Nat):List (List UInt8):=(cV.take r).flatMap wO
def iQ (r:Nat):List (Int×Int):=(OF r).flatMap λq=>kX q (wO (cV.getD q [])).length
theorem wI (r:Nat)(h:r<O cV):fc (r+1)=fc r++wO cV[r]:=by
 unfold fc;rw[List.take_add_one,Y h,OA];simp
theorem Cx (r:Nat)(h:r<O cV):iQ (r+1)=iQ r++kX r (wO cV[r]).length:=by
 unfold iQ;rw[OG,OA];simp[List.getD_eq_getElem?_getD,Y h]
theorem Ew (q n:Nat):kX q (n+1)=kX q n++[((q:Int),(n:Int)+1)]:=by simp[kX,OG]
theorem Gh (q n:Nat):(kX q n).length=n:=by simp[kX]
def o9:List (List UInt8):=(aL false).map (·.2)
def tH:List (Int×Int):=(aL false).map (·.1)
theorem zc:fc 27=o9:=by kernel_rfl
theorem Ex:iQ 27=tH:=by kernel_rfl
theorem BH:O o9=63:=by kernel_rfl
theorem ow:O tH=63:=by kernel_rfl
theorem In:cV.all (λx=>decide (O x<=200))=true:=by kernel_rfl
theorem C0 (w:World):Calls OJ 273 #[] w λe w'=>(∃A,e=OK (OL A 27 27)/\Sl w' A (cV.map aR))/\Below w.heap.size w w':=by
 go_enter Tryz.func273,Tryz.ntmps273
 go_wp2_with fail
 go_ret;exact⟨⟨_,rfl,ab.sl (ab.new w 9 (cV.map aR).toArray) 0⟩,(Below.refl _ _).alloc (V _) _⟩
theorem En (L:List (Int×Int))(p:Int×Int):az bd (L++[p])=az bd L++[J X p.1,J X p.2]:=by rw[gR,fX];rfl
def nd (w:World) (j B:Value) (P:List (Int×Int)) (C:List (List UInt8)) (W:World):Prop:=ay w [] [⟨w.heap.size,189,2,j,O P,az bd P⟩,⟨w.heap.size,9,1,B,O C,C.map aR⟩] W
def Dv (w:World) (e:Ending) (w':World):Prop:=∃C j B,Below w.heap.size w C/\e=OK (.tuple #[j,B])/\nd C j B tH o9 w'
theorem JR:(OF 28).all (λr=>decide ((iQ r).length<=63)&&decide ((fc r).length<=63))=true:=by kernel_rfl
theorem DT {x:List UInt8}{i:Nat}(h:i=(O x)\/x.getD i 0=32):fx x (i+1)=((fx x i).1++[(x.take i).drop (fx x i).2],i+1):=if_pos h
theorem G5 {x:List UInt8}{i:Nat}(h:¬(i=(O x)\/x.getD i 0=32)):fx x (i+1)=fx x i:=if_neg h
theorem GM {w:World}{j B:Value}{P:List (Int×Int)}{C:List (List UInt8)}{p:Int×Int}{c:List UInt8}{W:World}
  (h:ay w [] [⟨w.heap.size,9,1,B,O C+1,C.map aR++[aR c]⟩,⟨w.heap.size,189,2,j,O P+1,az bd P++[J X p.1,J X p.2]⟩] W):nd w j B (P++[p]) (C++[c]) W:=by
 unfold nd;rw[En,List.map_append,Z,Z];exact dR h
set_option maxHeartbeats 4000000 in
theorem zK (w:World):Calls OJ 247 #[] w (Dv w):=by
 go_enter Tryz.func247,Tryz.ntmps247
 go_wp2_with fail
 refine(C0 w).mono ?_;rintro e N ⟨⟨A,rfl,hS⟩,cI⟩;have HS:=U hS;have Ht:=U cI;have Hu:Hid (nd N (OL none 0 0) (OL none 0 0) (iQ 0) (fc 0) N):=U (fT (fT (lz N) N.heap.size 9 1) N.heap.size 189 2);clear hS cI;go_wp2_with fail
 go_loopg [2,3,5] 27 (λg v1 v2 i=> λwr=>∃(r:Nat),r+g=27/\i=J X (r:Int)/\Hid (nd N v1 v2 (iQ r) (fc r) wr))
 case atStart=>exact⟨0,by omega,rfl,Hu⟩
 case round=>
  obtain⟨r,hr,rfl,HC⟩:=hrel
  cases gk with
  |zero=>
   obtain rfl:r=27:=by omega
   rw[Ex,zc] at HC;go_wp2_with fail
   go_ret2;exact⟨N,_,_,Ht.out,rfl,HC.out⟩
  |succ g=>
   have Kz:((r:Int)<27):=(by omega);have G:r<(O cV):=by rw[ye];omega
   have B:cV[r].length<=200:=by
    have:=OD.1 In cV[r] (List.getElem_mem G)
    simpa using this
   have T:(iQ r).length<=63/\(fc r).length<=63:=by
    have:=OD.1 JR r (List.mem_range.2 (by omega))
    simpa using this
   have dO:=wI r G;have eE:=Cx r G
   have fJ:∀W,Sl W A (cV.map aR)->∃ad,A=some ad/\W.cell? (ad.add r)=some (OM (bs cV[r])):= λW hW=>by
    obtain⟨ad,h1,_,h2⟩:=hW.at_ r (by rw[List.length_map];exact G);rw[List.getElem_map] at h2;exact⟨ad,h1,h2⟩
   obtain⟨x,hx⟩:∃x,cV[r]=x:=⟨_,rfl⟩;rw[hx] at B dO eE fJ;have K3:=U dO;have K8:=U eE;have HX:=U fJ;have HR:=U hr;have gj:=U B;have Hl:=U T
   have JT:Hid (nd N _ _ (iQ r++kX r (fx x 0).1.length) (fc r++(fx x 0).1) wr):=U (by
    unfold fx;rw[OE,List.length_nil,show kX r 0=[] from rfl,OE];exact HC.out)
   clear dO eE fJ hx hr B G HC T;obtain⟨xl,kA⟩:∃xl,O x=xl:=⟨_,rfl⟩;have Kt:=U kA;clear kA;go_wp2_with fail
   go_loopg [2,3,6,7,8] (xl+1) (λgg v1 v2 t6 t7 t8=> λwx=>∃(i:Nat),i+gg=xl+1/\t6=J X (((fx x i).1.length:Int)+1)/\t7=J X ((fx x i).2:Nat)/\t8=J X (i:Int)/\Hid (nd N v1 v2 (iQ r++kX r (fx x i).1.length) (fc r++(fx x i).1) wx))
   case atStart=>exact⟨0,by omega,rfl,rfl,rfl,JT⟩
   case round=>
    obtain⟨i,hi,rfl,rfl,rfl,j⟩:=hrel;obtain⟨ad,rfl,dy⟩:=HX.out wr (HS.out.below j.out.1)
    have K9:Hid (∀W,Below N.heap.size N W->W.cell? (ad.add r)=some (OM (bs x))):=U (λW hb=>by
     obtain⟨Kv,h1,h2⟩:=HX.out W (HS.out.below hb)
     cases h1
     exact h2)
    have hl:=Kt.out
    cases gk with
    |zero=>
     obtain rfl:i=xl+1:=by omega
     have Ku:¬(((xl+1:Nat):Int)<=(O x:Int)):=(by omega);have K:Hid (nd N _ _ (iQ (r+1)) (fc (r+1)) wr):=U (by rw[K8.out,K3.out];unfold wO;rw[hl];exact j.out);clear j;go_wp2_with fail
     go_roundg g
     case measure=>omega
     case rel=>exact⟨r+1,by have:=HR.out;omega,rfl,K⟩
    |succ gg=>
     have Ku:((i:Int)<=(O x:Int)):=(by omega);have av:=AU x i;have B:=gj.out;have T:=Hl.out
     by_cases I:i=(O x)\/x.getD i 0=32
     ·have D:=DT I
      have jg:((i:Int)==(O x:Int))=true\/(((i:Int)==(O x:Int))=false/\∃h:i<O x,((x[i].toNat:Int)==32)=true):=by
       by_cases h1:i=O x
       ·left;rw[h1];simp
       ·right
        have C:i<(O x):=(by omega);refine⟨by rw[beq_eq_false_iff_ne];omega,C,?_⟩;have h2:x.getD i 0=32:=(by rcases I with h|h;exact absurd h h1;exact h);have cE:x.getD i 0=x[i]:=(by simp[OI,C]);rw[<-cE,h2];rfl
      obtain⟨⟨cs,fr⟩,hc⟩:∃q,fx x i=q:=⟨_,rfl⟩;rw[hc] at D av j⊢;dsimp only at D av j⊢;have jY:=Ew r (O cs);have hz:=j.out;obtain⟨A1,c1,q1⟩:=bg hz.2.2.head;obtain⟨A2,c2,q2,_⟩:=cO hz.2.2.tail.head;dsimp only at q1 q2;subst q1 q2;unfold nd at hz;obtain⟨n1,aJ⟩:∃n1,(iQ r++kX r (O cs)).length=n1:=⟨_,rfl⟩;obtain⟨n2,bM⟩:∃n2,(fc r++cs).length=n2:=⟨_,rfl⟩;have cI:n1<=300:=(by rw[<-aJ,Z,Gh];omega);have Kw:n2<=300:=(by rw[<-bM,Z];omega);rw[aJ,bM] at hz⊢;have K4:=U aJ;have K5:=U bM;have HP:=U hz;have M:=U D;have K6:=U jY;have KA:OH.wrap ((O cs:Int)+1+1)=(O cs:Int)+1+1:=(by rw[OC];omega);have KB:OH.wrap ((i:Int)+1)=(i:Int)+1:=(by rw[OC];omega);have Ky:((fr:Int)<=(i:Int)):=(by omega);have Kx:¬((i:Int)<(fr:Int)):=(by omega);have kU:True:=trivial;have HI:=U hi;clear I D hc hz jY hi hl B T av j aJ bM;rcases jg with e1|⟨e1,C,e2⟩
      all_goals
       go_wp2_with (first
        |(at_builtin;have _t:=kU;refine f7 wP rfl rfl 1 [J X (r:Int),J X ((O cs:Int)+1)] rfl HP.out rfl rfl (by intro u hu;simp at hu;rcases hu with rfl|rfl<;>rfl) (by omega) ⟨V _,HP.out.1.size⟩ (by simp) (by simp) ?_;clear kU;intro v1 W1 dv;have K:=U dv;have rG:=K9.out _ dv.1;clear dv dy)
        |(at_builtin;refine f7 jy rfl rfl 1 [aR ((x.take i).drop fr)] rfl (dR K.out) rfl rfl (by intro u hu;simp[aR] at hu;subst hu;rfl) (by omega) ⟨V _,K.out.1.size⟩ (by simp) (by simp) ?_;intro v2 W2 iP;have K0:=U iP;clear iP))
       go_roundg gg
       case measure=>omega
       case rel=>
        refine⟨i+1,by have:=HI.out;omega,?_,?_,rfl,U ?_⟩
        ·rw[M.out,Z];rfl
        ·rw[M.out];rfl
        ·rw[M.out,Z,List.length_singleton,K6.out,<-OB,<-OB]
         have h4:=K0.out;rw[<-K4.out,<-K5.out] at h4;exact GM h4
     ·have D:=G5 I
      rw[not_or] at I;have C:i<(O x):=(by omega);have e1:((i:Int)==(O x:Int))=false:=(by rw[beq_eq_false_iff_ne];omega);have cE:x.getD i 0=x[i]:=by simp[OI,C]
      have e2:((x[i].toNat:Int)==32)=false:=by
       rw[beq_eq_false_iff_ne];intro h;apply I.2;rw[cE];exact UInt8.toNat_inj.1 (by show x[i].toNat=32;omega)
      have K:Hid (nd N _ _ (iQ r++kX r (fx x (i+1)).1.length) (fc r++(fx x (i+1)).1) wr):=U (by rw[D];exact j.out);have M:=U D;clear I D cE av T j;go_wp2_with fail
      go_roundg gg
      case measure=>omega
      case rel=>exact⟨i+1,by omega,by rw[M.out],by rw[M.out],rfl,K⟩
end Go.Proofs.YthhijgcfbjcgiaaGreatDoor
