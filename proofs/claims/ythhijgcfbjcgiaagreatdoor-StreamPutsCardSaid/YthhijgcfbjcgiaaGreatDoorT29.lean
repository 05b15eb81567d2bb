/- Pairs -/
import Derived.Test.YthhijgcfbjcgiaaGreatDoorT28
namespace Go.Proofs.YthhijgcfbjcgiaaGreatDoor
open Go Go.RowKit
attribute [local go_sem] Oper.semAt_some
open Go.Lib renaming hid→O
open List renaming length→U,setIfInBounds_toArray→Z,set_cons_succ→X,set_cons_zero→J,getElem?_append_right→OD,mem_of_mem_drop→OG,drop_succ_cons→OJ,length_append→OK,mem_nil_iff→OM,drop_zero→ON,mem_cons→OO
open Go.IntKind renaming i64→V
open Go.Value renaming int→Y,bool→OB,slice→OC,pointer→OI
open Go.Proofs.YthhijgcfbjcgiaaGreatDoor.bY renaming take→OA,step→OH
open Go.World renaming drew→OE
open Go.Obj renaming cells→OF
open Bool renaming and_eq_true→OL
open Nat renaming le_refl→OP
abbrev gv:Type:=(Int×Int)×Int
def io (first:Bool) (k:Nat):Bool:=first&&k==0
def cD (l:List UInt8) (i:Int) (first:Bool):Nat->Int
 |0=>i
 |k+1=>cD l i first k+(aS l (cD l i first k) (io first k)).2.2.1
def gK (l:List UInt8) (i:Int) (first:Bool) (k:Nat):(Int×Int)×Bool×Int×Int:=aS l (cD l i first k) (io first k)
def mI (l:List UInt8) (i:Int) (first:Bool) (pre:List gv):Prop:=∀k x,pre[k]? =some x->x=((gK l i first k).1,(gK l i first k).2.2.2)/\(gK l i first k).2.1=false
theorem mI.snoc {l:List UInt8}{i:Int}{first:Bool}{pre:List gv}(h:mI l i first pre)(he:(gK l i first (U pre)).2.1=false):mI l i first (pre++[((gK l i first (U pre)).1,(gK l i first (U pre)).2.2.2)]):=by
 intro k x j;rcases Nat.lt_trichotomy k (U pre) with C|B|D
 ·rw[List.getElem?_append_left C] at j;exact h k x j
 ·subst B
  rw[OD (OP _)] at j;simp at j;exact⟨j.symm,he⟩
 ·rw[OD (by omega)] at j
  rw[List.getElem?_eq_none (by simp;omega)] at j
  cases j
def mS (s:Nat) (r:(Int×Int)×Bool×Int×Int):Prop:=0<=r.2.2.1/\r.2.2.1<=s/\(r.2.2.2=0->1<=r.2.2.1)/\(r.2.2.2=0->r.2.1=false->0<=r.1.1/\r.1.1<=63/\ -127<=r.1.2/\r.1.2<=127/\r.1.2≠0)/\(r.2.2.2=0\/(r.2.1=false/\r.2.2.1=0))
theorem rr (s:List UInt8):∀(T:List ((Int×Int)×List UInt8))(more:Bool),(∀x∈T,0<=x.1.1/\x.1.1<=63/\1<=x.1.2/\x.1.2<=127)->mS (U s) (bZ s T more)
 |[],more,_=>by
  show mS _ ((0,0),false,0,if more then 5 else 7);unfold mS
  cases more<;>simp
 |(p,c)::T,more,h=>by
  have C:= λx D=>h x (List.mem_cons_of_mem _ D)
  cases B:bJ s c with
  |false=>rw[rq B];exact rr s T more C
  |true=>
   by_cases hl:U s<=U c
   ·rw[nk B hl];exact rr s T true C
   ·rw[pl B hl]
    have j:=h (p,c) (by simp);dsimp only at j;unfold mS;dsimp only;refine⟨by omega,by omega,λ_=>by omega,λ_ _=>⟨j.1,j.2.1,?_⟩,.inl rfl⟩
    split<;>omega
theorem Iy (first:Bool):(aL first).all (λx=>decide (0<=x.1.1)&&decide (x.1.1<=63)&&decide (1<=x.1.2)&&decide (x.1.2<=127))=true:=by cases first<;>kernel_rfl
theorem lO (l:List UInt8)(i:Int)(first:Bool)(h0:0<=i)(h1:i<=8*(U l:Int)):mS (8*U l - i.toNat) (aS l i first):=by
 unfold aS;rw[if_neg (by omega),if_neg (by omega)];dsimp only;have j:(aI l i.toNat (min 20 (8*U l - i.toNat))).length<=8*U l - i.toNat:=by rw[bo];omega
 have C:(aI l i.toNat (min 20 (8*U l - i.toNat))).length<=20:=by rw[bo];omega
 have B:=l7 l i.toNat (min 20 (8*U l - i.toNat));generalize aI l i.toNat (min 20 (8*U l - i.toNat))=s at j B C;generalize 8*U l - i.toNat=m at j
 split
 ·split
  ·unfold mS;simp
  ·rename_i K
   split
   ·unfold mS;simp
   ·rename_i G
    have M:=rs ((s.take 12).drop 6) 6 (by simp;omega) (λc D=>B c (List.mem_of_mem_take (OG D)));have h8:=rs (s.drop 12) 8 (by simp;omega) (λc D=>B c (OG D));simp only[Bool.or_eq_true,beq_iff_eq,not_or] at G;generalize cz ((s.take 12).drop 6)=a at M;unfold mS;dsimp only;refine⟨by omega,by omega,λ_=>by omega,λ_ _=>⟨by omega,by omega,?_⟩,.inl rfl⟩;have N:∀n:Nat,n<256->i8 n≠0->i8 n≠ -128-> -127<=i8 n/\i8 n<=127/\i8 n≠0:= λn hn a b=>by unfold i8 at*;split at* <;>omega
    exact N _ (by omega) G.1 G.2
 ·split
  ·rename_i I
   simp only[OL] at I;have:=(List.isPrefixOf_iff_prefix.1 I.2).length_le;unfold mS;dsimp only;have h2:U bz=2:=rfl;refine⟨by omega,by omega,λ_=>by omega,(λ_ h=>by cases h),.inl rfl⟩
  ·have h:=rr s (aL first) (!first&&bJ s bz) (λx T=>by have h:=List.all_eq_true.1 (Iy first) x T;simp only[OL,decide_eq_true_eq] at h;omega)
   unfold mS at h⊢;exact⟨h.1,by omega,h.2.2⟩
theorem jm (l:List UInt8)(i:Int)(first:Bool)(j:0<=i)(B:i<=8*(U l:Int)):∀k,0<=cD l i first k/\cD l i first k<=8*(U l:Int)
 |0=>⟨j,B⟩
 |k+1=>by
  have C:=jm l i first j B k;have h:=lO l (cD l i first k) (io first k) C.1 C.2;unfold mS at h;show 0<=cD l i first k+_/\cD l i first k+_<=_;omega
def Ja (j:Nat) (w:World):Int:=match w.cell? ⟨j,1,none⟩ with|some (Y V x)=>x|_=>0
theorem qd {w:World}{j:Nat}{t:TypeId}{v:Value}{x:Int}(h:ab w j t #[v,Y V x]):Ja j w=x:=by
 unfold Ja;rw[h.cell 1];rfl
set_option maxRecDepth 100000 in
set_option maxHeartbeats 8000000 in
theorem uI (n:Nat)(hn:1<=n)(B b1 D:Nat)(A:Option Addr)(m c:Nat)(l:List UInt8)(T:Int)(first:Bool)(hl:U l=m)(hsz:m<=2 ^ 47)(h0:0<=T)(h1:T<=8*(U l:Int))(Lj:B≠D)(C:List gv->World->Prop)
  (La:∀pre W v,C pre W->C pre (W.setCell ⟨B,1,none⟩ v)) (Lb:∀pre W v,C pre W->C pre (W.setCell ⟨D,0,none⟩ v)) (Lc:∀pre W W',C pre W->Below W.heap.size W W'->C pre W')
  (hC0:∀pre W,C pre W->∀x∈pre,x.2=0) (hCs:∀pre W,C pre W->ab W b1 300 #[OI (some ⟨B,0,none⟩)]/\Sl W A (l.map ag)/\Ts W):
  wk Fence.wide n Tryz.prog 288 #[OI (some ⟨b1,0,none⟩),OI (some ⟨D,0,none⟩)] (λx:gv=> #[.agg #[Y V x.1.1,Y V x.1.2],Y V x.2])
   (λpre W=>C pre W/\ab W B 302 #[OC A m c,Y V T]/\ab W D 4 #[OB first])
   (λpre W=>C pre W/\ab W B 302 #[OC A m c,Y V (cD l T first (U pre+1))]/\ab W D 4 #[OB false])
   (λpre W=>C pre W/\ab W B 302 #[OC A m c,Y V (cD l T first (U pre))]/\ab W D 4 #[OB false])
   (λpre W=>C pre W/\ab W B 302 #[OC A m c,Y V (cD l T first (U pre+1))]/\ab W D 4 #[OB false])
   (λxs=>mI l T first xs/\(gK l T first (U xs)).2.1=true) (mI l T first):=by
 intro lp K Jx W hK hY L8 Lh;refine callsIn_of_wp Tryz.func288 rfl trivial ?_ rfl;simp only[Tryz.ntmps288,List.size_toArray,List.length_cons,List.length_nil,Nat.reduceAdd,Nat.reduceSub,Array.replicate_succ,Array.replicate_zero,List.push_toArray,List.append_toArray,List.nil_append,List.cons_append];have HY:=O hY;have KW:=O La;have KX:=O Lb;have KY:=O Lc;have Ln:=O hCs;have KV:=O hC0;have HK:=O hK;have HL:=O hl;have H0:=O L8;have Lo:=O Lh;have Kv:=O (jm l T first h0 h1);have L4:=O Lj;clear hY La Lb Lc hCs hC0 hK hl L8 Lh h0 h1 Lj;gi_wp2_with fail
 gi_loopw [] (λwr=>∃(pre:List gv),Hid (mI l T first pre)/\Hid (C pre wr)/\Hid (ab wr B 302 #[OC A m c,Y V (cD l T first (U pre))])/\Hid (ab wr D 4 #[OB (io first (U pre))])/\Hid (K wr)) (λwr=>8*m - (Ja B wr).toNat)
 case atStart=>
  exact⟨[],O (λk x h=>by simp at h),O H0.out.1,O H0.out.2.1,O (by have h:=H0.out.2.2;unfold io;simpa using h),Lo⟩
 case round=>
  obtain⟨pre,Kx,KD,cE,Hl,KZ⟩:=hrel;have x0:=cE.out.cell 0;have x1:=cE.out.cell 1;have x2:=Hl.out.cell 0;obtain⟨kA,hA,Lm⟩:=Ln.out _ _ KD.out;have x3:=kA.cell 0;have G:=O (λW h1 h2=>DS A m c l (cD l T first (U pre)) (io first (U pre)) W h1 HL.out hsz h2);have KR:=lO l (cD l T first (U pre)) (io first (U pre)) (Kv.out _).1 (Kv.out _).2;have kU:cD l T first (U pre+1)=cD l T first (U pre)+(aS l (cD l T first (U pre)) (io first (U pre))).2.2.1:=rfl;have KM:gK l T first (U pre)=aS l (cD l T first (U pre)) (io first (U pre)):=rfl;obtain⟨⟨⟨p1,p2⟩,en,nb,er⟩,hr⟩:∃r,aS l (cD l T first (U pre)) (io first (U pre))=r:=⟨_,rfl⟩;have Lk:=(Kv.out (U pre));have KT:=(Kv.out (U pre+1));rw[hr] at G KR kU KM;unfold kF at G;dsimp only at G kU;rw[kU] at KT;obtain⟨pk,Ll⟩:∃pk,cD l T first (U pre)=pk:=⟨_,rfl⟩;obtain⟨fk,Lg⟩:∃fk,io first (U pre)=fk:=⟨_,rfl⟩;have Li:(U l:Int)=(m:Int):=(by rw[HL.out]);rw[Ll] at G Lk KT kU x1 cE;rw[Li] at Lk KT;rw[Lg] at G x2 Hl;have Ls:IntKind.i64.wrap (pk+nb)=pk+nb:=(by rw[IntKind.wrap_i64];omega);have jY:=O kU;have jg:=O KM;have L5:=O KR
  have Le:b1≠D:=by
   rintro rfl;have h:=kA.symm.trans Hl.out;simp at h
  have Lf:b1≠B:=by
   rintro rfl;have h:=kA.symm.trans cE.out;simp at h
  have iP:B≠D:=L4.out;have KB:D≠B:= λh=>L4.out h.symm;have Kw:=O (show aa [(B,302,#[OC A m c,Y V pk]),(D,4,#[OB fk]),(b1,300,#[OI (some ⟨B,0,none⟩)])] wr.drew from aa.cons cE.out (aa.cons Hl.out (aa.cons kA (ai _))));have KU:=O (show Sl wr.drew A (l.map ag) from hA);have L6:=O (show Ts wr.drew from Lm);have KA:B<wr.heap.size/\b1<wr.heap.size/\D<wr.heap.size:=⟨cE.out.lt,kA.lt,Hl.out.lt⟩;have L0:=O KA;have Lp:D≠b1:= λh=>Le h.symm;have Lq:B≠b1:= λh=>Lf h.symm;clear KR kU KM hr Ll Lg Li kA hA Lm KA;gi_wp2_with fail
  refine wpIn_wide.2 ?_;refine aP (λw'=>aa [(B,302,#[OC A m c,Y V pk]),(D,4,#[OB fk]),(b1,300,#[OI (some ⟨B,0,none⟩)])] w') 19 (OA 0 (OA 1 (OA 2 (OA 3 (OA 4 (OA 5 (OA 6 (OA 7 (OA 8 (.fork 9 (OA 10 (OA 11 (OA 12 (OA 13 (OA 14 (OH 15 (OH 16 (OH 17 (OH 18 (.done)))))))))) 15 (OH 9 (OA 10 (OA 11 (OA 12 (OA 13 (OA 14 (OH 16 (OH 17 (OH 18 (.done)))))))))))))))))))) (Kw.out) (λPE Kz=>?_)
  iterate 9
   refine af (v:=?_) rfl (by rfl) ?_ ?_
   rotate_left
   ·intro _ bM;(try dsimp only at bM);have z0:=bM.head.cell 0;have z1:=bM.head.cell 1;have z2:=bM.tail.head.cell 0;have z3:=bM.tail.tail.head.cell 0;dsimp only at z0 z1 z2 z3;go_simp;(try with_reducible rfl)
   simp only[Z,J,X]
  refine⟨?_,?_⟩
  ·refine aG (f:=289) rfl (by rfl) (by first|(go_simp;done)|(go_simp;rfl)) (G.out _ KU.out L6.out) ?_
   rintro e w2 ⟨rfl,av⟩;have dv:=Kw.out.below av;refine⟨_,rfl,_,λ_ h=>h,dv,?_⟩;simp only[Z,J,X]
   iterate 5
    refine af (v:=?_) rfl (by rfl) ?_ ?_
    rotate_left
    ·intro _ bM;(try dsimp only at bM);go_simp;(try with_reducible rfl)
    simp only[Z,J,X]
   obtain⟨g,hg⟩:∃g,w2.heap.size=g:=⟨_,rfl⟩;have Lr:wr.heap.size<=g:=(by have:=av.size;simp at this;omega);obtain⟨KN,KO,KQ⟩:=L0.out;have K9:g≠B:=(by omega);have K8:g≠D:=(by omega);have KL:B≠g:=(by omega);have KK:D≠g:=(by omega);refine aj (v:=?_) (w':=?_) rfl (by rfl) ?_ ?_ ?_;rotate_left 2
   ·go_simp;(try (constructor<;>with_reducible rfl))
   ·exact dv.alloc _
   simp only[Z,J,X];have M:=dv.alloc (OF #[Y V p1,Y V p2] 189);have fJ:ab (w2.alloc (OF #[Y V p1,Y V p2] 189)) g 189 #[Y V p1,Y V p2]:=aE (ab.new _ _ _) hg;have eE:Below wr.heap.size wr (w2.alloc (OF #[Y V p1,Y V p2] 189)):=(((Below.refl _ wr).drew).trans (av.mono (by simp))).alloc (by have:=av.size;simpa using this) _;refine bD _ (w':=?_) rfl (by rfl) ?_ ?_ ?_;rotate_left 1
   ·go_simp;(first|(with_reducible rfl)|(constructor<;>with_reducible rfl)|skip)
   ·exact M
   refine aj (v:=?_) (w':=?_) rfl (by rfl) ?_ ?_ ?_;rotate_left 2
   ·go_simp;(try (constructor<;>with_reducible rfl))
   ·exact M
   simp only[Z,J,X];refine aj (v:=?_) (w':=?_) rfl (by rfl) ?_ ?_ ?_;rotate_left 2
   ·go_simp;(try (constructor<;>with_reducible rfl))
   ·exact M
   simp only[Z,J,X];have gj:=M;refine Kz _ _ ?_;clear Kz PE;simp only[OJ,ON];go_wp2_with fail
   refine⟨rfl,?_⟩;generalize w2.alloc (OF #[Y V p1,Y V p2] 189)=w5 at gj fJ eE⊢;clear x0 x1 x2 x3 dv M av KN KO KQ hg;have j:=O gj;have dy:=O fJ;have rG:=O eE;clear gj fJ eE;have KC:=O (KY.out _ _ _ KD.out rG.out);have KG:=O (HK.out.below KZ.out rG.out);have z0:=j.out.head.cell 0;have z1:=j.out.head.cell 1;have z2:=j.out.tail.head.cell 0;have z3:=j.out.tail.tail.head.cell 0;have z4:=dy.out.cell 0;have z5:=dy.out.cell 1;have f1:=j.out.head.frozen 1;have f2:=j.out.tail.head.frozen 0;have K3:=O ((dy.out.far (p:=⟨D,0,none⟩) K8 (OB false)).far (p:=⟨B,1,none⟩) K9 (Y V (pk+nb)));have Hu:=O ((j.out.head.far (p:=⟨D,0,none⟩) iP (OB false)).set_ 1 (Y V (pk+nb)));have JT:=O ((j.out.tail.head.set_ 0 (OB false)).far (p:=⟨B,1,none⟩) KB (Y V (pk+nb)));have Ht:=O (KW.out _ _ (Y V (pk+nb)) (KX.out _ _ (OB false) KC.out));have K0:=O (HK.out.set (HK.out.set KG.out j.out.tail.head (v:=OB false) (p:=⟨D,0,none⟩)) (j.out.head.far (p:=⟨D,0,none⟩) iP (OB false)) (v:=Y V (pk+nb)) (p:=⟨B,1,none⟩));have z6:=K3.out.cell 0;have z7:=K3.out.cell 1;dsimp only at z0 z1 z2 z3 z4 z5 z6 z7 f1 f2
   cases en with
   |true=>
    gi_wp2_with fail
    refine⟨λ_ h=>(by cases h),?_⟩;gi_wp2_with fail
    refine bodyPost_ret (results_none rfl _ _ _) rfl ?_;exact⟨⟨_,rfl⟩,.inl ⟨pre,⟨Kx.out,by rw[jg.out]⟩,⟨Ht.out,by rw[jY.out];exact Hu.out,JT.out⟩,K0.out⟩⟩
   |false=>
    have N:=Kx.out.snoc (by rw[jg.out]);rw[jg.out] at N;dsimp only at N;obtain⟨fn,tmps,Ky,L7,Ku,hR⟩:=HY.out pre _ _ ⟨Ht.out,by rw[jY.out];exact Hu.out,JT.out⟩ K0.out N;have HR:=O hR;have cI:=O N;dsimp only at Ku;clear hR N;gi_wp2_with fail
    refine HR.out.mono ?_;rintro e W3 (⟨rfl,aJ,Kt⟩|⟨rfl,K5⟩)
    ·have KJ:er=0:=KV.out _ _ aJ.1 ((p1,p2),er) (by simp)
     subst KJ;have I:=aJ.2.1;rw[OK] at I;have I:ab W3 B 302 #[OC A m c,Y V (cD l T first (U pre+1))]:=I;rw[jY.out] at I;have KE:=O I;have dO:=O aJ;have KF:=O Kt;clear I aJ Kt Ku;gi_wp2_with fail
     refine⟨⟨pre++[((p1,p2),0)],cI,O dO.out.1,O dO.out.2.1,O ?_,KF⟩,?_⟩
     ·have h:=dO.out.2.2
      have e:io first (pre++[((p1,p2),(0:Int))]).length=false:=(by unfold io;simp);rw[e];exact h
     ·have h9:=qd KE.out;have KH:=qd cE.out
      have K4:=L5.out;unfold mS at K4;have KI:=K4.2.2.1 rfl;dsimp only at KI;rw[h9,KH];omega
    ·gi_wp2_with fail
     refine bodyPost_ret (results_none rfl _ _ _) rfl ?_;exact⟨⟨_,rfl⟩,.inr ⟨_,cI.out,K5⟩⟩
  ·obtain⟨g,hg⟩:∃g,wr.heap.size=g:=⟨_,rfl⟩
   obtain⟨KN,KO,KQ⟩:=L0.out;have K9:g≠B:=(by omega);have K8:g≠D:=(by omega);have KL:B≠g:=(by omega);have KK:D≠g:=(by omega);refine aj (v:=?_) (w':=?_) rfl (by rfl) ?_ ?_ ?_;rotate_left 2
   ·go_simp;(try (constructor<;>with_reducible rfl))
   ·exact Kw.out.alloc _
   simp only[Z,J,X];have hd:(OE wr).heap.size=g:=hg;have Ld:ab ((OE wr).alloc (OF #[Y V 0,Y V 0] 189)) g 189 #[Y V 0,Y V 0]:=aE (ab.new _ _ _) hd;have L9:Below (OE wr).heap.size (OE wr) ((OE wr).alloc (OF #[Y V 0,Y V 0] 189)):=(Below.refl _ _).alloc (OP _) _;refine aG (f:=289) rfl (by rfl) (by first|(go_simp;done)|(go_simp;rfl)) (G.out _ (KU.out.below L9) (L6.out.below L9)) ?_;rintro e w2 ⟨rfl,av⟩;have dv:=(Kw.out.alloc (OF #[Y V 0,Y V 0] 189)).below av;have K6:=Ld.below av Ld.lt;refine⟨_,rfl,_,λ_ h=>h,dv,?_⟩;simp only[Z,J,X]
   iterate 5
    refine af (v:=?_) rfl (by rfl) ?_ ?_
    rotate_left
    ·intro _ bM;(try dsimp only at bM);go_simp;(try with_reducible rfl)
    simp only[Z,J,X]
   have M:=aa.far (aa.far dv (p:=⟨g,0,none⟩) (λq hq=>by simp only[OO,OM,or_false] at hq;rcases hq with rfl|rfl|rfl<;>simp<;>omega) (Y V p1)) (p:=⟨g,1,none⟩) (λq hq=>by simp only[OO,OM,or_false] at hq;rcases hq with rfl|rfl|rfl<;>simp<;>omega) (Y V p2);have fJ:=(K6.set_ 0 (Y V p1)).set_ 1 (Y V p2);have eE:Below wr.heap.size wr ((w2.setCell ⟨g,0,none⟩ (Y V p1)).setCell ⟨g,1,none⟩ (Y V p2)):=((((((Below.refl _ wr).drew).alloc (by simp) _).trans (av.mono (by simp))).setCell (p:=⟨g,0,none⟩) (by show _<=g;omega) _).setCell (p:=⟨g,1,none⟩) (by show _<=g;omega) _);have q0:=K6.cell 0;have q1:=K6.cell 1;have k0:=K6.frozen 0;have k1:=K6.frozen 1;refine bD _ (w':=?_) rfl (by rfl) ?_ ?_ ?_;rotate_left 1
   ·go_simp;(first|(with_reducible rfl)|(constructor<;>with_reducible rfl)|skip)
   ·exact M
   refine aj (v:=?_) (w':=?_) rfl (by rfl) ?_ ?_ ?_;rotate_left 2
   ·go_simp;(try (constructor<;>with_reducible rfl))
   ·exact M
   simp only[Z,J,X];refine aj (v:=?_) (w':=?_) rfl (by rfl) ?_ ?_ ?_;rotate_left 2
   ·go_simp;(try (constructor<;>with_reducible rfl))
   ·exact M
   simp only[Z,J,X];have gj:=M;refine Kz _ _ ?_;clear Kz PE;simp only[OJ,ON];go_wp2_with fail
   refine⟨rfl,?_⟩;generalize (w2.setCell ⟨g,0,none⟩ (Y V p1)).setCell ⟨g,1,none⟩ (Y V p2)=w5 at gj fJ eE⊢;clear x0 x1 x2 x3 dv M av KN KO KQ hg;have j:=O gj;have dy:=O fJ;have rG:=O eE;clear gj fJ eE;have KC:=O (KY.out _ _ _ KD.out rG.out);have KG:=O (HK.out.below KZ.out rG.out);have z0:=j.out.head.cell 0;have z1:=j.out.head.cell 1;have z2:=j.out.tail.head.cell 0;have z3:=j.out.tail.tail.head.cell 0;have z4:=dy.out.cell 0;have z5:=dy.out.cell 1;have f1:=j.out.head.frozen 1;have f2:=j.out.tail.head.frozen 0;have K3:=O ((dy.out.far (p:=⟨D,0,none⟩) K8 (OB false)).far (p:=⟨B,1,none⟩) K9 (Y V (pk+nb)));have Hu:=O ((j.out.head.far (p:=⟨D,0,none⟩) iP (OB false)).set_ 1 (Y V (pk+nb)));have JT:=O ((j.out.tail.head.set_ 0 (OB false)).far (p:=⟨B,1,none⟩) KB (Y V (pk+nb)));have Ht:=O (KW.out _ _ (Y V (pk+nb)) (KX.out _ _ (OB false) KC.out));have K0:=O (HK.out.set (HK.out.set KG.out j.out.tail.head (v:=OB false) (p:=⟨D,0,none⟩)) (j.out.head.far (p:=⟨D,0,none⟩) iP (OB false)) (v:=Y V (pk+nb)) (p:=⟨B,1,none⟩));have z6:=K3.out.cell 0;have z7:=K3.out.cell 1;dsimp only at z0 z1 z2 z3 z4 z5 z6 z7 f1 f2
   cases en with
   |true=>
    gi_wp2_with fail
    refine⟨λ_ h=>(by cases h),?_⟩;gi_wp2_with fail
    refine bodyPost_ret (results_none rfl _ _ _) rfl ?_;exact⟨⟨_,rfl⟩,.inl ⟨pre,⟨Kx.out,by rw[jg.out]⟩,⟨Ht.out,by rw[jY.out];exact Hu.out,JT.out⟩,K0.out⟩⟩
   |false=>
    have N:=Kx.out.snoc (by rw[jg.out]);rw[jg.out] at N;dsimp only at N;obtain⟨fn,tmps,Ky,L7,Ku,hR⟩:=HY.out pre _ _ ⟨Ht.out,by rw[jY.out];exact Hu.out,JT.out⟩ K0.out N;have HR:=O hR;have cI:=O N;dsimp only at Ku;clear hR N;gi_wp2_with fail
    refine HR.out.mono ?_;rintro e W3 (⟨rfl,aJ,Kt⟩|⟨rfl,K5⟩)
    ·have KJ:er=0:=KV.out _ _ aJ.1 ((p1,p2),er) (by simp)
     subst KJ;have I:=aJ.2.1;rw[OK] at I;have I:ab W3 B 302 #[OC A m c,Y V (cD l T first (U pre+1))]:=I;rw[jY.out] at I;have KE:=O I;have dO:=O aJ;have KF:=O Kt;clear I aJ Kt Ku;gi_wp2_with fail
     refine⟨⟨pre++[((p1,p2),0)],cI,O dO.out.1,O dO.out.2.1,O ?_,KF⟩,?_⟩
     ·have h:=dO.out.2.2
      have e:io first (pre++[((p1,p2),(0:Int))]).length=false:=(by unfold io;simp);rw[e];exact h
     ·have h9:=qd KE.out;have KH:=qd cE.out
      have K4:=L5.out;unfold mS at K4;have KI:=K4.2.2.1 rfl;dsimp only at KI;rw[h9,KH];omega
    ·gi_wp2_with fail
     refine bodyPost_ret (results_none rfl _ _ _) rfl ?_;exact⟨⟨_,rfl⟩,.inr ⟨_,cI.out,K5⟩⟩
end Go.Proofs.YthhijgcfbjcgiaaGreatDoor
