/- Pairs -/
import Derived.Test.YthhijgcfbjcgiaaGreatDoorQ28
namespace Go.Proofs.YthhijgcfbjcgiaaGreatDoor
open Go Go.RowKit
attribute [local go_sem] Oper.semAt_some
open Go.Lib renaming hid→O
open List renaming length→U,setIfInBounds_toArray→Z,set_cons_succ→X,set_cons_zero→J,getElem?_append_right→OD,mem_of_mem_drop→OG,drop_succ_cons→OJ,length_append→OK,mem_nil_iff→OM,drop_zero→ON,mem_cons→OO
open Go.IntKind renaming i64→V
open Go.Value renaming int→Y,bool→OB,slice→OC,pointer→OI
open Go.Proofs.YthhijgcfbjcgiaaGreatDoor.cb renaming take→OA,step→OH
open Go.World renaming drew→OE
open Go.Obj renaming cells→OF
open Bool renaming and_eq_true→OL
open Nat renaming le_refl→OP
abbrev gx:Type:=(Int×Int)×Int
def iv (first:Bool) (k:Nat):Bool:=first&&k==0
def cF (l:List UInt8) (i:Int) (first:Bool):Nat->Int
 |0=>i
 |k+1=>cF l i first k+(aR l (cF l i first k) (iv first k)).2.2.1
def gK (l:List UInt8) (i:Int) (first:Bool) (k:Nat):(Int×Int)×Bool×Int×Int:=aR l (cF l i first k) (iv first k)
def mF (l:List UInt8) (i:Int) (first:Bool) (pre:List gx):Prop:=∀k x,pre[k]? =some x->x=((gK l i first k).1,(gK l i first k).2.2.2)/\(gK l i first k).2.1=false
theorem mF.snoc {l:List UInt8}{i:Int}{first:Bool}{pre:List gx}(h:mF l i first pre)(he:(gK l i first (U pre)).2.1=false):mF l i first (pre++[((gK l i first (U pre)).1,(gK l i first (U pre)).2.2.2)]):=by
 intro k x j;rcases Nat.lt_trichotomy k (U pre) with C|B|D
 ·rw[List.getElem?_append_left C] at j;exact h k x j
 ·subst B
  rw[OD (OP _)] at j;simp at j;exact⟨j.symm,he⟩
 ·rw[OD (by omega)] at j
  rw[List.getElem?_eq_none (by simp;omega)] at j
  cases j
def mO (s:Nat) (r:(Int×Int)×Bool×Int×Int):Prop:=0<=r.2.2.1/\r.2.2.1<=s/\(r.2.2.2=0->1<=r.2.2.1)/\(r.2.2.2=0->r.2.1=false->0<=r.1.1/\r.1.1<=63/\ -127<=r.1.2/\r.1.2<=127/\r.1.2≠0)/\(r.2.2.2=0\/(r.2.1=false/\r.2.2.1=0))
theorem rF (s:List UInt8):∀(T:List ((Int×Int)×List UInt8))(more:Bool),(∀x∈T,0<=x.1.1/\x.1.1<=63/\1<=x.1.2/\x.1.2<=127)->mO (U s) (bZ s T more)
 |[],more,_=>by
  show mO _ ((0,0),false,0,if more then 5 else 7);unfold mO
  cases more<;>simp
 |(p,c)::T,more,h=>by
  have C:= λx D=>h x (List.mem_cons_of_mem _ D)
  cases B:bJ s c with
  |false=>rw[rE B];exact rF s T more C
  |true=>
   by_cases hl:U s<=U c
   ·rw[ng B hl];exact rF s T true C
   ·rw[pA B hl]
    have j:=h (p,c) (by simp);dsimp only at j;unfold mO;dsimp only;refine⟨by omega,by omega,λ_=>by omega,λ_ _=>⟨j.1,j.2.1,?_⟩,.inl rfl⟩
    split<;>omega
theorem IP (first:Bool):(aQ first).all (λx=>decide (0<=x.1.1)&&decide (x.1.1<=63)&&decide (1<=x.1.2)&&decide (x.1.2<=127))=true:=by cases first<;>kernel_rfl
theorem lL (l:List UInt8)(i:Int)(first:Bool)(h0:0<=i)(h1:i<=8*(U l:Int)):mO (8*U l - i.toNat) (aR l i first):=by
 unfold aR;rw[if_neg (by omega),if_neg (by omega)];dsimp only;have j:(aI l i.toNat (min 20 (8*U l - i.toNat))).length<=8*U l - i.toNat:=by rw[bm];omega
 have C:(aI l i.toNat (min 20 (8*U l - i.toNat))).length<=20:=by rw[bm];omega
 have B:=lZ l i.toNat (min 20 (8*U l - i.toNat));generalize aI l i.toNat (min 20 (8*U l - i.toNat))=s at j B C;generalize 8*U l - i.toNat=m at j
 split
 ·split
  ·unfold mO;simp
  ·rename_i K
   split
   ·unfold mO;simp
   ·rename_i G
    have M:=rI ((s.take 12).drop 6) 6 (by simp;omega) (λc D=>B c (List.mem_of_mem_take (OG D)));have h8:=rI (s.drop 12) 8 (by simp;omega) (λc D=>B c (OG D));simp only[Bool.or_eq_true,beq_iff_eq,not_or] at G;generalize cB ((s.take 12).drop 6)=a at M;unfold mO;dsimp only;refine⟨by omega,by omega,λ_=>by omega,λ_ _=>⟨by omega,by omega,?_⟩,.inl rfl⟩;have N:∀n:Nat,n<256->i8 n≠0->i8 n≠ -128-> -127<=i8 n/\i8 n<=127/\i8 n≠0:= λn hn a b=>by unfold i8 at*;split at* <;>omega
    exact N _ (by omega) G.1 G.2
 ·split
  ·rename_i I
   simp only[OL] at I;have:=(List.isPrefixOf_iff_prefix.1 I.2).length_le;unfold mO;dsimp only;have h2:U bD=2:=rfl;refine⟨by omega,by omega,λ_=>by omega,(λ_ h=>by cases h),.inl rfl⟩
  ·have h:=rF s (aQ first) (!first&&bJ s bD) (λx T=>by have h:=List.all_eq_true.1 (IP first) x T;simp only[OL,decide_eq_true_eq] at h;omega)
   unfold mO at h⊢;exact⟨h.1,by omega,h.2.2⟩
theorem jh (l:List UInt8)(i:Int)(first:Bool)(j:0<=i)(B:i<=8*(U l:Int)):∀k,0<=cF l i first k/\cF l i first k<=8*(U l:Int)
 |0=>⟨j,B⟩
 |k+1=>by
  have C:=jh l i first j B k;have h:=lL l (cF l i first k) (iv first k) C.1 C.2;unfold mO at h;show 0<=cF l i first k+_/\cF l i first k+_<=_;omega
def Jm (j:Nat) (w:World):Int:=match w.cell? ⟨j,1,none⟩ with|some (Y V x)=>x|_=>0
theorem ql {w:World}{j:Nat}{t:TypeId}{v:Value}{x:Int}(h:ab w j t #[v,Y V x]):Jm j w=x:=by
 unfold Jm;rw[h.cell 1];rfl
set_option maxRecDepth 100000 in
set_option maxHeartbeats 8000000 in
theorem vk (n:Nat)(hn:1<=n)(B b1 D:Nat)(A:Option Addr)(m c:Nat)(l:List UInt8)(T:Int)(first:Bool)(hl:U l=m)(hsz:m<=2 ^ 47)(h0:0<=T)(h1:T<=8*(U l:Int))(Lo:B≠D)(C:List gx->World->Prop)
  (Lf:∀pre W v,C pre W->C pre (W.setCell ⟨B,1,none⟩ v)) (Lg:∀pre W v,C pre W->C pre (W.setCell ⟨D,0,none⟩ v)) (Lh:∀pre W W',C pre W->Below W.heap.size W W'->C pre W')
  (hC0:∀pre W,C pre W->∀x∈pre,x.2=0) (hCs:∀pre W,C pre W->ab W b1 300 #[OI (some ⟨B,0,none⟩)]/\Sl W A (l.map af)/\Ts W):
  wO Fence.wide n Tryz.prog 288 #[OI (some ⟨b1,0,none⟩),OI (some ⟨D,0,none⟩)] (λx:gx=> #[.agg #[Y V x.1.1,Y V x.1.2],Y V x.2])
   (λpre W=>C pre W/\ab W B 302 #[OC A m c,Y V T]/\ab W D 4 #[OB first])
   (λpre W=>C pre W/\ab W B 302 #[OC A m c,Y V (cF l T first (U pre+1))]/\ab W D 4 #[OB false])
   (λpre W=>C pre W/\ab W B 302 #[OC A m c,Y V (cF l T first (U pre))]/\ab W D 4 #[OB false])
   (λpre W=>C pre W/\ab W B 302 #[OC A m c,Y V (cF l T first (U pre+1))]/\ab W D 4 #[OB false])
   (λxs=>mF l T first xs/\(gK l T first (U xs)).2.1=true) (mF l T first):=by
 intro lp K Jx W hK hY Ld Lm;refine callsIn_of_wp Tryz.func288 rfl trivial ?_ rfl;simp only[Tryz.ntmps288,List.size_toArray,List.length_cons,List.length_nil,Nat.reduceAdd,Nat.reduceSub,Array.replicate_succ,Array.replicate_zero,List.push_toArray,List.append_toArray,List.nil_append,List.cons_append];have HY:=O hY;have L5:=O Lf;have L6:=O Lg;have L7:=O Lh;have Ls:=O hCs;have L4:=O hC0;have HK:=O hK;have HL:=O hl;have H0:=O Ld;have Lt:=O Lm;have K9:=O (jh l T first h0 h1);have La:=O Lo;clear hY Lf Lg Lh hCs hC0 hK hl Ld Lm h0 h1 Lo;gi_wp2_with fail
 gi_loopw [] (λwr=>∃(pre:List gx),Hid (mF l T first pre)/\Hid (C pre wr)/\Hid (ab wr B 302 #[OC A m c,Y V (cF l T first (U pre))])/\Hid (ab wr D 4 #[OB (iv first (U pre))])/\Hid (K wr)) (λwr=>8*m - (Jm B wr).toNat)
 case atStart=>
  exact⟨[],O (λk x h=>by simp at h),O H0.out.1,O H0.out.2.1,O (by have h:=H0.out.2.2;unfold iv;simpa using h),Lt⟩
 case round=>
  obtain⟨pre,KC,KJ,cz,wj,L8⟩:=hrel;have x0:=cz.out.cell 0;have x1:=cz.out.cell 1;have x2:=wj.out.cell 0;obtain⟨jT,hA,Lr⟩:=Ls.out _ _ KJ.out;have x3:=jT.cell 0;have G:=O (λW h1 h2=>Eb A m c l (cF l T first (U pre)) (iv first (U pre)) W h1 HL.out hsz h2);have KY:=lL l (cF l T first (U pre)) (iv first (U pre)) (K9.out _).1 (K9.out _).2;have kz:cF l T first (U pre+1)=cF l T first (U pre)+(aR l (cF l T first (U pre)) (iv first (U pre))).2.2.1:=rfl;have KU:gK l T first (U pre)=aR l (cF l T first (U pre)) (iv first (U pre)):=rfl;obtain⟨⟨⟨p1,p2⟩,en,nb,er⟩,hr⟩:∃r,aR l (cF l T first (U pre)) (iv first (U pre))=r:=⟨_,rfl⟩;have Lp:=(K9.out (U pre));have KZ:=(K9.out (U pre+1));rw[hr] at G KY kz KU;unfold kG at G;dsimp only at G kz;rw[kz] at KZ;obtain⟨pk,Lq⟩:∃pk,cF l T first (U pre)=pk:=⟨_,rfl⟩;obtain⟨fk,Ll⟩:∃fk,iv first (U pre)=fk:=⟨_,rfl⟩;have Ln:(U l:Int)=(m:Int):=(by rw[HL.out]);rw[Lq] at G Lp KZ kz x1 cz;rw[Ln] at Lp KZ;rw[Ll] at G x2 wj;have Lx:IntKind.i64.wrap (pk+nb)=pk+nb:=(by rw[IntKind.wrap_i64];omega);have ja:=O kz;have hU:=O KU;have Lb:=O KY
  have Lj:b1≠D:=by
   rintro rfl;have h:=jT.symm.trans wj.out;simp at h
  have Lk:b1≠B:=by
   rintro rfl;have h:=jT.symm.trans cz.out;simp at h
  have gJ:B≠D:=La.out;have KH:D≠B:= λh=>La.out h.symm;have Kr:=O (show aa [(B,302,#[OC A m c,Y V pk]),(D,4,#[OB fk]),(b1,300,#[OI (some ⟨B,0,none⟩)])] wr.drew from aa.cons cz.out (aa.cons wj.out (aa.cons jT (ag _))));have L0:=O (show Sl wr.drew A (l.map af) from hA);have Lc:=O (show Ts wr.drew from Lr);have KG:B<wr.heap.size/\b1<wr.heap.size/\D<wr.heap.size:=⟨cz.out.lt,jT.lt,wj.out.lt⟩;have L9:=O KG;have Lu:D≠b1:= λh=>Lj h.symm;have Lv:B≠b1:= λh=>Lk h.symm;clear KY kz KU hr Lq Ll Ln jT hA Lr KG;gi_wp2_with fail
  refine wpIn_wide.2 ?_;refine bf (λw'=>aa [(B,302,#[OC A m c,Y V pk]),(D,4,#[OB fk]),(b1,300,#[OI (some ⟨B,0,none⟩)])] w') 19 (OA 0 (OA 1 (OA 2 (OA 3 (OA 4 (OA 5 (OA 6 (OA 7 (OA 8 (.fork 9 (OA 10 (OA 11 (OA 12 (OA 13 (OA 14 (OH 15 (OH 16 (OH 17 (OH 18 (.done)))))))))) 15 (OH 9 (OA 10 (OA 11 (OA 12 (OA 13 (OA 14 (OH 16 (OH 17 (OH 18 (.done)))))))))))))))))))) (Kr.out) (λPE KF=>?_)
  iterate 9
   refine aj (v:=?_) rfl (by rfl) ?_ ?_
   rotate_left
   ·intro _ bE;(try dsimp only at bE);have z0:=bE.head.cell 0;have z1:=bE.head.cell 1;have z2:=bE.tail.head.cell 0;have z3:=bE.tail.tail.head.cell 0;dsimp only at z0 z1 z2 z3;go_simp;(try with_reducible rfl)
   simp only[Z,J,X]
  refine⟨?_,?_⟩
  ·refine aX (f:=289) rfl (by rfl) (by first|(go_simp;done)|(go_simp;rfl)) (G.out _ L0.out Lc.out) ?_
   rintro e w2 ⟨rfl,aB⟩;have dD:=Kr.out.below aB;refine⟨_,rfl,_,λ_ h=>h,dD,?_⟩;simp only[Z,J,X]
   iterate 5
    refine aj (v:=?_) rfl (by rfl) ?_ ?_
    rotate_left
    ·intro _ bE;(try dsimp only at bE);go_simp;(try with_reducible rfl)
    simp only[Z,J,X]
   obtain⟨g,hg⟩:∃g,w2.heap.size=g:=⟨_,rfl⟩;have Lw:wr.heap.size<=g:=(by have:=aB.size;simp at this;omega);obtain⟨KV,KW,KX⟩:=L9.out;have K5:g≠B:=(by omega);have K4:g≠D:=(by omega);have KT:B≠g:=(by omega);have KR:D≠g:=(by omega);refine az (v:=?_) (w':=?_) rfl (by rfl) ?_ ?_ ?_;rotate_left 2
   ·go_simp;(try (constructor<;>with_reducible rfl))
   ·exact dD.alloc _
   simp only[Z,J,X];have M:=dD.alloc (OF #[Y V p1,Y V p2] 189);have fW:ab (w2.alloc (OF #[Y V p1,Y V p2] 189)) g 189 #[Y V p1,Y V p2]:=aH (ab.new _ _ _) hg;have eE:Below wr.heap.size wr (w2.alloc (OF #[Y V p1,Y V p2] 189)):=(((Below.refl _ wr).drew).trans (aB.mono (by simp))).alloc (by have:=aB.size;simpa using this) _;refine bG _ (w':=?_) rfl (by rfl) ?_ ?_ ?_;rotate_left 1
   ·go_simp;(first|(with_reducible rfl)|(constructor<;>with_reducible rfl)|skip)
   ·exact M
   refine az (v:=?_) (w':=?_) rfl (by rfl) ?_ ?_ ?_;rotate_left 2
   ·go_simp;(try (constructor<;>with_reducible rfl))
   ·exact M
   simp only[Z,J,X];refine az (v:=?_) (w':=?_) rfl (by rfl) ?_ ?_ ?_;rotate_left 2
   ·go_simp;(try (constructor<;>with_reducible rfl))
   ·exact M
   simp only[Z,J,X];have gy:=M;refine KF _ _ ?_;clear KF PE;simp only[OJ,ON];go_wp2_with fail
   refine⟨rfl,?_⟩;generalize w2.alloc (OF #[Y V p1,Y V p2] 189)=w5 at gy fW eE⊢;clear x0 x1 x2 x3 dD M aB KV KW KX hg;have j:=O gy;have dE:=O fW;have rX:=O eE;clear gy fW eE;have KI:=O (L7.out _ _ _ KJ.out rX.out);have KM:=O (HK.out.below L8.out rX.out);have z0:=j.out.head.cell 0;have z1:=j.out.head.cell 1;have z2:=j.out.tail.head.cell 0;have z3:=j.out.tail.tail.head.cell 0;have z4:=dE.out.cell 0;have z5:=dE.out.cell 1;have f1:=j.out.head.frozen 1;have f2:=j.out.tail.head.frozen 0;have K0:=O ((dE.out.far (p:=⟨D,0,none⟩) K4 (OB false)).far (p:=⟨B,1,none⟩) K5 (Y V (pk+nb)));have Ip:=O ((j.out.head.far (p:=⟨D,0,none⟩) gJ (OB false)).set_ 1 (Y V (pk+nb)));have Iq:=O ((j.out.tail.head.set_ 0 (OB false)).far (p:=⟨B,1,none⟩) KH (Y V (pk+nb)));have Io:=O (L5.out _ _ (Y V (pk+nb)) (L6.out _ _ (OB false) KI.out));have J2:=O (HK.out.set (HK.out.set KM.out j.out.tail.head (v:=OB false) (p:=⟨D,0,none⟩)) (j.out.head.far (p:=⟨D,0,none⟩) gJ (OB false)) (v:=Y V (pk+nb)) (p:=⟨B,1,none⟩));have z6:=K0.out.cell 0;have z7:=K0.out.cell 1;dsimp only at z0 z1 z2 z3 z4 z5 z6 z7 f1 f2
   cases en with
   |true=>
    gi_wp2_with fail
    refine⟨λ_ h=>(by cases h),?_⟩;gi_wp2_with fail
    refine bodyPost_ret (results_none rfl _ _ _) rfl ?_;exact⟨⟨_,rfl⟩,.inl ⟨pre,⟨KC.out,by rw[hU.out]⟩,⟨Io.out,by rw[ja.out];exact Ip.out,Iq.out⟩,J2.out⟩⟩
   |false=>
    have N:=KC.out.snoc (by rw[hU.out]);rw[hU.out] at N;dsimp only at N;obtain⟨fn,tmps,KE,body,K8,hR⟩:=HY.out pre _ _ ⟨Io.out,by rw[ja.out];exact Ip.out,Iq.out⟩ J2.out N;have HR:=O hR;have dt:=O N;dsimp only at K8;clear hR N;gi_wp2_with fail
    refine HR.out.mono ?_;rintro e W3 (⟨rfl,aC,K6⟩|⟨rfl,K2⟩)
    ·have KQ:er=0:=L4.out _ _ aC.1 ((p1,p2),er) (by simp)
     subst KQ;have I:=aC.2.1;rw[OK] at I;have I:ab W3 B 302 #[OC A m c,Y V (cF l T first (U pre+1))]:=I;rw[ja.out] at I;have KK:=O I;have dY:=O aC;have KL:=O K6;clear I aC K6 K8;gi_wp2_with fail
     refine⟨⟨pre++[((p1,p2),0)],dt,O dY.out.1,O dY.out.2.1,O ?_,KL⟩,?_⟩
     ·have h:=dY.out.2.2
      have e:iv first (pre++[((p1,p2),(0:Int))]).length=false:=(by unfold iv;simp);rw[e];exact h
     ·have h9:=ql KK.out;have KN:=ql cz.out
      have K1:=Lb.out;unfold mO at K1;have KO:=K1.2.2.1 rfl;dsimp only at KO;rw[h9,KN];omega
    ·gi_wp2_with fail
     refine bodyPost_ret (results_none rfl _ _ _) rfl ?_;exact⟨⟨_,rfl⟩,.inr ⟨_,dt.out,K2⟩⟩
  ·obtain⟨g,hg⟩:∃g,wr.heap.size=g:=⟨_,rfl⟩
   obtain⟨KV,KW,KX⟩:=L9.out;have K5:g≠B:=(by omega);have K4:g≠D:=(by omega);have KT:B≠g:=(by omega);have KR:D≠g:=(by omega);refine az (v:=?_) (w':=?_) rfl (by rfl) ?_ ?_ ?_;rotate_left 2
   ·go_simp;(try (constructor<;>with_reducible rfl))
   ·exact Kr.out.alloc _
   simp only[Z,J,X];have hd:(OE wr).heap.size=g:=hg;have Li:ab ((OE wr).alloc (OF #[Y V 0,Y V 0] 189)) g 189 #[Y V 0,Y V 0]:=aH (ab.new _ _ _) hd;have Le:Below (OE wr).heap.size (OE wr) ((OE wr).alloc (OF #[Y V 0,Y V 0] 189)):=(Below.refl _ _).alloc (OP _) _;refine aX (f:=289) rfl (by rfl) (by first|(go_simp;done)|(go_simp;rfl)) (G.out _ (L0.out.below Le) (Lc.out.below Le)) ?_;rintro e w2 ⟨rfl,aB⟩;have dD:=(Kr.out.alloc (OF #[Y V 0,Y V 0] 189)).below aB;have K3:=Li.below aB Li.lt;refine⟨_,rfl,_,λ_ h=>h,dD,?_⟩;simp only[Z,J,X]
   iterate 5
    refine aj (v:=?_) rfl (by rfl) ?_ ?_
    rotate_left
    ·intro _ bE;(try dsimp only at bE);go_simp;(try with_reducible rfl)
    simp only[Z,J,X]
   have M:=aa.far (aa.far dD (p:=⟨g,0,none⟩) (λq hq=>by simp only[OO,OM,or_false] at hq;rcases hq with rfl|rfl|rfl<;>simp<;>omega) (Y V p1)) (p:=⟨g,1,none⟩) (λq hq=>by simp only[OO,OM,or_false] at hq;rcases hq with rfl|rfl|rfl<;>simp<;>omega) (Y V p2);have fW:=(K3.set_ 0 (Y V p1)).set_ 1 (Y V p2);have eE:Below wr.heap.size wr ((w2.setCell ⟨g,0,none⟩ (Y V p1)).setCell ⟨g,1,none⟩ (Y V p2)):=((((((Below.refl _ wr).drew).alloc (by simp) _).trans (aB.mono (by simp))).setCell (p:=⟨g,0,none⟩) (by show _<=g;omega) _).setCell (p:=⟨g,1,none⟩) (by show _<=g;omega) _);have q0:=K3.cell 0;have q1:=K3.cell 1;have k0:=K3.frozen 0;have k1:=K3.frozen 1;refine bG _ (w':=?_) rfl (by rfl) ?_ ?_ ?_;rotate_left 1
   ·go_simp;(first|(with_reducible rfl)|(constructor<;>with_reducible rfl)|skip)
   ·exact M
   refine az (v:=?_) (w':=?_) rfl (by rfl) ?_ ?_ ?_;rotate_left 2
   ·go_simp;(try (constructor<;>with_reducible rfl))
   ·exact M
   simp only[Z,J,X];refine az (v:=?_) (w':=?_) rfl (by rfl) ?_ ?_ ?_;rotate_left 2
   ·go_simp;(try (constructor<;>with_reducible rfl))
   ·exact M
   simp only[Z,J,X];have gy:=M;refine KF _ _ ?_;clear KF PE;simp only[OJ,ON];go_wp2_with fail
   refine⟨rfl,?_⟩;generalize (w2.setCell ⟨g,0,none⟩ (Y V p1)).setCell ⟨g,1,none⟩ (Y V p2)=w5 at gy fW eE⊢;clear x0 x1 x2 x3 dD M aB KV KW KX hg;have j:=O gy;have dE:=O fW;have rX:=O eE;clear gy fW eE;have KI:=O (L7.out _ _ _ KJ.out rX.out);have KM:=O (HK.out.below L8.out rX.out);have z0:=j.out.head.cell 0;have z1:=j.out.head.cell 1;have z2:=j.out.tail.head.cell 0;have z3:=j.out.tail.tail.head.cell 0;have z4:=dE.out.cell 0;have z5:=dE.out.cell 1;have f1:=j.out.head.frozen 1;have f2:=j.out.tail.head.frozen 0;have K0:=O ((dE.out.far (p:=⟨D,0,none⟩) K4 (OB false)).far (p:=⟨B,1,none⟩) K5 (Y V (pk+nb)));have Ip:=O ((j.out.head.far (p:=⟨D,0,none⟩) gJ (OB false)).set_ 1 (Y V (pk+nb)));have Iq:=O ((j.out.tail.head.set_ 0 (OB false)).far (p:=⟨B,1,none⟩) KH (Y V (pk+nb)));have Io:=O (L5.out _ _ (Y V (pk+nb)) (L6.out _ _ (OB false) KI.out));have J2:=O (HK.out.set (HK.out.set KM.out j.out.tail.head (v:=OB false) (p:=⟨D,0,none⟩)) (j.out.head.far (p:=⟨D,0,none⟩) gJ (OB false)) (v:=Y V (pk+nb)) (p:=⟨B,1,none⟩));have z6:=K0.out.cell 0;have z7:=K0.out.cell 1;dsimp only at z0 z1 z2 z3 z4 z5 z6 z7 f1 f2
   cases en with
   |true=>
    gi_wp2_with fail
    refine⟨λ_ h=>(by cases h),?_⟩;gi_wp2_with fail
    refine bodyPost_ret (results_none rfl _ _ _) rfl ?_;exact⟨⟨_,rfl⟩,.inl ⟨pre,⟨KC.out,by rw[hU.out]⟩,⟨Io.out,by rw[ja.out];exact Ip.out,Iq.out⟩,J2.out⟩⟩
   |false=>
    have N:=KC.out.snoc (by rw[hU.out]);rw[hU.out] at N;dsimp only at N;obtain⟨fn,tmps,KE,body,K8,hR⟩:=HY.out pre _ _ ⟨Io.out,by rw[ja.out];exact Ip.out,Iq.out⟩ J2.out N;have HR:=O hR;have dt:=O N;dsimp only at K8;clear hR N;gi_wp2_with fail
    refine HR.out.mono ?_;rintro e W3 (⟨rfl,aC,K6⟩|⟨rfl,K2⟩)
    ·have KQ:er=0:=L4.out _ _ aC.1 ((p1,p2),er) (by simp)
     subst KQ;have I:=aC.2.1;rw[OK] at I;have I:ab W3 B 302 #[OC A m c,Y V (cF l T first (U pre+1))]:=I;rw[ja.out] at I;have KK:=O I;have dY:=O aC;have KL:=O K6;clear I aC K6 K8;gi_wp2_with fail
     refine⟨⟨pre++[((p1,p2),0)],dt,O dY.out.1,O dY.out.2.1,O ?_,KL⟩,?_⟩
     ·have h:=dY.out.2.2
      have e:iv first (pre++[((p1,p2),(0:Int))]).length=false:=(by unfold iv;simp);rw[e];exact h
     ·have h9:=ql KK.out;have KN:=ql cz.out
      have K1:=Lb.out;unfold mO at K1;have KO:=K1.2.2.1 rfl;dsimp only at KO;rw[h9,KN];omega
    ·gi_wp2_with fail
     refine bodyPost_ret (results_none rfl _ _ _) rfl ?_;exact⟨⟨_,rfl⟩,.inr ⟨_,dt.out,K2⟩⟩
end Go.Proofs.YthhijgcfbjcgiaaGreatDoor
