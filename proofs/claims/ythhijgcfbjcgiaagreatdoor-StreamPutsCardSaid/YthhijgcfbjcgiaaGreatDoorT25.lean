/- TreeW -/
import Derived.Test.YthhijgcfbjcgiaaGreatDoorT16
import Derived.Test.YthhijgcfbjcgiaaGreatDoorT04
namespace Go.Proofs.YthhijgcfbjcgiaaGreatDoor
open Go Go.RowKit
open Bool renaming and_eq_true→O,false_eq_true→Z
open List renaming mem_singleton→U
open Nat renaming lt_or_ge→V
open Go.Ending renaming returned→Y
section
variable {F:Fence} {n:Nat} {P:Program} {ops:Array Oper} {Q:Exit->Act->World->Prop} {S:World->Prop} {m:Nat}
def eQ (P:Program) (j:Array Oper) (S:World->Prop) (o:Oper) (v:Value) (a:Act):Prop:=YieldsIf P j S o v a/\∀w,o.about P w a.eval=none
theorem eQ.wpOpIn {i:Nat}{o:Oper}{v:Value}{a:Act}(B:F.round=none)(M:ops[i]? =some o)(G:eQ P ops S o v a)
  {K:Act->World->Prop} {w:World} (I:S w) (h:K (a.put o.dst v) w):wpOpIn F n P ops Q i K a w:=by
 unfold Go.wpOpIn;simp only[M];have j:∀f,o.about P w a.eval=some f->F.fn f:= λf D=>by rw[G.2 w] at D;cases D
 rcases G.1 with⟨C,N⟩|⟨C,rfl⟩
 ·simp only[C,if_true,Oper.wpIn,B,Oper.semAt_none,N w I,Oper.uponIn];exact⟨j,h⟩
 ·simp only[C,Z,if_false];exact⟨j,h⟩
theorem eQ.of_same {o:Oper}{v:Value}{a j:Act}(B:eQ P ops S o v a)(he:execOp j.eval o=execOp a.eval o)
  (D:Region.wanted o (yielded ops j.tmps)=Region.wanted o (yielded ops a.tmps)) (C:∀w,o.about P w j.eval=o.about P w a.eval):eQ P ops S o v j:=
 ⟨B.1.of_same he D,λw=>by rw[C w];exact B.2 w⟩
theorem yS {j:Nat}{B C:Oper}{v:Value}(I:F.round=none)(hj:ops[j]? =some C)(av:B.apart ops C=true)
  (aJ:∀cs b,B.op≠ .select cs b) (bM:∀cs b,C.op≠ .select cs b)
  (hQ:∀c a w,Q (.panic c) (a.put B.dst v) w->Q (.panic c) a w) {K:Act->World->Prop} {a:Act} {w:World}
  (D:eQ P ops S B v a) (h:wpOpIn F n P ops Q j K (a.put B.dst v) w):
  wpOpIn F n P ops Q j (λa' w'=>eQ P ops S B v a'/\K (a'.put B.dst v) w') a w:=by
 obtain⟨N,h2,T⟩:=Oper.apart_spec av
 have keep:∀(a:Act),eQ P ops S B v a->∀u,eQ P ops S B v (a.put C.dst u):= λa D u=>
  D.of_same (execOp_put B aJ a C.dst u T) (wanted_put B a C.dst u T) (λw=>about_put B w a C.dst u T)
 have G:∀d,eQ P ops S B v {a with defers:=d::a.defers}:= λd=>D.of_same rfl rfl (λ_=>rfl);unfold wpOpIn at*;simp only[hj] at*;rw[wanted_put C a B.dst v N,about_put C w a B.dst v N] at h
 split
 ·rename_i hw
  simp only[hw,if_true] at h;unfold Oper.wpIn at*;rw[about_put C w a B.dst v N] at h;refine⟨h.1,?_⟩;have h:=h.2;rw[I,Oper.semAt_none,execOp_put C bM a B.dst v N] at h;rw[I,Oper.semAt_none];generalize (execOp a.eval C).run P w=r at*
  cases r with
  |ok x w'=>
   cases x<;>simp only[Oper.uponIn] at h⊢
   case value u=>exact⟨keep a D u,by rw[<-Act.put_comm a v u h2];exact h⟩
   case skip=>exact⟨keep a D _,by rw[<-Act.put_comm a v undef h2];exact h⟩
   case defer d=>
    refine⟨keep _ (G d) _,?_⟩;rw[<-Act.put_comm _ v undef h2,<-Act.put_defers];exact h
   case enter f args=>
    refine⟨h.1,CallsIn.mono h.2 λe M he=>?_⟩
    cases e with
    |returned u=>exact⟨keep a D u,by rw[<-Act.put_comm a v u h2];exact he⟩
    |panicked c=>exact hQ _ _ _ he
    |outgrown=>exact he
   case row row args=>exact⟨h.1,RowsIn.mono h.2 λu M he=>⟨keep a D u,by rw[<-Act.put_comm a v u h2];exact he⟩⟩
   case round l f tmps assign body=>
    refine⟨h.1,RoundIn.mono h.2 λe M he=>?_⟩
    cases e with
    |returned u=>exact⟨keep a D u,by rw[<-Act.put_comm a v u h2];exact he⟩
    |panicked c=>exact hQ _ _ _ he
    |outgrown=>exact he
  |halt x w'=>
   cases x<;>simp only[Oper.uponIn] at h⊢
   case panic u=>exact hQ _ _ _ h
 ·rename_i hw
  simp only[hw] at h;exact⟨h.1,keep a D _,by rw[<-Act.put_comm a v undef h2];exact h.2⟩
def iS (F:Fence) (n:Nat) (P:Program) (j:Array Oper) (Q:Exit->Act->World->Prop) (S:World->Prop) (m:Nat):Nat->Array Bool->Act->World->Prop
 |0,listed,a,w=>Region.ready .any j listed=[]/\Q .normal a w
 |fuel+1,listed,a,w=>
  (Region.ready .any j listed=[]->Q .normal a w)/\
  ∀i∈Region.ready .any j listed,wpOpIn F n P j Q i (λB w'=>(i<m->S w')/\iS F n P j Q S m fuel (listed.setIfInBounds i true) B w') a w
theorem q8:∀(j:Nat)(B:Array Bool)(a:Act)(w:World),iS F n P ops Q S m j B a w->wpAnyIn F n P .any ops Q j B a w
 |0,_,_,_,h=>h
 |j+1,_,_,_,h=>⟨h.1,λi G=>wpOpIn_mono (λC w' D=>q8 j _ C w' D.2) (h.2 i G)⟩
theorem vV (aJ:F.round=none){i:Nat}{oi:Oper}{v:Value}(hi:ops[i]? =some oi)(gj:i<m)(av:∀(j:Nat)(o:Oper) cs b,ops[j]? =some o->o.op≠ .select cs b)
  (hQ:∀c a w,Q (.panic c) (a.put oi.dst v) w->Q (.panic c) a w) (fJ:∀j,m<=j->j<ops.size->mT ops ops.size j i=true):
  ∀(C:Nat)(B:Array Bool)(a:Act)(w:World),fI ops B->
   (∀j oj,ops[j]? =some oj->j≠i->B.getD j true=false->(∀e∈oj.after,Region.binds .any e=true->e.on≠i)->oi.apart ops oj=true)->
   i∈Region.ready .any ops B->eQ P ops S oi v a->S w->
   iS F n P ops Q S m C (B.setIfInBounds i true) (a.put oi.dst v) w->iS F n P ops Q S m (C+1) B a w:=by
 intro C
 induction C with
 |zero=>
  intro B a w _ _ hr hy hS H;refine⟨λh=>(by rw[h] at hr;cases hr),λj hj=>?_⟩
  by_cases D:j=i
  ·subst D;exact hy.wpOpIn aJ hi hS ⟨λ_=>hS,H⟩
  ·have:=ready_mono hj D
   rw[H.1] at this
   cases this
 |succ C ih=>
  intro B a w bM G hr hy hS H;refine⟨λh=>(by rw[h] at hr;cases hr),λj hj=>?_⟩
  by_cases D:j=i
  ·subst D;exact hy.wpOpIn aJ hi hS ⟨λ_=>hS,H⟩
  ·have h1:=H.2 j (ready_mono hj D)
   obtain⟨T,oj,I,N⟩:=mem_ready.1 hj
   have K:¬B.getD i false=true:= λh1=>by
    have h0:=(mem_ready.1 hr).1;rcases V i B.size with h'|h'
    ·simp[h'] at h0 h1;rw[h0] at h1;cases h1
    ·simp[Array.getElem?_eq_none h'] at h1
   have cI:∀e∈oj.after,Region.binds .any e=true->e.on≠i:= λe he hb dv=>K (dv▸N e he hb)
   have dy:j<m:=by
    rcases V j m with h'|h'
    ·exact h'
    ·refine absurd (pK bM ops.size j i (λo ho e he hb=>?_) (fJ j h' (Array.getElem?_eq_some_iff.1 I).1)) K
     rw[I] at ho;cases ho;exact N e he hb
   have h2:=yS aJ I (G j oj I D T cI) (λcs b=>av i oi cs b hi) (λcs b=>av j oj cs b I) hQ hy h1
   have M:∀k ok,ops[k]? =some ok->k≠i->(B.setIfInBounds j true).getD k true=false->
     (∀e∈ok.after,Region.binds .any e=true->e.on≠i)->oi.apart ops ok=true:= λk ok hk dO K eE=>by
    refine G k ok hk dO ?_ eE
    by_cases cE:j=k
    ·subst cE;exact T
    ·rw[getD_set_ne true cE] at K;exact K
   refine wpOpIn_mono (λa' w' h3=>⟨h3.2.1,ih (B.setIfInBounds j true) a' w' (cG bM hj) M (ready_mono hr (Ne.symm D)) h3.1 (h3.2.1 dy) ?_⟩) h2;rw[Array.setIfInBounds_comm _ _ D];exact h3.2.2
theorem mJ:∀(c k:Nat)(j:Array Bool)(a:Act)(w:World),jz ops c k j=true->k+c=ops.size->m<=k->
  wpListIn F n P ops Q (ops.toList.drop k) a w->iS F n P ops Q S m c j a w
 |0,k,j,a,w,C,hk,_,h=>by
  have hd:ops.toList.drop k=[]:=List.drop_eq_nil_of_le (by simp;omega);rw[hd] at h;exact⟨by simpa [jz] using C,h⟩
 |c+1,k,j,a,w,C,hk,hm,h=>by
  simp only[jz,O,beq_iff_eq] at C;obtain⟨N,C⟩:=C;refine⟨λK=>(by rw[N] at K;cases K),λi M=>?_⟩;rw[N,U] at M;subst M;have G:i<(List.length ops.toList):=(by simp;omega);rw[List.drop_eq_getElem_cons G] at h;have ho:ops[i]? =some ops.toList[i]:=(by simp);unfold wpOpIn;rw[ho];simp only[wpListIn] at h
  have B:∀D w',wpListIn F n P ops Q (ops.toList.drop (i+1)) D w'->((i<m->S w')/\iS F n P ops Q S m c (j.setIfInBounds i true) D w'):=
   λD w' T=>⟨λh=>absurd h (by omega),mJ c (i+1) _ D w' C (by omega) (by omega) T⟩
  split at h
  ·rename_i I
   simp only[I,if_true];exact Oper.wpIn_mono B h
  ·rename_i I
   simp only[I];exact⟨h.1,B _ _ h.2⟩
theorem ll {S C:World->Prop}(G:∀w,C w->S w):∀(j:Nat)(B:Array Bool)(a:Act)(w:World),iS F n P ops Q C m j B a w->iS F n P ops Q S m j B a w
 |0,_,_,_,h=>h
 |j+1,_,_,_,h=>⟨h.1,λi K=>wpOpIn_mono (λI w' D=>⟨λM=>G _ (D.1 M),ll G j _ I w' D.2⟩) (h.2 i K)⟩
def lT (F:Fence) (n:Nat) (P:Program) (B:Array Oper) (Q:Exit->Act->World->Prop) (m:Nat):bY->(World->Prop)->Act->World->Prop
 | .done,_,a,w=>wpListIn F n P B Q (B.toList.drop m) a w
 | .take i r,S,a,w=>∃o v,B[i]? =some o/\eQ P B S o v a/\lT F n P B Q m r S (a.put o.dst v) w
 | .step i r,S,a,w=>wpOpIn F n P B Q i (λD w'=>∃C:World->Prop,(∀w,C w->S w)/\C w'/\lT F n P B Q m r C D w') a w
 | .fork i r j q,S,a,w=>wpOpIn F n P B Q i (λD w'=>∃C:World->Prop,(∀w,C w->S w)/\C w'/\lT F n P B Q m r C D w') a w/\
   wpOpIn F n P B Q j (λD w'=>∃C:World->Prop,(∀w,C w->S w)/\C w'/\lT F n P B Q m q C D w') a w
theorem gW (I:F.round=none)(D:Region.noSelect ops=true)(hQ:∀c a d v w,Q (.panic c) (Act.put a d v) w->Q (.panic c) a w) (hm:m<=ops.size):
  ∀(K:bY)(S:World->Prop)(B:Array Bool)(a:Act)(w:World),eK ops m K B=true->fI ops B->S w->
   lT F n P ops Q m K S a w->iS F n P ops Q S m (K.len+(ops.size - m)) B a w
 | .done,S,B,a,w,C,_,_,h=>by
  rw[bY.len,Nat.zero_add];exact mJ (ops.size - m) m B a w C (by omega) (Nat.le_refl _) h
 | .take i r,S,B,a,w,C,hcl,hS,h=>by
  simp only[eK,O,decide_eq_true_eq] at C;obtain⟨⟨⟨⟨cI,hf⟩,T⟩,dy⟩,C⟩:=C;obtain⟨o,v,ho,hy,h⟩:=h;have cE:i∈Region.ready .any ops B:=(by simpa using T);rw[show (bY.take i r).len+(ops.size - m)=(r.len+(ops.size - m))+1 by simp[bY.len];omega];refine vV I ho cI (Region.noSelect_spec D) (λc a w=>hQ c a _ _ w) (λj G dv=>?_) _ B a w hcl (Region.free_spec ho hf) cE hy hS (gW I D hQ hm r S _ _ _ C (cG hcl cE) hS h);have:=List.all_eq_true.1 dy j (List.mem_range.2 dv);simp only[Bool.or_eq_true,decide_eq_true_eq] at this;exact this.resolve_left (by omega)
 | .step i r,S,B,a,w,C,hcl,hS,h=>by
  simp only[eK,O,decide_eq_true_eq,beq_iff_eq] at C;obtain⟨⟨_,T⟩,C⟩:=C;rw[show (bY.step i r).len+(ops.size - m)=(r.len+(ops.size - m))+1 by simp[bY.len];omega];refine⟨λh0=>(by rw[T] at h0;cases h0),λj G=>?_⟩;have M:=G;rw[T,U] at G;subst G;exact wpOpIn_mono (λa' w' ⟨S',N,h2,h3⟩=>⟨λ_=>N _ h2,ll N _ _ _ _ (gW I D hQ hm r S' _ _ _ C (cG hcl M) h2 h3)⟩) h
 | .fork i r k q,S,B,a,w,C,hcl,hS,h=>by
  simp only[eK,O,decide_eq_true_eq,beq_iff_eq] at C;obtain⟨⟨⟨⟨⟨_,_⟩,av⟩,T⟩,aJ⟩,bM⟩:=C;rw[show (bY.fork i r k q).len+(ops.size - m)=(r.len+(ops.size - m))+1 by simp[bY.len];omega];refine⟨λh0=>(by rw[T] at h0;cases h0),λj G=>?_⟩;have M:=G;rw[T] at G;rcases List.mem_cons.1 G with rfl|G
  ·exact wpOpIn_mono (λa' w' ⟨S',N,h2,h3⟩=>⟨λ_=>N _ h2,ll N _ _ _ _ (gW I D hQ hm r S' _ _ _ aJ (cG hcl M) h2 h3)⟩) h.1
  ·rw[U] at G
   subst G;rw[av];exact wpOpIn_mono (λa' w' ⟨S',N,h2,h3⟩=>⟨λ_=>N _ h2,ll N _ _ _ _ (gW I D hQ hm q S' _ _ _ bM (cG hcl M) h2 h3)⟩) h.2
def dg (F:Fence) (n:Nat) (P:Program) (Q:Exit->Act->World->Prop) (j:List (Option Tmp)) (E:Act->World->Prop):eP->(World->Prop)->Act->World->Prop
 | .done,_,a,w=>E a w
 | .take o r,S,a,w=>∃d v,o.dst=some d/\((bu o j a.tmps=true/\∀w,S w->(execOp a.eval o).run P w= .ok (.value v) w)\/(bu o j a.tmps=false/\v=undef))/\(∀w,o.about P w a.eval=none)/\dg F n P Q j E r S ⟨a.tmps.setIfInBounds d v,a.defers⟩ w
 | .step o r,S,a,w=>(bu o j a.tmps=true/\o.wpIn F n P a w (λC w'=>∃B:World->Prop,(∀w,B w->S w)/\B w'/\dg F n P Q j E r B C w') Q)\/(bu o j a.tmps=false/\(∀f,o.about P w a.eval=some f->F.fn f)/\∃B:World->Prop,(∀w,B w->S w)/\B w/\dg F n P Q j E r B (a.put o.dst undef) w)
 | .fork o r p q,S,a,w=>(bu o j a.tmps=true/\o.wpIn F n P a w (λC w'=>∃B:World->Prop,(∀w,B w->S w)/\B w'/\dg F n P Q j E r B C w') Q)/\(bu p j a.tmps=true/\p.wpIn F n P a w (λC w'=>∃B:World->Prop,(∀w,B w->S w)/\B w'/\dg F n P Q j E q B C w') Q)
theorem pS {i:Nat}(C:i<ops.size){E K:Act->World->Prop}(j:∀a w,E a w->K a w) {a:Act} {w:World} (h:bu (ops.getD i default) (ops.toList.map (·.dst)) a.tmps=true/\(ops.getD i default).wpIn F n P a w E Q):wpOpIn F n P ops Q i K a w:=by
 obtain⟨B,h⟩:=h;have D:ops[i]? =some (ops.getD i default):=by simp[Array.getD,C]
 unfold wpOpIn;simp only[D];rw[<-eD] at B;simp only[B,if_true];exact Oper.wpIn_mono j h
theorem gF {E:Act->World->Prop}(K:∀a w,E a w->wpListIn F n P ops Q (ops.toList.drop m) a w):∀(C:bY)(S:World->Prop)(a:Act)(w:World),C.inside ops.size=true->
  dg F n P Q (ops.toList.map (·.dst)) E (C.out ops) S a w->lT F n P ops Q m C S a w
 | .done,S,a,w,_,h=>K _ _ h
 | .take i r,S,a,w,hb,h=>by
  simp only[bY.inside,O,decide_eq_true_eq] at hb;obtain⟨d,v,hd,T,I,h⟩:=h;have M:ops[i]? =some (ops.getD i default):=(by simp[Array.getD,hb.1]);refine⟨_,v,M,⟨?_,I⟩,?_⟩
  ·rw[<-eD] at T;exact T
  ·simp only[Act.put,hd]
   exact gF K r S _ _ hb.2 h
 | .step i r,S,a,w,hb,h=>by
  simp only[bY.inside,O,decide_eq_true_eq] at hb;rcases h with h|⟨N,I,B,D,h2,G⟩
  ·exact pS hb.1 (λa w ⟨B,D,h2,G⟩=>⟨B,D,h2,gF K r B _ _ hb.2 G⟩) h
  ·have M:ops[i]? =some (ops.getD i default):=by simp[Array.getD,hb.1]
   show wpOpIn F n P ops Q i _ a w;unfold wpOpIn;simp only[M];rw[<-eD] at N;simp only[N,Z,if_false];exact⟨I,B,D,h2,gF K r B _ _ hb.2 G⟩
 | .fork i r j q,S,a,w,hb,h=>by
  simp only[bY.inside,O,decide_eq_true_eq] at hb;exact⟨pS hb.1.1.1 (λa w ⟨B,D,h2,G⟩=>⟨B,D,h2,gF K r B _ _ hb.1.1.2 G⟩) h.1,pS hb.1.2 (λa w ⟨B,D,h2,G⟩=>⟨B,D,h2,gF K q B _ _ hb.2 G⟩) h.2⟩
theorem gt (S:World->Prop)(m:Nat)(B:bY){id:Nat}{a:Act}{w:World}{l:eP}{D:List (Option Tmp)}(av:F.round=none)(T:P.follows .mixedOrders=true)(C:dd ops m B=true)
  (hQ:∀c a d v w,Q (.panic c) (Act.put a d v) w->Q (.panic c) a w) (hl:B.out ops=l) (M:ops.toList.map (·.dst)=D)
  (hS:S w.drew) (h:∀E:Act->World->Prop,(∀a w,wpListIn F n P ops Q (ops.toList.drop m) a w->E a w)->dg F n P Q D E l S a w.drew):(Code.region id ops true).wpIn F n P Q a w:=by
 subst hl M;simp only[dd,O,decide_eq_true_eq,beq_iff_eq] at C;obtain⟨⟨⟨⟨G,hm⟩,hl⟩,C⟩,I⟩:=C
 have K:fI ops (Array.replicate ops.size false):= λj o ho hl=>by
  have N:=(Array.getElem?_eq_some_iff.1 ho).1;simp[N] at hl
 have:=gW (F:=F) (n:=n) av G hQ hm B S _ a w.drew C K hS (gF (E:=wpListIn F n P ops Q (ops.toList.drop m)) (λ_ _ h=>h) B S a _ I (h _ λ_ _ h=>h));rw[show B.len+(ops.size - m)=ops.size by omega] at this;exact wpIn_region_any T (q8 _ _ _ _ this)
end
section
variable {n:Nat} {P:Program} {Q:Exit->Act->World->Prop} {dsts:List (Option Tmp)} {E:Act->World->Prop} {S:World->Prop} {r:eP} {tmps:Array Value} {defers:List Deferred} {w w':World} {o:Oper} {d:Nat}
theorem dz {v:Value}(hd:o.dst=some d)(B:bu o dsts tmps=true)(C:∀w,S w->(execOp (Act.eval ⟨tmps,defers⟩) o).run P w= .ok (.value v) w) (j:∀w,o.about P w (Act.eval ⟨tmps,defers⟩)=none)
  (h:dg Fence.wide n P Q dsts E r S ⟨tmps.setIfInBounds d v,defers⟩ w):dg Fence.wide n P Q dsts E (.take o r) S ⟨tmps,defers⟩ w:=⟨d,v,hd,.inl ⟨B,C⟩,j,h⟩
theorem fN (hd:o.dst=some d)(B:bu o dsts tmps=false)(j:∀w,o.about P w (Act.eval ⟨tmps,defers⟩)=none)
  (h:dg Fence.wide n P Q dsts E r S ⟨tmps.setIfInBounds d undef,defers⟩ w):dg Fence.wide n P Q dsts E (.take o r) S ⟨tmps,defers⟩ w:=⟨d,undef,hd,.inr ⟨B,rfl⟩,j,h⟩
theorem lJ {f:Nat}{args:Array Value}{R:Ending->World->Prop}(hd:o.dst=some d)(D:bu o dsts tmps=true)(he:(execOp (Act.eval ⟨tmps,defers⟩) o).run P w= .ok (.enter f args) w)(B:Calls P f args w R)
  (h:∀e w',R e w'->∃v,e=Y v/\∃j:World->Prop,(∀w,j w->S w)/\j w'/\dg Fence.wide n P Q dsts E r j ⟨tmps.setIfInBounds d v,defers⟩ w'):
  dg Fence.wide n P Q dsts E (.step o r) S ⟨tmps,defers⟩ w:=by
 refine .inl ⟨D,λ_ _=>trivial,?_⟩;show Oper.uponIn Fence.wide n P o _ _ Q ((execOp _ o).run P w);rw[he];refine⟨λe=>absurd e (by simp[Fence.wide]),callsIn_wide.2 (Calls.mono B λe w' C=>?_)⟩;obtain⟨v,rfl,h⟩:=h e w' C;simp only[Act.put,hd];exact h
theorem zX {l fn:Nat}{ts:Array Value}{j B:Code}{R:Ending->World->Prop}(hd:o.dst=some d)(I:bu o dsts tmps=true)(he:(execOp (Act.eval ⟨tmps,defers⟩) o).run P w= .ok (.round l fn ts j B) w)(D:RoundIn Fence.wide (n - 1) P l fn ts j B w R)
  (h:∀e w',R e w'->∃v,e=Y v/\∃C:World->Prop,(∀w,C w->S w)/\C w'/\dg Fence.wide n P Q dsts E r C ⟨tmps.setIfInBounds d v,defers⟩ w'):
  dg Fence.wide n P Q dsts E (.step o r) S ⟨tmps,defers⟩ w:=by
 refine .inl ⟨I,λ_ _=>trivial,?_⟩;show Oper.uponIn Fence.wide n P o _ _ Q ((execOp _ o).run P w);rw[he];refine⟨λe=>absurd e (by simp[Fence.wide]),RoundIn.mono D λe w' G=>?_⟩;obtain⟨v,rfl,h⟩:=h e w' G;simp only[Act.put,hd];exact h
theorem gU (B:bu o dsts tmps=false)(hd:o.dst=some d)(j:S w)(h:dg Fence.wide n P Q dsts E r S ⟨tmps.setIfInBounds d undef,defers⟩ w):dg Fence.wide n P Q dsts E (.step o r) S ⟨tmps,defers⟩ w:=
 .inr ⟨B,λ_ _=>trivial,S,λ_ h=>h,j,by simpa only[Act.put,hd] using h⟩
end
end Go.Proofs.YthhijgcfbjcgiaaGreatDoor
