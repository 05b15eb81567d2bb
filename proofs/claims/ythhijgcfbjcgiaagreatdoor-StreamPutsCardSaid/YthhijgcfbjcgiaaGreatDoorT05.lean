/- Plan, Tree, TreeD -/
import Derived.Test.YthhijgcfbjcgiaaGreatDoorT01
import Derived.OrdersHeld
namespace Go.Proofs.YthhijgcfbjcgiaaGreatDoor
open Go Go.RowKit
open Bool renaming and_eq_true→O,or_eq_true→V
open List renaming mem_singleton→U,all_eq_true→Z,mem_range→X,length→J,mem_cons_of_mem→OA,mem_cons_self→OB,map_cons→OF,mem_cons→OG,map_nil→OH,range→OJ
open Go.Ending renaming returned→Y
open Nat renaming zero_add→OC,le_refl→OD,lt_or_ge→OI
open Option renaming getD_some→OE
section
variable {P:Program} {ops:Array Oper} {Q:Exit->Act->World->Prop} {S:World->Prop} {m:Nat}
def mT (B:Array Oper):Nat->Nat->Nat->Bool
 |0,_,_=>false
 |f+1,j,i=>((B[j]?).map λo=>o.after.any λe=>Region.binds .any e&&(e.on==i||mT B f e.on i)).getD false
def fI (C:Array Oper) (B:Array Bool):Prop:=
 ∀(j:Nat)(o:Oper),C[j]? =some o->B.getD j false=true->∀e∈o.after,Region.binds .any e=true->B.getD e.on false=true
theorem pK {B:Array Bool}(hc:fI ops B):∀(f j i:Nat),(∀o,ops[j]? =some o->∀e∈o.after,Region.binds .any e=true->B.getD e.on false=true)->
  mT ops f j i=true->B.getD i false=true:=by
 intro f
 induction f with
 |zero=>intro j i _ h;simp[mT] at h
 |succ f ih=>
  intro j i C h;unfold mT at h
  cases D:ops[j]? with
  |none=>simp[D] at h
  |some o=>
   simp only[D,Option.map_some,OE,Array.any_eq_true'] at h;obtain⟨e,he,N⟩:=h;simp only[O,V,beq_iff_eq] at N;obtain⟨M,rfl|hr⟩:=N
   ·exact C o D e he M
   ·exact ih e.on i (λo' K T I G=>hc e.on o' K (C o D e he M) T I G) hr
theorem cG {B:Array Bool}{i:Nat}(M:fI ops B)(N:i∈Region.ready .any ops B):fI ops (B.setIfInBounds i true):=by
 intro j o K hl e he I
 by_cases D:j=i
 ·subst D
  obtain⟨_,o',G,C⟩:=mem_ready.1 N;rw[K] at G
  cases G
  exact getD_set_true (C e he I)
 ·rw[getD_set_ne false (Ne.symm D)] at hl
  exact getD_set_true (M j o K hl e he I)
def iE (P:Program) (j:Array Oper) (Q:Exit->Act->World->Prop) (S:World->Prop) (m:Nat):Nat->Array Bool->Act->World->Prop
 |0,listed,a,w=>Region.ready .any j listed=[]/\Q .normal a w
 |fuel+1,listed,a,w=>
  (Region.ready .any j listed=[]->Q .normal a w)/\
  ∀i∈Region.ready .any j listed,wpOp P j Q i (λB w'=>(i<m->S w')/\iE P j Q S m fuel (listed.setIfInBounds i true) B w') a w
theorem jP:∀(j:Nat)(B:Array Bool)(a:Act)(w:World),iE P ops Q S m j B a w->wpAny P .any ops Q j B a w
 |0,_,_,_,h=>h
 |j+1,_,_,_,h=>⟨h.1,λi G=>wpOp_mono (λC w' D=>jP j _ C w' D.2) (h.2 i G)⟩
theorem mG {i:Nat}{oi:Oper}{v:Value}(hi:ops[i]? =some oi)(fJ:i<m)(av:∀(j:Nat)(o:Oper) cs b,ops[j]? =some o->o.op≠ .select cs b)
  (hQ:∀c a w,Q (.panic c) (a.put oi.dst v) w->Q (.panic c) a w) (eE:∀j,m<=j->j<ops.size->mT ops ops.size j i=true):
  ∀(C:Nat)(B:Array Bool)(a:Act)(w:World),fI ops B->
   (∀j oj,ops[j]? =some oj->j≠i->B.getD j true=false->(∀e∈oj.after,Region.binds .any e=true->e.on≠i)->oi.apart ops oj=true)->
   i∈Region.ready .any ops B->YieldsIf P ops S oi v a->S w->
   iE P ops Q S m C (B.setIfInBounds i true) (a.put oi.dst v) w->iE P ops Q S m (C+1) B a w:=by
 intro C
 induction C with
 |zero=>
  intro B a w _ _ hr hy hS H;refine⟨λh=>(by rw[h] at hr;cases hr),λj hj=>?_⟩
  by_cases D:j=i
  ·subst D;exact hy.wpOp hi hS ⟨λ_=>hS,H⟩
  ·have:=ready_mono hj D
   rw[H.1] at this
   cases this
 |succ C ih=>
  intro B a w aJ G hr hy hS H;refine⟨λh=>(by rw[h] at hr;cases hr),λj hj=>?_⟩
  by_cases D:j=i
  ·subst D;exact hy.wpOp hi hS ⟨λ_=>hS,H⟩
  ·have h1:=H.2 j (ready_mono hj D)
   obtain⟨T,oj,I,N⟩:=mem_ready.1 hj
   have K:¬B.getD i false=true:= λh1=>by
    have h0:=(mem_ready.1 hr).1;rcases OI i B.size with h'|h'
    ·simp[h'] at h0 h1;rw[h0] at h1;cases h1
    ·simp[Array.getElem?_eq_none h'] at h1
   have cE:∀e∈oj.after,Region.binds .any e=true->e.on≠i:= λe he hb cI=>K (cI▸N e he hb)
   have dv:j<m:=by
    rcases OI j m with h'|h'
    ·exact h'
    ·refine absurd (pK aJ ops.size j i (λo ho e he hb=>?_) (eE j h' (Array.getElem?_eq_some_iff.1 I).1)) K
     rw[I] at ho;cases ho;exact N e he hb
   have h2:=wpOp_putIf I (G j oj I D T cE) (λcs b=>av i oi cs b hi) (λcs b=>av j oj cs b I) hQ hy h1
   have M:∀k ok,ops[k]? =some ok->k≠i->(B.setIfInBounds j true).getD k true=false->
     (∀e∈ok.after,Region.binds .any e=true->e.on≠i)->oi.apart ops ok=true:= λk ok hk dy K dO=>by
    refine G k ok hk dy ?_ dO
    by_cases bM:j=k
    ·subst bM;exact T
    ·rw[getD_set_ne true bM] at K;exact K
   refine wpOp_mono (λa' w' h3=>⟨h3.2.1,ih (B.setIfInBounds j true) a' w' (cG aJ hj) M (ready_mono hr (Ne.symm D)) h3.1 (h3.2.1 dv) ?_⟩) h2;rw[Array.setIfInBounds_comm _ _ D];exact h3.2.2
def nL (P:Program) (j:Array Oper) (Q:Exit->Act->World->Prop) (S:World->Prop) (m:Nat):List (Nat×Bool)->Act->World->Prop
 |[],a,w=>wpList P j Q (j.toList.drop m) a w
 |(i,true)::r,a,w=>∃o v,j[i]? =some o/\YieldsIf P j S o v a/\nL P j Q S m r (a.put o.dst v) w
 |(i,false)::r,a,w=>wpOp P j Q i (λB w'=>S w'/\nL P j Q S m r B w') a w
def jz (j:Array Oper):Nat->Nat->Array Bool->Bool
 |0,_,listed=>Region.ready .any j listed==[]
 |c+1,k,listed=>Region.ready .any j listed==[k]&&jz j c (k+1) (listed.setIfInBounds k true)
def nJ (B:Array Oper) (m:Nat):Array Bool->List (Nat×Bool)->Bool
 |listed,[]=>jz B (B.size - m) m listed
 |listed,(i,true)::r=>decide (i<m)&&Region.free .any B listed i&&(Region.ready .any B listed).contains i&&(OJ B.size).all (λj=>decide (j<m)||mT B B.size j i)&&nJ B m (listed.setIfInBounds i true) r
 |listed,(i,false)::r=>decide (i<m)&&(Region.ready .any B listed==[i])&&nJ B m (listed.setIfInBounds i true) r
theorem iG:∀(c k:Nat)(j:Array Bool)(a:Act)(w:World),jz ops c k j=true->k+c=ops.size->m<=k->
  wpList P ops Q (ops.toList.drop k) a w->iE P ops Q S m c j a w
 |0,k,j,a,w,C,hk,_,h=>by
  have hd:ops.toList.drop k=[]:=List.drop_eq_nil_of_le (by simp;omega);rw[hd] at h;exact⟨by simpa [jz] using C,h⟩
 |c+1,k,j,a,w,C,hk,hm,h=>by
  simp only[jz,O,beq_iff_eq] at C;obtain⟨N,C⟩:=C;refine⟨λK=>(by rw[N] at K;cases K),λi M=>?_⟩;rw[N,U] at M;subst M;have G:i<(J ops.toList):=(by simp;omega);rw[List.drop_eq_getElem_cons G] at h;have ho:ops[i]? =some ops.toList[i]:=(by simp);unfold wpOp;rw[ho];simp only[wpList] at h
  have B:∀D w',wpList P ops Q (ops.toList.drop (i+1)) D w'->((i<m->S w')/\iE P ops Q S m c (j.setIfInBounds i true) D w'):=
   λD w' T=>⟨λh=>absurd h (by omega),iG c (i+1) _ D w' C (by omega) (by omega) T⟩
  split at h
  ·rename_i I
   simp only[I,if_true];exact h.imp (Oper.wp_mono B) id
  ·rename_i I
   simp only[I];exact B _ _ h
theorem l5 (D:Region.noSelect ops=true)(T:∀c a d v w,Q (.panic c) (Act.put a d v) w->Q (.panic c) a w) (hm:m<=ops.size):
  ∀(G:List (Nat×Bool))(B:Array Bool)(a:Act)(w:World),nJ ops m B G=true->fI ops B->S w->
   nL P ops Q S m G a w->iE P ops Q S m (J G+(ops.size - m)) B a w
 |[],B,a,w,C,_,_,h=>by
  rw[List.length_nil,OC];exact iG (ops.size - m) m B a w C (by omega) (OD _) h
 |(i,true)::r,B,a,w,C,hcl,hS,h=>by
  simp only[nJ,O,decide_eq_true_eq] at C;obtain⟨⟨⟨⟨av,hf⟩,M⟩,cE⟩,C⟩:=C;obtain⟨o,v,ho,hy,h⟩:=h;have I:i∈Region.ready .any ops B:=(by simpa using M);rw[show ((i,true)::r).length+(ops.size - m)=(J r+(ops.size - m))+1 by simp;omega];refine mG ho av (Region.noSelect_spec D) (λc a w=>T c a _ _ w) (λj K bM=>?_) _ B a w hcl (Region.free_spec ho hf) I hy hS (l5 D T hm r _ _ _ C (cG hcl I) hS h);have:=Z.1 cE j (X.2 bM);simp only[V,decide_eq_true_eq] at this;exact this.resolve_left (by omega)
 |(i,false)::r,B,a,w,C,hcl,hS,h=>by
  simp only[nJ,O,decide_eq_true_eq,beq_iff_eq] at C;obtain⟨⟨_,M⟩,C⟩:=C;rw[show ((i,false)::r).length+(ops.size - m)=(J r+(ops.size - m))+1 by simp;omega];refine⟨λh0=>(by rw[M] at h0;cases h0),λj K=>?_⟩;have aJ:=K;rw[M,U] at K;subst K;exact wpOp_mono (λa' w' N=>⟨λ_=>N.1,l5 D T hm r _ _ _ C (cG hcl aJ) N.1 N.2⟩) h
def oy (j:Array Oper) (m:Nat) (B:List (Nat×Bool)):Bool:=
 Region.noSelect j&&decide (m<=j.size)&&((J B)==m)&&nJ j m (Array.replicate j.size false) B
theorem tQ (S:World->Prop)(m:Nat)(B:List (Nat×Bool)){id:Nat}{a:Act}{w:World}(K:P.follows .mixedOrders=true)(C:oy ops m B=true)
  (M:∀c a d v w,Q (.panic c) (Act.put a d v) w->Q (.panic c) a w) (N:S w.drew) (h:nL P ops Q S m B a w.drew):(Code.region id ops true).wp P Q a w:=by
 simp only[oy,O,decide_eq_true_eq,beq_iff_eq] at C;obtain⟨⟨⟨D,T⟩,hl⟩,C⟩:=C
 have G:fI ops (Array.replicate ops.size false):= λj o ho hl=>by
  have I:=(Array.getElem?_eq_some_iff.1 ho).1;simp[I] at hl
 have:=l5 D M T B _ a w.drew C G N h;rw[show (J B)+(ops.size - m)=ops.size by omega] at this;exact wp_region_any K (jP _ _ _ _ this)
def rF (B:List (Option Tmp)) (tmps:Array Value) (j:Nat):Option Bool:=
 match ((B[j]?).bind id).bind (tmps[·]?) with
 |some (.bool b)=>some b
 |_=>none
def bu (o:Oper) (B:List (Option Tmp)) (tmps:Array Value):Bool:=
 match o.guard with
 |none=>true
 |some (j,want)=>rF B tmps j==some want
theorem eD (o:Oper)(tmps:Array Value):Region.wanted o (yielded ops tmps)=bu o (ops.toList.map (·.dst)) tmps:=by
 unfold Region.wanted bu
 cases o.guard with
 |none=>rfl
 |some g=>
  obtain⟨j,B⟩:=g
  have:yielded ops tmps j=rF (ops.toList.map (·.dst)) tmps j:=by
   unfold yielded rF;simp only[List.getElem?_map,Array.getElem?_toList]
   cases ops[j]? <;>rfl
  simp only[this]
def ew (P:Program) (j:List (Option Tmp)) (S:World->Prop) (E:Act->World->Prop):List (Oper×Bool)->Act->World->Prop
 |[],a,w=>E a w
 |(o,true)::r,a,w=>∃d v,o.dst=some d/\((bu o j a.tmps=true/\∀w,S w->(execOp a.eval o).run P w= .ok (.value v) w)\/(bu o j a.tmps=false/\v=undef))/\ew P j S E r ⟨a.tmps.setIfInBounds d v,a.defers⟩ w
 |(o,false)::r,a,w=>∃d,o.dst=some d/\((bu o j a.tmps=false/\S w/\ew P j S E r ⟨a.tmps.setIfInBounds d undef,a.defers⟩ w)\/
   (bu o j a.tmps=true/\((∃v w',(execOp a.eval o).run P w= .ok (.value v) w'/\S w'/\ew P j S E r ⟨a.tmps.setIfInBounds d v,a.defers⟩ w')\/
    (∃f args,(execOp a.eval o).run P w= .ok (.enter f args) w/\Calls P f args w λe w'=>∃v,e=Y v/\S w'/\ew P j S E r ⟨a.tmps.setIfInBounds d v,a.defers⟩ w'))))
theorem kW {E:Act->World->Prop}(D:∀a w,E a w->wpList P ops Q (ops.toList.drop m) a w):∀(j:List (Nat×Bool))(a:Act)(w:World),(∀p∈j,p.1<ops.size)->
  ew P (ops.toList.map (·.dst)) S E (j.map λp=>(ops.getD p.1 default,p.2)) a w->nL P ops Q S m j a w
 |[],a,w,_,h=>D _ _ h
 |(i,true)::r,a,w,hlt,h=>by
  obtain⟨d,v,hd,N,h⟩:=h;have G:i<ops.size:=hlt _ (OB);have I:ops[i]? =some (ops.getD i default):=(by simp[Array.getD,G]);refine⟨_,v,I,?_,?_⟩
  ·rw[<-eD] at N;exact N
  ·simp only[Act.put,hd]
   exact kW D r _ _ (λp K=>hlt p (OA _ K)) h
 |(i,false)::r,a,w,hlt,h=>by
  obtain⟨d,hd,h⟩:=h;have G:i<ops.size:=hlt _ (OB);have I:ops[i]? =some (ops.getD i default):=(by simp[Array.getD,G]);have M:∀a w,_->nL P ops Q S m r a w:= λa w=>kW D r a w (λp K=>hlt p (OA _ K));show wpOp P ops Q i _ _ w;unfold wpOp;simp only[I];rcases h with⟨C,B,h⟩|⟨C,h⟩
  ·rw[<-eD] at C
   simp only[C];exact⟨B,by simp only[Act.put,hd];exact M _ _ h⟩
  ·rw[<-eD] at C
   simp only[C,if_true];refine .inl ?_;unfold Oper.wp;rcases h with⟨v,w',he,B,h⟩|⟨f,args,he,T⟩
   ·rw[he,Oper.upon_value]
    exact⟨B,by simp only[Act.put,hd];exact M _ _ h⟩
   ·rw[he,Oper.upon_enter]
    refine Calls.mono T λe w' hr=>?_;obtain⟨v,rfl,B,h⟩:=hr;exact⟨B,by simp only[Act.put,hd];exact M _ _ h⟩
theorem sV (S:World->Prop)(m:Nat)(j:List (Nat×Bool)){id:Nat}{a:Act}{w:World}{l:List (Oper×Bool)}{B:List (Option Tmp)}(G:P.follows .mixedOrders=true)(I:oy ops m j=true)
  (K:∀c a d v w,Q (.panic c) (Act.put a d v) w->Q (.panic c) a w) (D:(j.all λp=>decide (p.1<ops.size))=true) (hl:(j.map λp=>(ops.getD p.1 default,p.2))=l) (C:ops.toList.map (·.dst)=B)
  (M:S w.drew) (h:∀E:Act->World->Prop,(∀a w,wpList P ops Q (ops.toList.drop m) a w->E a w)->ew P B S E l a w.drew):(Code.region id ops true).wp P Q a w:=by
 subst hl C;exact tQ S m j G I K M (kW (E:=wpList P ops Q (ops.toList.drop m)) (λ_ _ h=>h) j a _ (λp N=>by simpa using Z.1 D p N) (h _ λ_ _ h=>h))
section
variable {dsts:List (Option Tmp)} {E:Act->World->Prop}
theorem bh {d:Nat}{r:List (Oper×Bool)}{tmps:Array Value}{defers:List Deferred}{w:World}{o:Oper}{v:Value}(hd:o.dst=some d)(j:bu o dsts tmps=true)
  (B:∀w,S w->(execOp (Act.eval ⟨tmps,defers⟩) o).run P w= .ok (.value v) w) (h:ew P dsts S E r ⟨tmps.setIfInBounds d v,defers⟩ w):ew P dsts S E ((o,true)::r) ⟨tmps,defers⟩ w:=
 ⟨d,v,hd,.inl ⟨j,B⟩,h⟩
theorem iw {d:Nat}{r:List (Oper×Bool)}{tmps:Array Value}{defers:List Deferred}{w:World}{o:Oper}(hd:o.dst=some d)(j:bu o dsts tmps=false)
  (h:ew P dsts S E r ⟨tmps.setIfInBounds d undef,defers⟩ w):ew P dsts S E ((o,true)::r) ⟨tmps,defers⟩ w:=
 ⟨d,undef,hd,.inr ⟨j,rfl⟩,h⟩
theorem kM {d f:Nat}{args:Array Value}{r:List (Oper×Bool)}{tmps:Array Value}{defers:List Deferred}{w:World}{o:Oper}{R:Ending->World->Prop}(hd:o.dst=some d)(B:bu o dsts tmps=true)
  (he:(execOp (Act.eval ⟨tmps,defers⟩) o).run P w= .ok (.enter f args) w) (j:Calls P f args w R)
  (h:∀e w',R e w'->∃v,e=Y v/\S w'/\ew P dsts S E r ⟨tmps.setIfInBounds d v,defers⟩ w'):ew P dsts S E ((o,false)::r) ⟨tmps,defers⟩ w:=
 ⟨d,hd,.inr ⟨B,.inr ⟨f,args,he,Calls.mono j h⟩⟩⟩
theorem Cr {d:Nat}{r:List (Oper×Bool)}{tmps:Array Value}{defers:List Deferred}{w w':World}{o:Oper}{v:Value}(hd:o.dst=some d)(B:bu o dsts tmps=true)
  (he:(execOp (Act.eval ⟨tmps,defers⟩) o).run P w= .ok (.value v) w') (j:S w') (h:ew P dsts S E r ⟨tmps.setIfInBounds d v,defers⟩ w'):ew P dsts S E ((o,false)::r) ⟨tmps,defers⟩ w:=
 ⟨d,hd,.inr ⟨B,.inl ⟨v,w',he,j,h⟩⟩⟩
end
end
theorem dx {P:Program}{j:Array Oper}{Q:Exit->Act->World->Prop}(S:World->Prop)(m:Nat)(B:List (Nat×Bool)){id:Nat}{a:Act}{w:World}{l:List (Oper×Bool)}{C:List (Option Tmp)}
  (N:S w.drew) (h:∀E:Act->World->Prop,(∀a w,wpList P j Q (j.toList.drop m) a w->E a w)->ew P C S E l a w.drew)
  (I:P.follows .mixedOrders=true:=by kernel_rfl) (K:oy j m B=true:=by kernel_rfl) (M:∀c a d v w,Q (.panic c) (Act.put a d v) w->Q (.panic c) a w:=by intro _ _ d _ _ h;cases d<;>exact h) (G:(B.all λp=>decide (p.1<j.size))=true:=by decide)
  (hl:(B.map λp=>(j.getD p.1 default,p.2))=l:=by simp only[OF,OH,Array.getD_eq_getD_getElem?,List.getElem?_toArray,List.getElem?_cons_zero,List.getElem?_cons_succ,OE];rfl) (D:j.toList.map (·.dst)=C:=by simp only[OF,OH];rfl):(Code.region id j true).wp P Q a w:=
 sV S m B I K M G hl D N h
inductive bY where
 |done
 |take (i:Nat) (r:bY)
 |step (i:Nat) (r:bY)
 |fork (i:Nat) (r:bY) (j:Nat) (q:bY)
def bY.len:bY->Nat
 | .done=>0
 | .take _ r=>r.len+1
 | .step _ r=>r.len+1
 | .fork _ r _ _=>r.len+1
section
variable {P:Program} {ops:Array Oper} {Q:Exit->Act->World->Prop} {m:Nat}
theorem ik {S C:World->Prop}(G:∀w,C w->S w):∀(j:Nat)(B:Array Bool)(a:Act)(w:World),iE P ops Q C m j B a w->iE P ops Q S m j B a w
 |0,_,_,_,h=>h
 |j+1,_,_,_,h=>⟨h.1,λi K=>wpOp_mono (λI w' D=>⟨λM=>G _ (D.1 M),ik G j _ I w' D.2⟩) (h.2 i K)⟩
def jQ (P:Program) (B:Array Oper) (Q:Exit->Act->World->Prop) (m:Nat):bY->(World->Prop)->Act->World->Prop
 | .done,_,a,w=>wpList P B Q (B.toList.drop m) a w
 | .take i r,S,a,w=>∃o v,B[i]? =some o/\YieldsIf P B S o v a/\jQ P B Q m r S (a.put o.dst v) w
 | .step i r,S,a,w=>wpOp P B Q i (λD w'=>∃C:World->Prop,(∀w,C w->S w)/\C w'/\jQ P B Q m r C D w') a w
 | .fork i r j q,S,a,w=>wpOp P B Q i (λD w'=>∃C:World->Prop,(∀w,C w->S w)/\C w'/\jQ P B Q m r C D w') a w/\
   wpOp P B Q j (λD w'=>∃C:World->Prop,(∀w,C w->S w)/\C w'/\jQ P B Q m q C D w') a w
def eK (B:Array Oper) (m:Nat):bY->Array Bool->Bool
 | .done,listed=>jz B (B.size - m) m listed
 | .take i r,listed=>decide (i<m)&&Region.free .any B listed i&&(Region.ready .any B listed).contains i&&(OJ B.size).all (λj=>decide (j<m)||mT B B.size j i)&&eK B m r (listed.setIfInBounds i true)
 | .step i r,listed=>decide (i<m)&&(Region.ready .any B listed==[i])&&eK B m r (listed.setIfInBounds i true)
 | .fork i r j q,listed=>decide (i<m)&&decide (j<m)&&(r.len==q.len)&&(Region.ready .any B listed==[i,j])&&eK B m r (listed.setIfInBounds i true)&&eK B m q (listed.setIfInBounds j true)
theorem gw (D:Region.noSelect ops=true)(hQ:∀c a d v w,Q (.panic c) (Act.put a d v) w->Q (.panic c) a w) (hm:m<=ops.size):
  ∀(I:bY)(S:World->Prop)(B:Array Bool)(a:Act)(w:World),eK ops m I B=true->fI ops B->S w->
   jQ P ops Q m I S a w->iE P ops Q S m (I.len+(ops.size - m)) B a w
 | .done,S,B,a,w,C,_,_,h=>by
  rw[bY.len,OC];exact iG (ops.size - m) m B a w C (by omega) (OD _) h
 | .take i r,S,B,a,w,C,hcl,hS,h=>by
  simp only[eK,O,decide_eq_true_eq] at C;obtain⟨⟨⟨⟨cI,hf⟩,N⟩,dy⟩,C⟩:=C;obtain⟨o,v,ho,hy,h⟩:=h;have cE:i∈Region.ready .any ops B:=(by simpa using N);rw[show (bY.take i r).len+(ops.size - m)=(r.len+(ops.size - m))+1 by simp[bY.len];omega];refine mG ho cI (Region.noSelect_spec D) (λc a w=>hQ c a _ _ w) (λj G dv=>?_) _ B a w hcl (Region.free_spec ho hf) cE hy hS (gw D hQ hm r S _ _ _ C (cG hcl cE) hS h);have:=Z.1 dy j (X.2 dv);simp only[V,decide_eq_true_eq] at this;exact this.resolve_left (by omega)
 | .step i r,S,B,a,w,C,hcl,hS,h=>by
  simp only[eK,O,decide_eq_true_eq,beq_iff_eq] at C;obtain⟨⟨_,N⟩,C⟩:=C;rw[show (bY.step i r).len+(ops.size - m)=(r.len+(ops.size - m))+1 by simp[bY.len];omega];refine⟨λh0=>(by rw[N] at h0;cases h0),λj G=>?_⟩;have K:=G;rw[N,U] at G;subst G;exact wpOp_mono (λa' w' ⟨T,M,h2,h3⟩=>⟨λ_=>M _ h2,ik M _ _ _ _ (gw D hQ hm r T _ _ _ C (cG hcl K) h2 h3)⟩) h
 | .fork i r k q,S,B,a,w,C,hcl,hS,h=>by
  simp only[eK,O,decide_eq_true_eq,beq_iff_eq] at C;obtain⟨⟨⟨⟨⟨_,_⟩,av⟩,N⟩,aJ⟩,bM⟩:=C;rw[show (bY.fork i r k q).len+(ops.size - m)=(r.len+(ops.size - m))+1 by simp[bY.len];omega];refine⟨λh0=>(by rw[N] at h0;cases h0),λj G=>?_⟩;have K:=G;rw[N] at G;rcases OG.1 G with rfl|G
  ·exact wpOp_mono (λa' w' ⟨T,M,h2,h3⟩=>⟨λ_=>M _ h2,ik M _ _ _ _ (gw D hQ hm r T _ _ _ aJ (cG hcl K) h2 h3)⟩) h.1
  ·rw[U] at G
   subst G;rw[av];exact wpOp_mono (λa' w' ⟨T,M,h2,h3⟩=>⟨λ_=>M _ h2,ik M _ _ _ _ (gw D hQ hm q T _ _ _ bM (cG hcl K) h2 h3)⟩) h.2
inductive eP where
 |done
 |take (o:Oper) (r:eP)
 |step (o:Oper) (r:eP)
 |fork (o:Oper) (r:eP) (p:Oper) (q:eP)
def bY.out (B:Array Oper):bY->eP
 | .done=> .done
 | .take i r=> .take (B.getD i default) (r.out B)
 | .step i r=> .step (B.getD i default) (r.out B)
 | .fork i r j q=> .fork (B.getD i default) (r.out B) (B.getD j default) (q.out B)
def bY.inside (n:Nat):bY->Bool
 | .done=>true
 | .take i r=>decide (i<n)&&r.inside n
 | .step i r=>decide (i<n)&&r.inside n
 | .fork i r j q=>decide (i<n)&&r.inside n&&decide (j<n)&&q.inside n
def ko (P:Program) (j:List (Option Tmp)) (o:Oper) (E:Act->World->Prop) (a:Act) (w:World):Prop:=
 bu o j a.tmps=true/\((∃d,o.dst=some d/\((∃v w',(execOp a.eval o).run P w= .ok (.value v) w'/\E ⟨a.tmps.setIfInBounds d v,a.defers⟩ w')\/
  (∃f args,(execOp a.eval o).run P w= .ok (.enter f args) w/\Calls P f args w λe w'=>∃v,e=Y v/\E ⟨a.tmps.setIfInBounds d v,a.defers⟩ w')))\/
  (o.dst=none/\∃w',(execOp a.eval o).run P w= .ok .skip w'/\E a w'))
def cg (P:Program) (j:List (Option Tmp)) (E:Act->World->Prop):eP->(World->Prop)->Act->World->Prop
 | .done,_,a,w=>E a w
 | .take o r,S,a,w=>∃d v,o.dst=some d/\(bu o j a.tmps=true/\∀w,S w->(execOp a.eval o).run P w= .ok (.value v) w)/\cg P j E r S ⟨a.tmps.setIfInBounds d v,a.defers⟩ w
 | .step o r,S,a,w=>ko P j o (λC w'=>∃B:World->Prop,(∀w,B w->S w)/\B w'/\cg P j E r B C w') a w
 | .fork o r p q,S,a,w=>ko P j o (λC w'=>∃B:World->Prop,(∀w,B w->S w)/\B w'/\cg P j E r B C w') a w/\ko P j p (λC w'=>∃B:World->Prop,(∀w,B w->S w)/\B w'/\cg P j E q B C w') a w
theorem rB {i:Nat}(D:i<ops.size){E F:Act->World->Prop}(j:∀a w,E a w->F a w) {a:Act} {w:World} (h:ko P (ops.toList.map (·.dst)) (ops.getD i default) E a w):wpOp P ops Q i F a w:=by
 obtain⟨B,h⟩:=h;have G:ops[i]? =some (ops.getD i default):=by simp[Array.getD,D]
 unfold wpOp;simp only[G];rw[<-eD] at B;simp only[B,if_true];refine .inl ?_;unfold Oper.wp;rcases h with⟨d,hd,⟨v,w',he,h⟩|⟨f,args,he,C⟩⟩|⟨hd,w',he,h⟩
 ·rw[he,Oper.upon_value]
  simp only[Act.put,hd];exact j _ _ h
 ·rw[he,Oper.upon_enter]
  refine Calls.mono C λe w' I=>?_;obtain⟨v,rfl,h⟩:=I;simp only[Act.put,hd];exact j _ _ h
 ·rw[he,Oper.upon_skip]
  simp only[Act.put,hd];exact j _ _ h
theorem fZ {E:Act->World->Prop}(I:∀a w,E a w->wpList P ops Q (ops.toList.drop m) a w):∀(B:bY)(S:World->Prop)(a:Act)(w:World),B.inside ops.size=true->
  cg P (ops.toList.map (·.dst)) E (B.out ops) S a w->jQ P ops Q m B S a w
 | .done,S,a,w,_,h=>I _ _ h
 | .take i r,S,a,w,hb,h=>by
  simp only[bY.inside,O,decide_eq_true_eq] at hb;obtain⟨d,v,hd,K,h⟩:=h;have M:ops[i]? =some (ops.getD i default):=(by simp[Array.getD,hb.1]);refine⟨_,v,M,?_,?_⟩
  ·rw[<-eD] at K;exact .inl K
  ·simp only[Act.put,hd]
   exact fZ I r S _ _ hb.2 h
 | .step i r,S,a,w,hb,h=>by
  simp only[bY.inside,O,decide_eq_true_eq] at hb;exact rB hb.1 (λa w ⟨C,D,h2,G⟩=>⟨C,D,h2,fZ I r C _ _ hb.2 G⟩) h
 | .fork i r j q,S,a,w,hb,h=>by
  simp only[bY.inside,O,decide_eq_true_eq] at hb;exact⟨rB hb.1.1.1 (λa w ⟨C,D,h2,G⟩=>⟨C,D,h2,fZ I r C _ _ hb.1.1.2 G⟩) h.1,rB hb.1.2 (λa w ⟨C,D,h2,G⟩=>⟨C,D,h2,fZ I q C _ _ hb.2 G⟩) h.2⟩
def dd (j:Array Oper) (m:Nat) (B:bY):Bool:=
 Region.noSelect j&&decide (m<=j.size)&&(B.len==m)&&eK j m B (Array.replicate j.size false)&&B.inside j.size
theorem tR (S:World->Prop)(m:Nat)(B:bY){id:Nat}{a:Act}{w:World}{l:eP}{D:List (Option Tmp)}(T:P.follows .mixedOrders=true)(C:dd ops m B=true)
  (hQ:∀c a d v w,Q (.panic c) (Act.put a d v) w->Q (.panic c) a w) (hl:B.out ops=l) (M:ops.toList.map (·.dst)=D)
  (hS:S w.drew) (h:∀E:Act->World->Prop,(∀a w,wpList P ops Q (ops.toList.drop m) a w->E a w)->cg P D E l S a w.drew):(Code.region id ops true).wp P Q a w:=by
 subst hl M;simp only[dd,O,decide_eq_true_eq,beq_iff_eq] at C;obtain⟨⟨⟨⟨G,hm⟩,hl⟩,C⟩,I⟩:=C
 have K:fI ops (Array.replicate ops.size false):= λj o ho hl=>by
  have N:=(Array.getElem?_eq_some_iff.1 ho).1;simp[N] at hl
 have:=gw G hQ hm B S _ a w.drew C K hS (fZ (E:=wpList P ops Q (ops.toList.drop m)) (λ_ _ h=>h) B S a _ I (h _ λ_ _ h=>h));rw[show B.len+(ops.size - m)=ops.size by omega] at this;exact wp_region_any T (jP _ _ _ _ this)
section
variable {dsts:List (Option Tmp)} {E:Act->World->Prop} {S:World->Prop}
theorem af {d:Nat}{r:eP}{tmps:Array Value}{defers:List Deferred}{w:World}{o:Oper}{v:Value}(hd:o.dst=some d)(j:bu o dsts tmps=true)
  (B:∀w,S w->(execOp (Act.eval ⟨tmps,defers⟩) o).run P w= .ok (.value v) w) (h:cg P dsts E r S ⟨tmps.setIfInBounds d v,defers⟩ w):cg P dsts E (.take o r) S ⟨tmps,defers⟩ w:=
 ⟨d,v,hd,⟨j,B⟩,h⟩
theorem aG {d f:Nat}{args:Array Value}{r:eP}{tmps:Array Value}{defers:List Deferred}{w:World}{o:Oper}{R:Ending->World->Prop}(hd:o.dst=some d)(D:bu o dsts tmps=true)
  (he:(execOp (Act.eval ⟨tmps,defers⟩) o).run P w= .ok (.enter f args) w) (C:Calls P f args w R)
  (h:∀e w',R e w'->∃v,e=Y v/\∃j:World->Prop,(∀w,j w->S w)/\j w'/\cg P dsts E r j ⟨tmps.setIfInBounds d v,defers⟩ w'):
  ko P dsts o (λB w'=>∃j:World->Prop,(∀w,j w->S w)/\j w'/\cg P dsts E r j B w') ⟨tmps,defers⟩ w:=
 ⟨D,.inl ⟨d,hd,.inr ⟨f,args,he,Calls.mono C h⟩⟩⟩
theorem aj {d:Nat}{r:eP}{tmps:Array Value}{defers:List Deferred}{w w':World}{o:Oper}{v:Value}(hd:o.dst=some d)(D:bu o dsts tmps=true)
  (he:(execOp (Act.eval ⟨tmps,defers⟩) o).run P w= .ok (.value v) w') (C:S w') (h:cg P dsts E r S ⟨tmps.setIfInBounds d v,defers⟩ w'):
  ko P dsts o (λB w'=>∃j:World->Prop,(∀w,j w->S w)/\j w'/\cg P dsts E r j B w') ⟨tmps,defers⟩ w:=
 ⟨D,.inl ⟨d,hd,.inl ⟨v,w',he,S,λ_ h=>h,C,h⟩⟩⟩
theorem bD (S:World->Prop){r:eP}{tmps:Array Value}{defers:List Deferred}{w w':World}{o:Oper}(hd:o.dst=none)(D:bu o dsts tmps=true)
  (he:(execOp (Act.eval ⟨tmps,defers⟩) o).run P w= .ok .skip w') (C:S w') (h:cg P dsts E r S ⟨tmps,defers⟩ w'):
  ko P dsts o (λB w'=>∃j:World->Prop,(∀w,j w->S w)/\j w'/\cg P dsts E r j B w') ⟨tmps,defers⟩ w:=
 ⟨D,.inr ⟨hd,w',he,S,λ_ h=>h,C,h⟩⟩
end
end
section
variable {P:Program} {ops:Array Oper} {Q:Exit->Act->World->Prop} {m:Nat}
theorem gX (D:Region.noSelect ops=true)(hQ:∀c a o v w,o∈ops.toList->Q (.panic c) (Act.put a o.dst v) w->Q (.panic c) a w) (hm:m<=ops.size):
  ∀(I:bY)(S:World->Prop)(B:Array Bool)(a:Act)(w:World),eK ops m I B=true->fI ops B->S w->
   jQ P ops Q m I S a w->iE P ops Q S m (I.len+(ops.size - m)) B a w
 | .done,S,B,a,w,C,_,_,h=>by
  rw[bY.len,OC];exact iG (ops.size - m) m B a w C (by omega) (OD _) h
 | .take i r,S,B,a,w,C,hcl,hS,h=>by
  simp only[eK,O,decide_eq_true_eq] at C;obtain⟨⟨⟨⟨dv,hf⟩,N⟩,dO⟩,C⟩:=C;obtain⟨o,v,ho,hy,h⟩:=h;have cI:i∈Region.ready .any ops B:=(by simpa using N);have aJ:o∈ops.toList:=(by obtain⟨K,h2⟩:=Array.getElem?_eq_some_iff.1 ho;rw[<-h2];simp);rw[show (bY.take i r).len+(ops.size - m)=(r.len+(ops.size - m))+1 by simp[bY.len];omega];refine mG ho dv (Region.noSelect_spec D) (λc a w=>hQ c a _ _ w aJ) (λj G dy=>?_) _ B a w hcl (Region.free_spec ho hf) cI hy hS (gX D hQ hm r S _ _ _ C (cG hcl cI) hS h);have:=Z.1 dO j (X.2 dy);simp only[V,decide_eq_true_eq] at this;exact this.resolve_left (by omega)
 | .step i r,S,B,a,w,C,hcl,hS,h=>by
  simp only[eK,O,decide_eq_true_eq,beq_iff_eq] at C;obtain⟨⟨_,N⟩,C⟩:=C;rw[show (bY.step i r).len+(ops.size - m)=(r.len+(ops.size - m))+1 by simp[bY.len];omega];refine⟨λh0=>(by rw[N] at h0;cases h0),λj G=>?_⟩;have M:=G;rw[N,U] at G;subst G;exact wpOp_mono (λa' w' ⟨T,K,h2,h3⟩=>⟨λ_=>K _ h2,ik K _ _ _ _ (gX D hQ hm r T _ _ _ C (cG hcl M) h2 h3)⟩) h
 | .fork i r k q,S,B,a,w,C,hcl,hS,h=>by
  simp only[eK,O,decide_eq_true_eq,beq_iff_eq] at C;obtain⟨⟨⟨⟨⟨_,_⟩,av⟩,N⟩,bM⟩,cE⟩:=C;rw[show (bY.fork i r k q).len+(ops.size - m)=(r.len+(ops.size - m))+1 by simp[bY.len];omega];refine⟨λh0=>(by rw[N] at h0;cases h0),λj G=>?_⟩;have M:=G;rw[N] at G;rcases OG.1 G with rfl|G
  ·exact wpOp_mono (λa' w' ⟨T,K,h2,h3⟩=>⟨λ_=>K _ h2,ik K _ _ _ _ (gX D hQ hm r T _ _ _ bM (cG hcl M) h2 h3)⟩) h.1
  ·rw[U] at G
   subst G;rw[av];exact wpOp_mono (λa' w' ⟨T,K,h2,h3⟩=>⟨λ_=>K _ h2,ik K _ _ _ _ (gX D hQ hm q T _ _ _ cE (cG hcl M) h2 h3)⟩) h.2
def lS (P:Program) (j:List (Option Tmp)) (C:List PanicEntry->Act->World->Prop) (E:Act->World->Prop):eP->(World->Prop)->Act->World->Prop
 | .done,_,a,w=>E a w
 | .take o r,S,a,w=>∃d v,o.dst=some d/\(bu o j a.tmps=true/\∀w,S w->(execOp a.eval o).run P w= .ok (.value v) w)/\lS P j C E r S ⟨a.tmps.setIfInBounds d v,a.defers⟩ w
 | .step o r,S,a,w=>bu o j a.tmps=true/\∃d,o.dst=some d/\∃f args,(execOp a.eval o).run P w= .ok (.enter f args) w/\Calls P f args w λe w'=>
   (∃v,e=Y v/\∃B:World->Prop,(∀w,B w->S w)/\B w'/\cg P j E r B ⟨a.tmps.setIfInBounds d v,a.defers⟩ w')\/(∃c,e= .panicked c/\C c a w')
 | .fork _ _ _ _,_,_,_=>False
theorem qa {E:Act->World->Prop}(B:∀a w,E a w->wpList P ops Q (ops.toList.drop m) a w):∀(j:bY)(S:World->Prop)(a:Act)(w:World),j.inside ops.size=true->
  lS P (ops.toList.map (·.dst)) (λc=>Q (.panic c)) E (j.out ops) S a w->jQ P ops Q m j S a w
 | .done,S,a,w,_,h=>B _ _ h
 | .take i r,S,a,w,hb,h=>by
  simp only[bY.inside,O,decide_eq_true_eq] at hb;obtain⟨d,v,hd,I,h⟩:=h;have C:ops[i]? =some (ops.getD i default):=(by simp[Array.getD,hb.1]);refine⟨_,v,C,?_,?_⟩
  ·rw[<-eD] at I;exact .inl I
  ·simp only[Act.put,hd]
   exact qa B r S _ _ hb.2 h
 | .step i r,S,a,w,hb,h=>by
  simp only[bY.inside,O,decide_eq_true_eq] at hb;obtain⟨G,d,hd,f,args,he,N⟩:=h;have C:ops[i]? =some (ops.getD i default):=(by simp[Array.getD,hb.1]);unfold jQ wpOp;simp only[C];rw[<-eD] at G;simp only[G,if_true];refine .inl ?_;unfold Oper.wp;rw[he,Oper.upon_enter];refine Calls.mono N λe w' T=>?_;rcases T with⟨v,rfl,D,K,h2,M⟩|⟨c,rfl,h⟩
  ·simp only[Act.put,hd]
   exact⟨D,K,h2,fZ B r D _ _ hb.2 M⟩
  ·exact h
theorem sW (S:World->Prop)(m:Nat)(B:bY){id:Nat}{a:Act}{w:World}{l:eP}{D:List (Option Tmp)}(T:P.follows .mixedOrders=true)(C:dd ops m B=true)
  (hQ:∀c a o v w,o∈ops.toList->Q (.panic c) (Act.put a o.dst v) w->Q (.panic c) a w) (hl:B.out ops=l) (M:ops.toList.map (·.dst)=D)
  (hS:S w.drew) (h:∀E:Act->World->Prop,(∀a w,wpList P ops Q (ops.toList.drop m) a w->E a w)->lS P D (λc=>Q (.panic c)) E l S a w.drew):(Code.region id ops true).wp P Q a w:=by
 subst hl M;simp only[dd,O,decide_eq_true_eq,beq_iff_eq] at C;obtain⟨⟨⟨⟨G,hm⟩,hl⟩,C⟩,I⟩:=C
 have K:fI ops (Array.replicate ops.size false):= λj o ho hl=>by
  have N:=(Array.getElem?_eq_some_iff.1 ho).1;simp[N] at hl
 have:=gX G hQ hm B S _ a w.drew C K hS (qa (E:=wpList P ops Q (ops.toList.drop m)) (λ_ _ h=>h) B S a _ I (h _ λ_ _ h=>h));rw[show B.len+(ops.size - m)=ops.size by omega] at this;exact wp_region_any T (jP _ _ _ _ this)
section
variable {dsts:List (Option Tmp)} {E:Act->World->Prop} {S:World->Prop} {Qp:List PanicEntry->Act->World->Prop}
theorem Dl {d:Nat}{r:eP}{tmps:Array Value}{defers:List Deferred}{w:World}{o:Oper}{v:Value}(hd:o.dst=some d)(j:bu o dsts tmps=true)
  (B:∀w,S w->(execOp (Act.eval ⟨tmps,defers⟩) o).run P w= .ok (.value v) w) (h:lS P dsts Qp E r S ⟨tmps.setIfInBounds d v,defers⟩ w):lS P dsts Qp E (.take o r) S ⟨tmps,defers⟩ w:=
 ⟨d,v,hd,⟨j,B⟩,h⟩
theorem Dk {d f:Nat}{args:Array Value}{r:eP}{tmps:Array Value}{defers:List Deferred}{w:World}{o:Oper}{R:Ending->World->Prop}(hd:o.dst=some d)(C:bu o dsts tmps=true)
  (he:(execOp (Act.eval ⟨tmps,defers⟩) o).run P w= .ok (.enter f args) w) (B:Calls P f args w R)
  (h:∀e w',R e w'->(∃v,e=Y v/\∃j:World->Prop,(∀w,j w->S w)/\j w'/\cg P dsts E r j ⟨tmps.setIfInBounds d v,defers⟩ w')\/(∃c,e= .panicked c/\Qp c ⟨tmps,defers⟩ w')):
  lS P dsts Qp E (.step o r) S ⟨tmps,defers⟩ w:=
 ⟨C,d,hd,f,args,he,Calls.mono B h⟩
end
end
theorem ni {P:Program}{fn:Func}{D G:Array Value}{R:Ending->World->Prop}(h:results fn D=results fn G):∀(j:List Deferred)(u:FrameMode)(w:World),Leaves P fn D R j u w->Leaves P fn G R j u w
 |[],.returning,w,hl=>by unfold Leaves at hl⊢;rw[<-h];exact hl
 |[],.panicking c,w,hl=>by unfold Leaves at hl⊢;exact hl
 |[],.run,w,hl=>by unfold Leaves at hl;exact hl.elim
 |d::j,u,w,hl=>by
  unfold Leaves at hl⊢;obtain⟨N,I,B,f,args,K,h2,M⟩:=hl;refine⟨N,I,B,f,args,K,h2,M.mono ?_⟩;intro e T w' C
  cases e with
  |returned v=>exact ni h j _ _ C
  |panicked c=>exact ni h j _ _ C
  |outgrown=>exact C
end Go.Proofs.YthhijgcfbjcgiaaGreatDoor
