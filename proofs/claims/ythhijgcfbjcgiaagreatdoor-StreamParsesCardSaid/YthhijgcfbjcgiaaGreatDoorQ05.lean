/- Plan, Tree, TreeD -/
import Derived.Test.YthhijgcfbjcgiaaGreatDoorQ01
import Derived.OrdersHeld
namespace Go.Proofs.YthhijgcfbjcgiaaGreatDoor
open Go Go.RowKit
open Bool renaming and_eq_true→O,or_eq_true→V
open List renaming mem_singleton→U,all_eq_true→Z,mem_range→X,length→J,mem_cons_of_mem→OA,mem_cons_self→OB,map_cons→OF,mem_cons→OG,map_nil→OH,range→OJ
open Go.Ending renaming returned→Y
open Nat renaming zero_add→OC,le_refl→OD,lt_or_ge→OI
open Option renaming getD_some→OE
section
variable {P:Program} {ops:Array Oper} {Q:Exit->Act->World->Prop} {S:World->Prop} {m:Nat}
def mP (B:Array Oper):Nat->Nat->Nat->Bool
 |0,_,_=>false
 |f+1,j,i=>((B[j]?).map λo=>o.after.any λe=>Region.binds .any e&&(e.on==i||mP B f e.on i)).getD false
def fN (C:Array Oper) (B:Array Bool):Prop:=
 ∀(j:Nat)(o:Oper),C[j]? =some o->B.getD j false=true->∀e∈o.after,Region.binds .any e=true->B.getD e.on false=true
theorem pS {B:Array Bool}(hc:fN ops B):∀(f j i:Nat),(∀o,ops[j]? =some o->∀e∈o.after,Region.binds .any e=true->B.getD e.on false=true)->
  mP ops f j i=true->B.getD i false=true:=by
 intro f
 induction f with
 |zero=>intro j i _ h;simp[mP] at h
 |succ f ih=>
  intro j i C h;unfold mP at h
  cases D:ops[j]? with
  |none=>simp[D] at h
  |some o=>
   simp only[D,Option.map_some,OE,Array.any_eq_true'] at h;obtain⟨e,he,N⟩:=h;simp only[O,V,beq_iff_eq] at N;obtain⟨M,rfl|hr⟩:=N
   ·exact C o D e he M
   ·exact ih e.on i (λo' K T I G=>hc e.on o' K (C o D e he M) T I G) hr
theorem cN {B:Array Bool}{i:Nat}(M:fN ops B)(N:i∈Region.ready .any ops B):fN ops (B.setIfInBounds i true):=by
 intro j o K hl e he I
 by_cases D:j=i
 ·subst D
  obtain⟨_,o',G,C⟩:=mem_ready.1 N;rw[K] at G
  cases G
  exact getD_set_true (C e he I)
 ·rw[getD_set_ne false (Ne.symm D)] at hl
  exact getD_set_true (M j o K hl e he I)
def iH (P:Program) (j:Array Oper) (Q:Exit->Act->World->Prop) (S:World->Prop) (m:Nat):Nat->Array Bool->Act->World->Prop
 |0,listed,a,w=>Region.ready .any j listed=[]/\Q .normal a w
 |fuel+1,listed,a,w=>
  (Region.ready .any j listed=[]->Q .normal a w)/\
  ∀i∈Region.ready .any j listed,wpOp P j Q i (λB w'=>(i<m->S w')/\iH P j Q S m fuel (listed.setIfInBounds i true) B w') a w
theorem jJ:∀(j:Nat)(B:Array Bool)(a:Act)(w:World),iH P ops Q S m j B a w->wpAny P .any ops Q j B a w
 |0,_,_,_,h=>h
 |j+1,_,_,_,h=>⟨h.1,λi G=>wpOp_mono (λC w' D=>jJ j _ C w' D.2) (h.2 i G)⟩
theorem mD {i:Nat}{oi:Oper}{v:Value}(hi:ops[i]? =some oi)(fW:i<m)(aB:∀(j:Nat)(o:Oper) cs b,ops[j]? =some o->o.op≠ .select cs b)
  (hQ:∀c a w,Q (.panic c) (a.put oi.dst v) w->Q (.panic c) a w) (eE:∀j,m<=j->j<ops.size->mP ops ops.size j i=true):
  ∀(C:Nat)(B:Array Bool)(a:Act)(w:World),fN ops B->
   (∀j oj,ops[j]? =some oj->j≠i->B.getD j true=false->(∀e∈oj.after,Region.binds .any e=true->e.on≠i)->oi.apart ops oj=true)->
   i∈Region.ready .any ops B->YieldsIf P ops S oi v a->S w->
   iH P ops Q S m C (B.setIfInBounds i true) (a.put oi.dst v) w->iH P ops Q S m (C+1) B a w:=by
 intro C
 induction C with
 |zero=>
  intro B a w _ _ hr hy hS H;refine⟨λh=>(by rw[h] at hr;cases hr),λj hj=>?_⟩
  by_cases D:j=i
  ·subst D;exact hy.wpOp hi hS ⟨λ_=>hS,H⟩
  ·have:=ready_mono hj D
   rw[H.1] at this
   cases this
 |succ C ih=>
  intro B a w aC G hr hy hS H;refine⟨λh=>(by rw[h] at hr;cases hr),λj hj=>?_⟩
  by_cases D:j=i
  ·subst D;exact hy.wpOp hi hS ⟨λ_=>hS,H⟩
  ·have h1:=H.2 j (ready_mono hj D)
   obtain⟨T,oj,I,N⟩:=mem_ready.1 hj
   have K:¬B.getD i false=true:= λh1=>by
    have h0:=(mem_ready.1 hr).1;rcases OI i B.size with h'|h'
    ·simp[h'] at h0 h1;rw[h0] at h1;cases h1
    ·simp[Array.getElem?_eq_none h'] at h1
   have cz:∀e∈oj.after,Region.binds .any e=true->e.on≠i:= λe he hb dt=>K (dt▸N e he hb)
   have dD:j<m:=by
    rcases OI j m with h'|h'
    ·exact h'
    ·refine absurd (pS aC ops.size j i (λo ho e he hb=>?_) (eE j h' (Array.getElem?_eq_some_iff.1 I).1)) K
     rw[I] at ho;cases ho;exact N e he hb
   have h2:=wpOp_putIf I (G j oj I D T cz) (λcs b=>aB i oi cs b hi) (λcs b=>aB j oj cs b I) hQ hy h1
   have M:∀k ok,ops[k]? =some ok->k≠i->(B.setIfInBounds j true).getD k true=false->
     (∀e∈ok.after,Region.binds .any e=true->e.on≠i)->oi.apart ops ok=true:= λk ok hk dE K dY=>by
    refine G k ok hk dE ?_ dY
    by_cases bE:j=k
    ·subst bE;exact T
    ·rw[getD_set_ne true bE] at K;exact K
   refine wpOp_mono (λa' w' h3=>⟨h3.2.1,ih (B.setIfInBounds j true) a' w' (cN aC hj) M (ready_mono hr (Ne.symm D)) h3.1 (h3.2.1 dD) ?_⟩) h2;rw[Array.setIfInBounds_comm _ _ D];exact h3.2.2
def nP (P:Program) (j:Array Oper) (Q:Exit->Act->World->Prop) (S:World->Prop) (m:Nat):List (Nat×Bool)->Act->World->Prop
 |[],a,w=>wpList P j Q (j.toList.drop m) a w
 |(i,true)::r,a,w=>∃o v,j[i]? =some o/\YieldsIf P j S o v a/\nP P j Q S m r (a.put o.dst v) w
 |(i,false)::r,a,w=>wpOp P j Q i (λB w'=>S w'/\nP P j Q S m r B w') a w
def jx (j:Array Oper):Nat->Nat->Array Bool->Bool
 |0,_,listed=>Region.ready .any j listed==[]
 |c+1,k,listed=>Region.ready .any j listed==[k]&&jx j c (k+1) (listed.setIfInBounds k true)
def nG (B:Array Oper) (m:Nat):Array Bool->List (Nat×Bool)->Bool
 |listed,[]=>jx B (B.size - m) m listed
 |listed,(i,true)::r=>decide (i<m)&&Region.free .any B listed i&&(Region.ready .any B listed).contains i&&(OJ B.size).all (λj=>decide (j<m)||mP B B.size j i)&&nG B m (listed.setIfInBounds i true) r
 |listed,(i,false)::r=>decide (i<m)&&(Region.ready .any B listed==[i])&&nG B m (listed.setIfInBounds i true) r
theorem iJ:∀(c k:Nat)(j:Array Bool)(a:Act)(w:World),jx ops c k j=true->k+c=ops.size->m<=k->
  wpList P ops Q (ops.toList.drop k) a w->iH P ops Q S m c j a w
 |0,k,j,a,w,C,hk,_,h=>by
  have hd:ops.toList.drop k=[]:=List.drop_eq_nil_of_le (by simp;omega);rw[hd] at h;exact⟨by simpa [jx] using C,h⟩
 |c+1,k,j,a,w,C,hk,hm,h=>by
  simp only[jx,O,beq_iff_eq] at C;obtain⟨N,C⟩:=C;refine⟨λK=>(by rw[N] at K;cases K),λi M=>?_⟩;rw[N,U] at M;subst M;have G:i<(J ops.toList):=(by simp;omega);rw[List.drop_eq_getElem_cons G] at h;have ho:ops[i]? =some ops.toList[i]:=(by simp);unfold wpOp;rw[ho];simp only[wpList] at h
  have B:∀D w',wpList P ops Q (ops.toList.drop (i+1)) D w'->((i<m->S w')/\iH P ops Q S m c (j.setIfInBounds i true) D w'):=
   λD w' T=>⟨λh=>absurd h (by omega),iJ c (i+1) _ D w' C (by omega) (by omega) T⟩
  split at h
  ·rename_i I
   simp only[I,if_true];exact h.imp (Oper.wp_mono B) id
  ·rename_i I
   simp only[I];exact B _ _ h
theorem lX (D:Region.noSelect ops=true)(T:∀c a d v w,Q (.panic c) (Act.put a d v) w->Q (.panic c) a w) (hm:m<=ops.size):
  ∀(G:List (Nat×Bool))(B:Array Bool)(a:Act)(w:World),nG ops m B G=true->fN ops B->S w->
   nP P ops Q S m G a w->iH P ops Q S m (J G+(ops.size - m)) B a w
 |[],B,a,w,C,_,_,h=>by
  rw[List.length_nil,OC];exact iJ (ops.size - m) m B a w C (by omega) (OD _) h
 |(i,true)::r,B,a,w,C,hcl,hS,h=>by
  simp only[nG,O,decide_eq_true_eq] at C;obtain⟨⟨⟨⟨aB,hf⟩,M⟩,cz⟩,C⟩:=C;obtain⟨o,v,ho,hy,h⟩:=h;have I:i∈Region.ready .any ops B:=(by simpa using M);rw[show ((i,true)::r).length+(ops.size - m)=(J r+(ops.size - m))+1 by simp;omega];refine mD ho aB (Region.noSelect_spec D) (λc a w=>T c a _ _ w) (λj K bE=>?_) _ B a w hcl (Region.free_spec ho hf) I hy hS (lX D T hm r _ _ _ C (cN hcl I) hS h);have:=Z.1 cz j (X.2 bE);simp only[V,decide_eq_true_eq] at this;exact this.resolve_left (by omega)
 |(i,false)::r,B,a,w,C,hcl,hS,h=>by
  simp only[nG,O,decide_eq_true_eq,beq_iff_eq] at C;obtain⟨⟨_,M⟩,C⟩:=C;rw[show ((i,false)::r).length+(ops.size - m)=(J r+(ops.size - m))+1 by simp;omega];refine⟨λh0=>(by rw[M] at h0;cases h0),λj K=>?_⟩;have aC:=K;rw[M,U] at K;subst K;exact wpOp_mono (λa' w' N=>⟨λ_=>N.1,lX D T hm r _ _ _ C (cN hcl aC) N.1 N.2⟩) h
def oD (j:Array Oper) (m:Nat) (B:List (Nat×Bool)):Bool:=
 Region.noSelect j&&decide (m<=j.size)&&((J B)==m)&&nG j m (Array.replicate j.size false) B
theorem uq (S:World->Prop)(m:Nat)(B:List (Nat×Bool)){id:Nat}{a:Act}{w:World}(K:P.follows .mixedOrders=true)(C:oD ops m B=true)
  (M:∀c a d v w,Q (.panic c) (Act.put a d v) w->Q (.panic c) a w) (N:S w.drew) (h:nP P ops Q S m B a w.drew):(Code.region id ops true).wp P Q a w:=by
 simp only[oD,O,decide_eq_true_eq,beq_iff_eq] at C;obtain⟨⟨⟨D,T⟩,hl⟩,C⟩:=C
 have G:fN ops (Array.replicate ops.size false):= λj o ho hl=>by
  have I:=(Array.getElem?_eq_some_iff.1 ho).1;simp[I] at hl
 have:=lX D M T B _ a w.drew C G N h;rw[show (J B)+(ops.size - m)=ops.size by omega] at this;exact wp_region_any K (jJ _ _ _ _ this)
def rW (B:List (Option Tmp)) (tmps:Array Value) (j:Nat):Option Bool:=
 match ((B[j]?).bind id).bind (tmps[·]?) with
 |some (.bool b)=>some b
 |_=>none
def bA (o:Oper) (B:List (Option Tmp)) (tmps:Array Value):Bool:=
 match o.guard with
 |none=>true
 |some (j,want)=>rW B tmps j==some want
theorem eD (o:Oper)(tmps:Array Value):Region.wanted o (yielded ops tmps)=bA o (ops.toList.map (·.dst)) tmps:=by
 unfold Region.wanted bA
 cases o.guard with
 |none=>rfl
 |some g=>
  obtain⟨j,B⟩:=g
  have:yielded ops tmps j=rW (ops.toList.map (·.dst)) tmps j:=by
   unfold yielded rW;simp only[List.getElem?_map,Array.getElem?_toList]
   cases ops[j]? <;>rfl
  simp only[this]
def eu (P:Program) (j:List (Option Tmp)) (S:World->Prop) (E:Act->World->Prop):List (Oper×Bool)->Act->World->Prop
 |[],a,w=>E a w
 |(o,true)::r,a,w=>∃d v,o.dst=some d/\((bA o j a.tmps=true/\∀w,S w->(execOp a.eval o).run P w= .ok (.value v) w)\/(bA o j a.tmps=false/\v=undef))/\eu P j S E r ⟨a.tmps.setIfInBounds d v,a.defers⟩ w
 |(o,false)::r,a,w=>∃d,o.dst=some d/\((bA o j a.tmps=false/\S w/\eu P j S E r ⟨a.tmps.setIfInBounds d undef,a.defers⟩ w)\/
   (bA o j a.tmps=true/\((∃v w',(execOp a.eval o).run P w= .ok (.value v) w'/\S w'/\eu P j S E r ⟨a.tmps.setIfInBounds d v,a.defers⟩ w')\/
    (∃f args,(execOp a.eval o).run P w= .ok (.enter f args) w/\Calls P f args w λe w'=>∃v,e=Y v/\S w'/\eu P j S E r ⟨a.tmps.setIfInBounds d v,a.defers⟩ w'))))
theorem kY {E:Act->World->Prop}(D:∀a w,E a w->wpList P ops Q (ops.toList.drop m) a w):∀(j:List (Nat×Bool))(a:Act)(w:World),(∀p∈j,p.1<ops.size)->
  eu P (ops.toList.map (·.dst)) S E (j.map λp=>(ops.getD p.1 default,p.2)) a w->nP P ops Q S m j a w
 |[],a,w,_,h=>D _ _ h
 |(i,true)::r,a,w,hlt,h=>by
  obtain⟨d,v,hd,N,h⟩:=h;have G:i<ops.size:=hlt _ (OB);have I:ops[i]? =some (ops.getD i default):=(by simp[Array.getD,G]);refine⟨_,v,I,?_,?_⟩
  ·rw[<-eD] at N;exact N
  ·simp only[Act.put,hd]
   exact kY D r _ _ (λp K=>hlt p (OA _ K)) h
 |(i,false)::r,a,w,hlt,h=>by
  obtain⟨d,hd,h⟩:=h;have G:i<ops.size:=hlt _ (OB);have I:ops[i]? =some (ops.getD i default):=(by simp[Array.getD,G]);have M:∀a w,_->nP P ops Q S m r a w:= λa w=>kY D r a w (λp K=>hlt p (OA _ K));show wpOp P ops Q i _ _ w;unfold wpOp;simp only[I];rcases h with⟨C,B,h⟩|⟨C,h⟩
  ·rw[<-eD] at C
   simp only[C];exact⟨B,by simp only[Act.put,hd];exact M _ _ h⟩
  ·rw[<-eD] at C
   simp only[C,if_true];refine .inl ?_;unfold Oper.wp;rcases h with⟨v,w',he,B,h⟩|⟨f,args,he,T⟩
   ·rw[he,Oper.upon_value]
    exact⟨B,by simp only[Act.put,hd];exact M _ _ h⟩
   ·rw[he,Oper.upon_enter]
    refine Calls.mono T λe w' hr=>?_;obtain⟨v,rfl,B,h⟩:=hr;exact⟨B,by simp only[Act.put,hd];exact M _ _ h⟩
theorem tA (S:World->Prop)(m:Nat)(j:List (Nat×Bool)){id:Nat}{a:Act}{w:World}{l:List (Oper×Bool)}{B:List (Option Tmp)}(G:P.follows .mixedOrders=true)(I:oD ops m j=true)
  (K:∀c a d v w,Q (.panic c) (Act.put a d v) w->Q (.panic c) a w) (D:(j.all λp=>decide (p.1<ops.size))=true) (hl:(j.map λp=>(ops.getD p.1 default,p.2))=l) (C:ops.toList.map (·.dst)=B)
  (M:S w.drew) (h:∀E:Act->World->Prop,(∀a w,wpList P ops Q (ops.toList.drop m) a w->E a w)->eu P B S E l a w.drew):(Code.region id ops true).wp P Q a w:=by
 subst hl C;exact uq S m j G I K M (kY (E:=wpList P ops Q (ops.toList.drop m)) (λ_ _ h=>h) j a _ (λp N=>by simpa using Z.1 D p N) (h _ λ_ _ h=>h))
section
variable {dsts:List (Option Tmp)} {E:Act->World->Prop}
theorem fe {d:Nat}{r:List (Oper×Bool)}{tmps:Array Value}{defers:List Deferred}{w:World}{o:Oper}{v:Value}(hd:o.dst=some d)(j:bA o dsts tmps=true)
  (B:∀w,S w->(execOp (Act.eval ⟨tmps,defers⟩) o).run P w= .ok (.value v) w) (h:eu P dsts S E r ⟨tmps.setIfInBounds d v,defers⟩ w):eu P dsts S E ((o,true)::r) ⟨tmps,defers⟩ w:=
 ⟨d,v,hd,.inl ⟨j,B⟩,h⟩
theorem vo {d:Nat}{r:List (Oper×Bool)}{tmps:Array Value}{defers:List Deferred}{w:World}{o:Oper}(hd:o.dst=some d)(j:bA o dsts tmps=false)
  (h:eu P dsts S E r ⟨tmps.setIfInBounds d undef,defers⟩ w):eu P dsts S E ((o,true)::r) ⟨tmps,defers⟩ w:=
 ⟨d,undef,hd,.inr ⟨j,rfl⟩,h⟩
theorem EM {d f:Nat}{args:Array Value}{r:List (Oper×Bool)}{tmps:Array Value}{defers:List Deferred}{w:World}{o:Oper}{R:Ending->World->Prop}(hd:o.dst=some d)(B:bA o dsts tmps=true)
  (he:(execOp (Act.eval ⟨tmps,defers⟩) o).run P w= .ok (.enter f args) w) (j:Calls P f args w R)
  (h:∀e w',R e w'->∃v,e=Y v/\S w'/\eu P dsts S E r ⟨tmps.setIfInBounds d v,defers⟩ w'):eu P dsts S E ((o,false)::r) ⟨tmps,defers⟩ w:=
 ⟨d,hd,.inr ⟨B,.inr ⟨f,args,he,Calls.mono j h⟩⟩⟩
theorem lE {d:Nat}{r:List (Oper×Bool)}{tmps:Array Value}{defers:List Deferred}{w w':World}{o:Oper}{v:Value}(hd:o.dst=some d)(B:bA o dsts tmps=true)
  (he:(execOp (Act.eval ⟨tmps,defers⟩) o).run P w= .ok (.value v) w') (j:S w') (h:eu P dsts S E r ⟨tmps.setIfInBounds d v,defers⟩ w'):eu P dsts S E ((o,false)::r) ⟨tmps,defers⟩ w:=
 ⟨d,hd,.inr ⟨B,.inl ⟨v,w',he,j,h⟩⟩⟩
end
end
theorem iV {P:Program}{j:Array Oper}{Q:Exit->Act->World->Prop}(S:World->Prop)(m:Nat)(B:List (Nat×Bool)){id:Nat}{a:Act}{w:World}{l:List (Oper×Bool)}{C:List (Option Tmp)}
  (N:S w.drew) (h:∀E:Act->World->Prop,(∀a w,wpList P j Q (j.toList.drop m) a w->E a w)->eu P C S E l a w.drew)
  (I:P.follows .mixedOrders=true:=by kernel_rfl) (K:oD j m B=true:=by kernel_rfl) (M:∀c a d v w,Q (.panic c) (Act.put a d v) w->Q (.panic c) a w:=by intro _ _ d _ _ h;cases d<;>exact h) (G:(B.all λp=>decide (p.1<j.size))=true:=by decide)
  (hl:(B.map λp=>(j.getD p.1 default,p.2))=l:=by simp only[OF,OH,Array.getD_eq_getD_getElem?,List.getElem?_toArray,List.getElem?_cons_zero,List.getElem?_cons_succ,OE];rfl) (D:j.toList.map (·.dst)=C:=by simp only[OF,OH];rfl):(Code.region id j true).wp P Q a w:=
 tA S m B I K M G hl D N h
inductive cb where
 |done
 |take (i:Nat) (r:cb)
 |step (i:Nat) (r:cb)
 |fork (i:Nat) (r:cb) (j:Nat) (q:cb)
def cb.len:cb->Nat
 | .done=>0
 | .take _ r=>r.len+1
 | .step _ r=>r.len+1
 | .fork _ r _ _=>r.len+1
section
variable {P:Program} {ops:Array Oper} {Q:Exit->Act->World->Prop} {m:Nat}
theorem iq {S C:World->Prop}(G:∀w,C w->S w):∀(j:Nat)(B:Array Bool)(a:Act)(w:World),iH P ops Q C m j B a w->iH P ops Q S m j B a w
 |0,_,_,_,h=>h
 |j+1,_,_,_,h=>⟨h.1,λi K=>wpOp_mono (λI w' D=>⟨λM=>G _ (D.1 M),iq G j _ I w' D.2⟩) (h.2 i K)⟩
def jK (P:Program) (B:Array Oper) (Q:Exit->Act->World->Prop) (m:Nat):cb->(World->Prop)->Act->World->Prop
 | .done,_,a,w=>wpList P B Q (B.toList.drop m) a w
 | .take i r,S,a,w=>∃o v,B[i]? =some o/\YieldsIf P B S o v a/\jK P B Q m r S (a.put o.dst v) w
 | .step i r,S,a,w=>wpOp P B Q i (λD w'=>∃C:World->Prop,(∀w,C w->S w)/\C w'/\jK P B Q m r C D w') a w
 | .fork i r j q,S,a,w=>wpOp P B Q i (λD w'=>∃C:World->Prop,(∀w,C w->S w)/\C w'/\jK P B Q m r C D w') a w/\
   wpOp P B Q j (λD w'=>∃C:World->Prop,(∀w,C w->S w)/\C w'/\jK P B Q m q C D w') a w
def eP (B:Array Oper) (m:Nat):cb->Array Bool->Bool
 | .done,listed=>jx B (B.size - m) m listed
 | .take i r,listed=>decide (i<m)&&Region.free .any B listed i&&(Region.ready .any B listed).contains i&&(OJ B.size).all (λj=>decide (j<m)||mP B B.size j i)&&eP B m r (listed.setIfInBounds i true)
 | .step i r,listed=>decide (i<m)&&(Region.ready .any B listed==[i])&&eP B m r (listed.setIfInBounds i true)
 | .fork i r j q,listed=>decide (i<m)&&decide (j<m)&&(r.len==q.len)&&(Region.ready .any B listed==[i,j])&&eP B m r (listed.setIfInBounds i true)&&eP B m q (listed.setIfInBounds j true)
theorem gB (D:Region.noSelect ops=true)(hQ:∀c a d v w,Q (.panic c) (Act.put a d v) w->Q (.panic c) a w) (hm:m<=ops.size):
  ∀(I:cb)(S:World->Prop)(B:Array Bool)(a:Act)(w:World),eP ops m I B=true->fN ops B->S w->
   jK P ops Q m I S a w->iH P ops Q S m (I.len+(ops.size - m)) B a w
 | .done,S,B,a,w,C,_,_,h=>by
  rw[cb.len,OC];exact iJ (ops.size - m) m B a w C (by omega) (OD _) h
 | .take i r,S,B,a,w,C,hcl,hS,h=>by
  simp only[eP,O,decide_eq_true_eq] at C;obtain⟨⟨⟨⟨dt,hf⟩,N⟩,dE⟩,C⟩:=C;obtain⟨o,v,ho,hy,h⟩:=h;have cz:i∈Region.ready .any ops B:=(by simpa using N);rw[show (cb.take i r).len+(ops.size - m)=(r.len+(ops.size - m))+1 by simp[cb.len];omega];refine mD ho dt (Region.noSelect_spec D) (λc a w=>hQ c a _ _ w) (λj G dD=>?_) _ B a w hcl (Region.free_spec ho hf) cz hy hS (gB D hQ hm r S _ _ _ C (cN hcl cz) hS h);have:=Z.1 dE j (X.2 dD);simp only[V,decide_eq_true_eq] at this;exact this.resolve_left (by omega)
 | .step i r,S,B,a,w,C,hcl,hS,h=>by
  simp only[eP,O,decide_eq_true_eq,beq_iff_eq] at C;obtain⟨⟨_,N⟩,C⟩:=C;rw[show (cb.step i r).len+(ops.size - m)=(r.len+(ops.size - m))+1 by simp[cb.len];omega];refine⟨λh0=>(by rw[N] at h0;cases h0),λj G=>?_⟩;have K:=G;rw[N,U] at G;subst G;exact wpOp_mono (λa' w' ⟨T,M,h2,h3⟩=>⟨λ_=>M _ h2,iq M _ _ _ _ (gB D hQ hm r T _ _ _ C (cN hcl K) h2 h3)⟩) h
 | .fork i r k q,S,B,a,w,C,hcl,hS,h=>by
  simp only[eP,O,decide_eq_true_eq,beq_iff_eq] at C;obtain⟨⟨⟨⟨⟨_,_⟩,aB⟩,N⟩,aC⟩,bE⟩:=C;rw[show (cb.fork i r k q).len+(ops.size - m)=(r.len+(ops.size - m))+1 by simp[cb.len];omega];refine⟨λh0=>(by rw[N] at h0;cases h0),λj G=>?_⟩;have K:=G;rw[N] at G;rcases OG.1 G with rfl|G
  ·exact wpOp_mono (λa' w' ⟨T,M,h2,h3⟩=>⟨λ_=>M _ h2,iq M _ _ _ _ (gB D hQ hm r T _ _ _ aC (cN hcl K) h2 h3)⟩) h.1
  ·rw[U] at G
   subst G;rw[aB];exact wpOp_mono (λa' w' ⟨T,M,h2,h3⟩=>⟨λ_=>M _ h2,iq M _ _ _ _ (gB D hQ hm q T _ _ _ bE (cN hcl K) h2 h3)⟩) h.2
inductive eT where
 |done
 |take (o:Oper) (r:eT)
 |step (o:Oper) (r:eT)
 |fork (o:Oper) (r:eT) (p:Oper) (q:eT)
def cb.out (B:Array Oper):cb->eT
 | .done=> .done
 | .take i r=> .take (B.getD i default) (r.out B)
 | .step i r=> .step (B.getD i default) (r.out B)
 | .fork i r j q=> .fork (B.getD i default) (r.out B) (B.getD j default) (q.out B)
def cb.inside (n:Nat):cb->Bool
 | .done=>true
 | .take i r=>decide (i<n)&&r.inside n
 | .step i r=>decide (i<n)&&r.inside n
 | .fork i r j q=>decide (i<n)&&r.inside n&&decide (j<n)&&q.inside n
def kj (P:Program) (j:List (Option Tmp)) (o:Oper) (E:Act->World->Prop) (a:Act) (w:World):Prop:=
 bA o j a.tmps=true/\((∃d,o.dst=some d/\((∃v w',(execOp a.eval o).run P w= .ok (.value v) w'/\E ⟨a.tmps.setIfInBounds d v,a.defers⟩ w')\/
  (∃f args,(execOp a.eval o).run P w= .ok (.enter f args) w/\Calls P f args w λe w'=>∃v,e=Y v/\E ⟨a.tmps.setIfInBounds d v,a.defers⟩ w')))\/
  (o.dst=none/\∃w',(execOp a.eval o).run P w= .ok .skip w'/\E a w'))
def ct (P:Program) (j:List (Option Tmp)) (E:Act->World->Prop):eT->(World->Prop)->Act->World->Prop
 | .done,_,a,w=>E a w
 | .take o r,S,a,w=>∃d v,o.dst=some d/\(bA o j a.tmps=true/\∀w,S w->(execOp a.eval o).run P w= .ok (.value v) w)/\ct P j E r S ⟨a.tmps.setIfInBounds d v,a.defers⟩ w
 | .step o r,S,a,w=>kj P j o (λC w'=>∃B:World->Prop,(∀w,B w->S w)/\B w'/\ct P j E r B C w') a w
 | .fork o r p q,S,a,w=>kj P j o (λC w'=>∃B:World->Prop,(∀w,B w->S w)/\B w'/\ct P j E r B C w') a w/\kj P j p (λC w'=>∃B:World->Prop,(∀w,B w->S w)/\B w'/\ct P j E q B C w') a w
theorem rT {i:Nat}(D:i<ops.size){E F:Act->World->Prop}(j:∀a w,E a w->F a w) {a:Act} {w:World} (h:kj P (ops.toList.map (·.dst)) (ops.getD i default) E a w):wpOp P ops Q i F a w:=by
 obtain⟨B,h⟩:=h;have G:ops[i]? =some (ops.getD i default):=by simp[Array.getD,D]
 unfold wpOp;simp only[G];rw[<-eD] at B;simp only[B,if_true];refine .inl ?_;unfold Oper.wp;rcases h with⟨d,hd,⟨v,w',he,h⟩|⟨f,args,he,C⟩⟩|⟨hd,w',he,h⟩
 ·rw[he,Oper.upon_value]
  simp only[Act.put,hd];exact j _ _ h
 ·rw[he,Oper.upon_enter]
  refine Calls.mono C λe w' I=>?_;obtain⟨v,rfl,h⟩:=I;simp only[Act.put,hd];exact j _ _ h
 ·rw[he,Oper.upon_skip]
  simp only[Act.put,hd];exact j _ _ h
theorem f7 {E:Act->World->Prop}(I:∀a w,E a w->wpList P ops Q (ops.toList.drop m) a w):∀(B:cb)(S:World->Prop)(a:Act)(w:World),B.inside ops.size=true->
  ct P (ops.toList.map (·.dst)) E (B.out ops) S a w->jK P ops Q m B S a w
 | .done,S,a,w,_,h=>I _ _ h
 | .take i r,S,a,w,hb,h=>by
  simp only[cb.inside,O,decide_eq_true_eq] at hb;obtain⟨d,v,hd,K,h⟩:=h;have M:ops[i]? =some (ops.getD i default):=(by simp[Array.getD,hb.1]);refine⟨_,v,M,?_,?_⟩
  ·rw[<-eD] at K;exact .inl K
  ·simp only[Act.put,hd]
   exact f7 I r S _ _ hb.2 h
 | .step i r,S,a,w,hb,h=>by
  simp only[cb.inside,O,decide_eq_true_eq] at hb;exact rT hb.1 (λa w ⟨C,D,h2,G⟩=>⟨C,D,h2,f7 I r C _ _ hb.2 G⟩) h
 | .fork i r j q,S,a,w,hb,h=>by
  simp only[cb.inside,O,decide_eq_true_eq] at hb;exact⟨rT hb.1.1.1 (λa w ⟨C,D,h2,G⟩=>⟨C,D,h2,f7 I r C _ _ hb.1.1.2 G⟩) h.1,rT hb.1.2 (λa w ⟨C,D,h2,G⟩=>⟨C,D,h2,f7 I q C _ _ hb.2 G⟩) h.2⟩
def dg (j:Array Oper) (m:Nat) (B:cb):Bool:=
 Region.noSelect j&&decide (m<=j.size)&&(B.len==m)&&eP j m B (Array.replicate j.size false)&&B.inside j.size
theorem ur (S:World->Prop)(m:Nat)(B:cb){id:Nat}{a:Act}{w:World}{l:eT}{D:List (Option Tmp)}(T:P.follows .mixedOrders=true)(C:dg ops m B=true)
  (hQ:∀c a d v w,Q (.panic c) (Act.put a d v) w->Q (.panic c) a w) (hl:B.out ops=l) (M:ops.toList.map (·.dst)=D)
  (hS:S w.drew) (h:∀E:Act->World->Prop,(∀a w,wpList P ops Q (ops.toList.drop m) a w->E a w)->ct P D E l S a w.drew):(Code.region id ops true).wp P Q a w:=by
 subst hl M;simp only[dg,O,decide_eq_true_eq,beq_iff_eq] at C;obtain⟨⟨⟨⟨G,hm⟩,hl⟩,C⟩,I⟩:=C
 have K:fN ops (Array.replicate ops.size false):= λj o ho hl=>by
  have N:=(Array.getElem?_eq_some_iff.1 ho).1;simp[N] at hl
 have:=gB G hQ hm B S _ a w.drew C K hS (f7 (E:=wpList P ops Q (ops.toList.drop m)) (λ_ _ h=>h) B S a _ I (h _ λ_ _ h=>h));rw[show B.len+(ops.size - m)=ops.size by omega] at this;exact wp_region_any T (jJ _ _ _ _ this)
section
variable {dsts:List (Option Tmp)} {E:Act->World->Prop} {S:World->Prop}
theorem aj {d:Nat}{r:eT}{tmps:Array Value}{defers:List Deferred}{w:World}{o:Oper}{v:Value}(hd:o.dst=some d)(j:bA o dsts tmps=true)
  (B:∀w,S w->(execOp (Act.eval ⟨tmps,defers⟩) o).run P w= .ok (.value v) w) (h:ct P dsts E r S ⟨tmps.setIfInBounds d v,defers⟩ w):ct P dsts E (.take o r) S ⟨tmps,defers⟩ w:=
 ⟨d,v,hd,⟨j,B⟩,h⟩
theorem aX {d f:Nat}{args:Array Value}{r:eT}{tmps:Array Value}{defers:List Deferred}{w:World}{o:Oper}{R:Ending->World->Prop}(hd:o.dst=some d)(D:bA o dsts tmps=true)
  (he:(execOp (Act.eval ⟨tmps,defers⟩) o).run P w= .ok (.enter f args) w) (C:Calls P f args w R)
  (h:∀e w',R e w'->∃v,e=Y v/\∃j:World->Prop,(∀w,j w->S w)/\j w'/\ct P dsts E r j ⟨tmps.setIfInBounds d v,defers⟩ w'):
  kj P dsts o (λB w'=>∃j:World->Prop,(∀w,j w->S w)/\j w'/\ct P dsts E r j B w') ⟨tmps,defers⟩ w:=
 ⟨D,.inl ⟨d,hd,.inr ⟨f,args,he,Calls.mono C h⟩⟩⟩
theorem az {d:Nat}{r:eT}{tmps:Array Value}{defers:List Deferred}{w w':World}{o:Oper}{v:Value}(hd:o.dst=some d)(D:bA o dsts tmps=true)
  (he:(execOp (Act.eval ⟨tmps,defers⟩) o).run P w= .ok (.value v) w') (C:S w') (h:ct P dsts E r S ⟨tmps.setIfInBounds d v,defers⟩ w'):
  kj P dsts o (λB w'=>∃j:World->Prop,(∀w,j w->S w)/\j w'/\ct P dsts E r j B w') ⟨tmps,defers⟩ w:=
 ⟨D,.inl ⟨d,hd,.inl ⟨v,w',he,S,λ_ h=>h,C,h⟩⟩⟩
theorem bG (S:World->Prop){r:eT}{tmps:Array Value}{defers:List Deferred}{w w':World}{o:Oper}(hd:o.dst=none)(D:bA o dsts tmps=true)
  (he:(execOp (Act.eval ⟨tmps,defers⟩) o).run P w= .ok .skip w') (C:S w') (h:ct P dsts E r S ⟨tmps,defers⟩ w'):
  kj P dsts o (λB w'=>∃j:World->Prop,(∀w,j w->S w)/\j w'/\ct P dsts E r j B w') ⟨tmps,defers⟩ w:=
 ⟨D,.inr ⟨hd,w',he,S,λ_ h=>h,C,h⟩⟩
end
end
section
variable {P:Program} {ops:Array Oper} {Q:Exit->Act->World->Prop} {m:Nat}
theorem hH (D:Region.noSelect ops=true)(hQ:∀c a o v w,o∈ops.toList->Q (.panic c) (Act.put a o.dst v) w->Q (.panic c) a w) (hm:m<=ops.size):
  ∀(I:cb)(S:World->Prop)(B:Array Bool)(a:Act)(w:World),eP ops m I B=true->fN ops B->S w->
   jK P ops Q m I S a w->iH P ops Q S m (I.len+(ops.size - m)) B a w
 | .done,S,B,a,w,C,_,_,h=>by
  rw[cb.len,OC];exact iJ (ops.size - m) m B a w C (by omega) (OD _) h
 | .take i r,S,B,a,w,C,hcl,hS,h=>by
  simp only[eP,O,decide_eq_true_eq] at C;obtain⟨⟨⟨⟨dD,hf⟩,N⟩,dY⟩,C⟩:=C;obtain⟨o,v,ho,hy,h⟩:=h;have dt:i∈Region.ready .any ops B:=(by simpa using N);have aC:o∈ops.toList:=(by obtain⟨K,h2⟩:=Array.getElem?_eq_some_iff.1 ho;rw[<-h2];simp);rw[show (cb.take i r).len+(ops.size - m)=(r.len+(ops.size - m))+1 by simp[cb.len];omega];refine mD ho dD (Region.noSelect_spec D) (λc a w=>hQ c a _ _ w aC) (λj G dE=>?_) _ B a w hcl (Region.free_spec ho hf) dt hy hS (hH D hQ hm r S _ _ _ C (cN hcl dt) hS h);have:=Z.1 dY j (X.2 dE);simp only[V,decide_eq_true_eq] at this;exact this.resolve_left (by omega)
 | .step i r,S,B,a,w,C,hcl,hS,h=>by
  simp only[eP,O,decide_eq_true_eq,beq_iff_eq] at C;obtain⟨⟨_,N⟩,C⟩:=C;rw[show (cb.step i r).len+(ops.size - m)=(r.len+(ops.size - m))+1 by simp[cb.len];omega];refine⟨λh0=>(by rw[N] at h0;cases h0),λj G=>?_⟩;have M:=G;rw[N,U] at G;subst G;exact wpOp_mono (λa' w' ⟨T,K,h2,h3⟩=>⟨λ_=>K _ h2,iq K _ _ _ _ (hH D hQ hm r T _ _ _ C (cN hcl M) h2 h3)⟩) h
 | .fork i r k q,S,B,a,w,C,hcl,hS,h=>by
  simp only[eP,O,decide_eq_true_eq,beq_iff_eq] at C;obtain⟨⟨⟨⟨⟨_,_⟩,aB⟩,N⟩,bE⟩,cz⟩:=C;rw[show (cb.fork i r k q).len+(ops.size - m)=(r.len+(ops.size - m))+1 by simp[cb.len];omega];refine⟨λh0=>(by rw[N] at h0;cases h0),λj G=>?_⟩;have M:=G;rw[N] at G;rcases OG.1 G with rfl|G
  ·exact wpOp_mono (λa' w' ⟨T,K,h2,h3⟩=>⟨λ_=>K _ h2,iq K _ _ _ _ (hH D hQ hm r T _ _ _ bE (cN hcl M) h2 h3)⟩) h.1
  ·rw[U] at G
   subst G;rw[aB];exact wpOp_mono (λa' w' ⟨T,K,h2,h3⟩=>⟨λ_=>K _ h2,iq K _ _ _ _ (hH D hQ hm q T _ _ _ cz (cN hcl M) h2 h3)⟩) h.2
def lS (P:Program) (j:List (Option Tmp)) (C:List PanicEntry->Act->World->Prop) (E:Act->World->Prop):eT->(World->Prop)->Act->World->Prop
 | .done,_,a,w=>E a w
 | .take o r,S,a,w=>∃d v,o.dst=some d/\(bA o j a.tmps=true/\∀w,S w->(execOp a.eval o).run P w= .ok (.value v) w)/\lS P j C E r S ⟨a.tmps.setIfInBounds d v,a.defers⟩ w
 | .step o r,S,a,w=>bA o j a.tmps=true/\∃d,o.dst=some d/\∃f args,(execOp a.eval o).run P w= .ok (.enter f args) w/\Calls P f args w λe w'=>
   (∃v,e=Y v/\∃B:World->Prop,(∀w,B w->S w)/\B w'/\ct P j E r B ⟨a.tmps.setIfInBounds d v,a.defers⟩ w')\/(∃c,e= .panicked c/\C c a w')
 | .fork _ _ _ _,_,_,_=>False
theorem qj {E:Act->World->Prop}(B:∀a w,E a w->wpList P ops Q (ops.toList.drop m) a w):∀(j:cb)(S:World->Prop)(a:Act)(w:World),j.inside ops.size=true->
  lS P (ops.toList.map (·.dst)) (λc=>Q (.panic c)) E (j.out ops) S a w->jK P ops Q m j S a w
 | .done,S,a,w,_,h=>B _ _ h
 | .take i r,S,a,w,hb,h=>by
  simp only[cb.inside,O,decide_eq_true_eq] at hb;obtain⟨d,v,hd,I,h⟩:=h;have C:ops[i]? =some (ops.getD i default):=(by simp[Array.getD,hb.1]);refine⟨_,v,C,?_,?_⟩
  ·rw[<-eD] at I;exact .inl I
  ·simp only[Act.put,hd]
   exact qj B r S _ _ hb.2 h
 | .step i r,S,a,w,hb,h=>by
  simp only[cb.inside,O,decide_eq_true_eq] at hb;obtain⟨G,d,hd,f,args,he,N⟩:=h;have C:ops[i]? =some (ops.getD i default):=(by simp[Array.getD,hb.1]);unfold jK wpOp;simp only[C];rw[<-eD] at G;simp only[G,if_true];refine .inl ?_;unfold Oper.wp;rw[he,Oper.upon_enter];refine Calls.mono N λe w' T=>?_;rcases T with⟨v,rfl,D,K,h2,M⟩|⟨c,rfl,h⟩
  ·simp only[Act.put,hd]
   exact⟨D,K,h2,f7 B r D _ _ hb.2 M⟩
  ·exact h
theorem tB (S:World->Prop)(m:Nat)(B:cb){id:Nat}{a:Act}{w:World}{l:eT}{D:List (Option Tmp)}(T:P.follows .mixedOrders=true)(C:dg ops m B=true)
  (hQ:∀c a o v w,o∈ops.toList->Q (.panic c) (Act.put a o.dst v) w->Q (.panic c) a w) (hl:B.out ops=l) (M:ops.toList.map (·.dst)=D)
  (hS:S w.drew) (h:∀E:Act->World->Prop,(∀a w,wpList P ops Q (ops.toList.drop m) a w->E a w)->lS P D (λc=>Q (.panic c)) E l S a w.drew):(Code.region id ops true).wp P Q a w:=by
 subst hl M;simp only[dg,O,decide_eq_true_eq,beq_iff_eq] at C;obtain⟨⟨⟨⟨G,hm⟩,hl⟩,C⟩,I⟩:=C
 have K:fN ops (Array.replicate ops.size false):= λj o ho hl=>by
  have N:=(Array.getElem?_eq_some_iff.1 ho).1;simp[N] at hl
 have:=hH G hQ hm B S _ a w.drew C K hS (qj (E:=wpList P ops Q (ops.toList.drop m)) (λ_ _ h=>h) B S a _ I (h _ λ_ _ h=>h));rw[show B.len+(ops.size - m)=ops.size by omega] at this;exact wp_region_any T (jJ _ _ _ _ this)
section
variable {dsts:List (Option Tmp)} {E:Act->World->Prop} {S:World->Prop} {Qp:List PanicEntry->Act->World->Prop}
theorem DB {d:Nat}{r:eT}{tmps:Array Value}{defers:List Deferred}{w:World}{o:Oper}{v:Value}(hd:o.dst=some d)(j:bA o dsts tmps=true)
  (B:∀w,S w->(execOp (Act.eval ⟨tmps,defers⟩) o).run P w= .ok (.value v) w) (h:lS P dsts Qp E r S ⟨tmps.setIfInBounds d v,defers⟩ w):lS P dsts Qp E (.take o r) S ⟨tmps,defers⟩ w:=
 ⟨d,v,hd,⟨j,B⟩,h⟩
theorem DA {d f:Nat}{args:Array Value}{r:eT}{tmps:Array Value}{defers:List Deferred}{w:World}{o:Oper}{R:Ending->World->Prop}(hd:o.dst=some d)(C:bA o dsts tmps=true)
  (he:(execOp (Act.eval ⟨tmps,defers⟩) o).run P w= .ok (.enter f args) w) (B:Calls P f args w R)
  (h:∀e w',R e w'->(∃v,e=Y v/\∃j:World->Prop,(∀w,j w->S w)/\j w'/\ct P dsts E r j ⟨tmps.setIfInBounds d v,defers⟩ w')\/(∃c,e= .panicked c/\Qp c ⟨tmps,defers⟩ w')):
  lS P dsts Qp E (.step o r) S ⟨tmps,defers⟩ w:=
 ⟨C,d,hd,f,args,he,Calls.mono B h⟩
end
end
theorem nf {P:Program}{fn:Func}{D G:Array Value}{R:Ending->World->Prop}(h:results fn D=results fn G):∀(j:List Deferred)(u:FrameMode)(w:World),Leaves P fn D R j u w->Leaves P fn G R j u w
 |[],.returning,w,hl=>by unfold Leaves at hl⊢;rw[<-h];exact hl
 |[],.panicking c,w,hl=>by unfold Leaves at hl⊢;exact hl
 |[],.run,w,hl=>by unfold Leaves at hl;exact hl.elim
 |d::j,u,w,hl=>by
  unfold Leaves at hl⊢;obtain⟨N,I,B,f,args,K,h2,M⟩:=hl;refine⟨N,I,B,f,args,K,h2,M.mono ?_⟩;intro e T w' C
  cases e with
  |returned v=>exact nf h j _ _ C
  |panicked c=>exact nf h j _ _ C
  |outgrown=>exact C
end Go.Proofs.YthhijgcfbjcgiaaGreatDoor
