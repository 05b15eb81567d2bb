/- Plan, Tree, TreeD -/
import Derived.Test.YthhijgcfbjcgiaaGreatDoorS01
import Derived.OrdersHeld
import Derived.Tactics
import Derived.Defers
namespace Go.Proofs.YthhijgcfbjcgiaaGreatDoor
open Go Go.RowKit
open Bool renaming and_eq_true→zAA,or_eq_true→zAD
open List renaming mem_singleton→zAB,all_eq_true→zAC,mem_range→zAE,mem_cons_of_mem→zAF,mem_cons_self→zAG,mem_cons→zAJ,range→zAL
open Nat renaming zero_add→zAH,le_refl→zAI,lt_or_ge→zAK
section
variable {P:Program} {ops:Array Oper} {Q:Exit→Act→World→Prop} {S:World→Prop} {m:Nat}
def mN (ops:Array Oper):Nat→Nat→Nat→Bool
 |0,_,_=>false
 |f+1,j,i=>((ops[j]?).map fun o=>o.after.any fun e=>Region.binds .any e&&(e.on==i||mN ops f e.on i)).getD false
def fD (ops:Array Oper) (listed:Array Bool):Prop:=
 ∀(j:Nat) (o:Oper),ops[j]? =some o→listed.getD j false=true→∀e∈o.after,Region.binds .any e=true→listed.getD e.on false=true
theorem pN {listed:Array Bool} (hc:fD ops listed):∀(f j i:Nat),(∀o,ops[j]? =some o→∀e∈o.after,Region.binds .any e=true→listed.getD e.on false=true)→
  mN ops f j i=true→listed.getD i false=true:=by
 intro f
 induction f with
 |zero=>intro j i _ h;simp [mN] at h
 |succ f ih=>
  intro j i hall h
  unfold mN at h
  cases ho:ops[j]? with
  |none=>simp [ho] at h
  |some o=>
   simp only [ho,Option.map_some,Option.getD_some,Array.any_eq_true'] at h
   obtain ⟨e,he,hh⟩:=h
   simp only [zAA,zAD,beq_iff_eq] at hh
   obtain ⟨hb,rfl|hr⟩:=hh
   ·exact hall o ho e he hb
   ·exact ih e.on i (fun o' ho' e' he' hb'=>hc e.on o' ho' (hall o ho e he hb) e' he' hb') hr
theorem cD {listed:Array Bool} {i:Nat} (hc:fD ops listed) (hi:i∈Region.ready .any ops listed):fD ops (listed.setIfInBounds i true):=by
 intro j o ho hl e he hb
 by_cases hji:j=i
 ·subst hji
  obtain ⟨_,o',ho',hall⟩:=mem_ready.1 hi
  rw [ho] at ho'
  cases ho'
  exact getD_set_true (hall e he hb)
 ·rw [getD_set_ne false (Ne.symm hji)] at hl
  exact getD_set_true (hc j o ho hl e he hb)
def iv (P:Program) (ops:Array Oper) (Q:Exit→Act→World→Prop) (S:World→Prop) (m:Nat):Nat→Array Bool→Act→World→Prop
 |0,listed,a,w=>Region.ready .any ops listed=[]∧Q .normal a w
 |fuel+1,listed,a,w=>
  (Region.ready .any ops listed=[]→Q .normal a w)∧
  ∀i∈Region.ready .any ops listed,wpOp P ops Q i (fun a' w'=>(i<m→S w')∧iv P ops Q S m fuel (listed.setIfInBounds i true) a' w') a w
theorem jC:∀(fuel:Nat) (listed:Array Bool) (a:Act) (w:World),iv P ops Q S m fuel listed a w→wpAny P .any ops Q fuel listed a w
 |0,_,_,_,h=>h
 |fuel+1,_,_,_,h=>⟨h.1,fun i hi=>wpOp_mono (fun a' w' h'=>jC fuel _ a' w' h'.2) (h.2 i hi)⟩
theorem mu {i:Nat} {oi:Oper} {v:Value} (hi:ops[i]? =some oi) (him:i<m) (hsel:∀(j:Nat) (o:Oper) cs b,ops[j]? =some o→o.op≠ .select cs b)
  (hQ:∀c a w,Q (.panic c) (a.put oi.dst v) w→Q (.panic c) a w) (hre:∀j,m≤j→j<ops.size→mN ops ops.size j i=true):
  ∀(fuel:Nat) (listed:Array Bool) (a:Act) (w:World),fD ops listed→
   (∀j oj,ops[j]? =some oj→j≠i→listed.getD j true=false→(∀e∈oj.after,Region.binds .any e=true→e.on≠i)→oi.apart ops oj=true)→
   i∈Region.ready .any ops listed→YieldsIf P ops S oi v a→S w→
   iv P ops Q S m fuel (listed.setIfInBounds i true) (a.put oi.dst v) w→iv P ops Q S m (fuel+1) listed a w:=by
 intro fuel
 induction fuel with
 |zero=>
  intro listed a w _ _ hr hy hS H
  refine ⟨fun h=>(by rw [h] at hr;cases hr),fun j hj=>?_⟩
  by_cases hji:j=i
  ·subst hji;exact hy.wpOp hi hS ⟨fun _=>hS,H⟩
  ·have:=ready_mono hj hji
   rw [H.1] at this
   cases this
 |succ fuel ih=>
  intro listed a w hcl hfree hr hy hS H
  refine ⟨fun h=>(by rw [h] at hr;cases hr),fun j hj=>?_⟩
  by_cases hji:j=i
  ·subst hji;exact hy.wpOp hi hS ⟨fun _=>hS,H⟩
  ·have h1:=H.2 j (ready_mono hj hji)
   obtain ⟨hjun,oj,hoj,hall⟩:=mem_ready.1 hj
   have hun:¬listed.getD i false=true:=fun h1=>by
    have h0:=(mem_ready.1 hr).1
    rcases zAK i listed.size with h'|h'
    ·simp [h'] at h0 h1;rw [h0] at h1;cases h1
    ·simp [Array.getElem?_eq_none h'] at h1
   have hnot:∀e∈oj.after,Region.binds .any e=true→e.on≠i:=fun e he hb heq=>hun (heq▸hall e he hb)
   have hjm:j<m:=by
    rcases zAK j m with h'|h'
    ·exact h'
    ·refine absurd (pN hcl ops.size j i (fun o ho e he hb=>?_) (hre j h' (Array.getElem?_eq_some_iff.1 hoj).1)) hun
     rw [hoj] at ho;cases ho;exact hall e he hb
   have h2:=wpOp_putIf hoj (hfree j oj hoj hji hjun hnot) (fun cs b=>hsel i oi cs b hi) (fun cs b=>hsel j oj cs b hoj) hQ hy h1
   have hfree':∀k ok,ops[k]? =some ok→k≠i→(listed.setIfInBounds j true).getD k true=false→
     (∀e∈ok.after,Region.binds .any e=true→e.on≠i)→oi.apart ops ok=true:=fun k ok hk hki hun hno=>by
    refine hfree k ok hk hki ?_ hno
    by_cases hjk:j=k
    ·subst hjk;exact hjun
    ·rw [getD_set_ne true hjk] at hun;exact hun
   refine wpOp_mono (fun a' w' h3=>⟨h3.2.1,ih (listed.setIfInBounds j true) a' w' (cD hcl hj) hfree' (ready_mono hr (Ne.symm hji)) h3.1 (h3.2.1 hjm) ?_⟩) h2
   rw [Array.setIfInBounds_comm _ _ hji]
   exact h3.2.2
def nG (P:Program) (ops:Array Oper) (Q:Exit→Act→World→Prop) (S:World→Prop) (m:Nat):List (Nat×Bool)→Act→World→Prop
 |[],a,w=>wpList P ops Q (ops.toList.drop m) a w
 |(i,true)::r,a,w=>∃o v,ops[i]? =some o∧YieldsIf P ops S o v a∧nG P ops Q S m r (a.put o.dst v) w
 |(i,false)::r,a,w=>wpOp P ops Q i (fun a' w'=>S w'∧nG P ops Q S m r a' w') a w
def jo (ops:Array Oper):Nat→Nat→Array Bool→Bool
 |0,_,listed=>Region.ready .any ops listed==[]
 |c+1,k,listed=>Region.ready .any ops listed==[k]&&jo ops c (k+1) (listed.setIfInBounds k true)
def nC (ops:Array Oper) (m:Nat):Array Bool→List (Nat×Bool)→Bool
 |listed,[]=>jo ops (ops.size - m) m listed
 |listed,(i,true)::r=>decide (i<m)&&Region.free .any ops listed i&&(Region.ready .any ops listed).contains i&&(zAL ops.size).all (fun j=>decide (j<m)||mN ops ops.size j i)&&nC ops m (listed.setIfInBounds i true) r
 |listed,(i,false)::r=>decide (i<m)&&(Region.ready .any ops listed==[i])&&nC ops m (listed.setIfInBounds i true) r
theorem iy:∀(c k:Nat) (listed:Array Bool) (a:Act) (w:World),jo ops c k listed=true→k+c=ops.size→m≤k→
  wpList P ops Q (ops.toList.drop k) a w→iv P ops Q S m c listed a w
 |0,k,listed,a,w,hf,hk,_,h=>by
  have hd:ops.toList.drop k=[]:=List.drop_eq_nil_of_le (by simp;omega)
  rw [hd] at h
  exact ⟨by simpa [jo] using hf,h⟩
 |c+1,k,listed,a,w,hf,hk,hm,h=>by
  simp only [jo,zAA,beq_iff_eq] at hf
  obtain ⟨hr,hf⟩:=hf
  refine ⟨fun h0=>(by rw [hr] at h0;cases h0),fun i hi=>?_⟩
  rw [hr,zAB] at hi
  subst hi
  have hlt:i<ops.toList.length:=by simp;omega
  rw [List.drop_eq_getElem_cons hlt] at h
  have ho:ops[i]? =some ops.toList[i]:=by simp
  unfold wpOp
  rw [ho]
  simp only [wpList] at h
  have hmono:∀a' w',wpList P ops Q (ops.toList.drop (i+1)) a' w'→((i<m→S w')∧iv P ops Q S m c (listed.setIfInBounds i true) a' w'):=
   fun a' w' h'=>⟨fun h=>absurd h (by omega),iy c (i+1) _ a' w' hf (by omega) (by omega) h'⟩
  split at h
  ·rename_i hw
   simp only [hw,if_true]
   exact h.imp (Oper.wp_mono hmono) id
  ·rename_i hw
   simp only [hw]
   exact hmono _ _ h
theorem lP (hsel:Region.noSelect ops=true) (hQ:∀c a d v w,Q (.panic c) (Act.put a d v) w→Q (.panic c) a w) (hm:m≤ops.size):
  ∀(plan:List (Nat×Bool)) (listed:Array Bool) (a:Act) (w:World),nC ops m listed plan=true→fD ops listed→S w→
   nG P ops Q S m plan a w→iv P ops Q S m (plan.length+(ops.size - m)) listed a w
 |[],listed,a,w,hok,_,_,h=>by
  rw [List.length_nil,zAH]
  exact iy (ops.size - m) m listed a w hok (by omega) (zAI _) h
 |(i,true)::r,listed,a,w,hok,hcl,hS,h=>by
  simp only [nC,zAA,decide_eq_true_eq] at hok
  obtain ⟨⟨⟨⟨him,hf⟩,hr⟩,hre⟩,hok⟩:=hok
  obtain ⟨o,v,ho,hy,h⟩:=h
  have hr':i∈Region.ready .any ops listed:=by simpa using hr
  rw [show ((i,true)::r).length+(ops.size - m)=(r.length+(ops.size - m))+1 by simp;omega]
  refine mu ho him (Region.noSelect_spec hsel) (fun c a w=>hQ c a _ _ w) (fun j hj hjs=>?_) _ listed a w hcl (Region.free_spec ho hf) hr' hy hS (lP hsel hQ hm r _ _ _ hok (cD hcl hr') hS h)
  have:=zAC.1 hre j (zAE.2 hjs)
  simp only [zAD,decide_eq_true_eq] at this
  exact this.resolve_left (by omega)
 |(i,false)::r,listed,a,w,hok,hcl,hS,h=>by
  simp only [nC,zAA,decide_eq_true_eq,beq_iff_eq] at hok
  obtain ⟨⟨_,hr⟩,hok⟩:=hok
  rw [show ((i,false)::r).length+(ops.size - m)=(r.length+(ops.size - m))+1 by simp;omega]
  refine ⟨fun h0=>(by rw [hr] at h0;cases h0),fun j hj=>?_⟩
  have hj':=hj
  rw [hr,zAB] at hj
  subst hj
  exact wpOp_mono (fun a' w' h'=>⟨fun _=>h'.1,lP hsel hQ hm r _ _ _ hok (cD hcl hj') h'.1 h'.2⟩) h
def rB (ops:Array Oper) (m:Nat) (plan:List (Nat×Bool)):Bool:=
 Region.noSelect ops&&decide (m≤ops.size)&&(plan.length==m)&&nC ops m (Array.replicate ops.size false) plan
theorem tR (S:World→Prop) (m:Nat) (plan:List (Nat×Bool)) {id:Nat} {a:Act} {w:World} (hmx:P.follows .mixedOrders=true) (hok:rB ops m plan=true)
  (hQ:∀c a d v w,Q (.panic c) (Act.put a d v) w→Q (.panic c) a w) (hS:S w.drew) (h:nG P ops Q S m plan a w.drew):(Code.region id ops true).wp P Q a w:=by
 simp only [rB,zAA,decide_eq_true_eq,beq_iff_eq] at hok
 obtain ⟨⟨⟨hsel,hm⟩,hl⟩,hok⟩:=hok
 have hcl:fD ops (Array.replicate ops.size false):=fun j o ho hl=>by
  have hlt:=(Array.getElem?_eq_some_iff.1 ho).1
  simp [hlt] at hl
 have:=lP hsel hQ hm plan _ a w.drew hok hcl hS h
 rw [show plan.length+(ops.size - m)=ops.size by omega] at this
 exact wp_region_any hmx (jC _ _ _ _ this)
def rK (dsts:List (Option Tmp)) (tmps:Array Value) (j:Nat):Option Bool:=
 match ((dsts[j]?).bind id).bind (tmps[·]?) with
 |some (.bool b)=>some b
 |_=>none
def bw (o:Oper) (dsts:List (Option Tmp)) (tmps:Array Value):Bool:=
 match o.guard with
 |none=>true
 |some (j,want)=>rK dsts tmps j==some want
theorem ew (o:Oper) (tmps:Array Value):Region.wanted o (yielded ops tmps)=bw o (ops.toList.map (·.dst)) tmps:=by
 unfold Region.wanted bw
 cases o.guard with
 |none=>rfl
 |some g=>
  obtain ⟨j,want⟩:=g
  have:yielded ops tmps j=rK (ops.toList.map (·.dst)) tmps j:=by
   unfold yielded rK
   simp only [List.getElem?_map,Array.getElem?_toList]
   cases ops[j]? <;>rfl
  simp only [this]
def eJ (P:Program) (dsts:List (Option Tmp)) (S:World→Prop) (E:Act→World→Prop):List (Oper×Bool)→Act→World→Prop
 |[],a,w=>E a w
 |(o,true)::r,a,w=>∃d v,o.dst=some d∧((bw o dsts a.tmps=true∧∀w,S w→(execOp a.eval o).run P w= .ok (.value v) w)∨(bw o dsts a.tmps=false∧v=undef))∧eJ P dsts S E r ⟨a.tmps.setIfInBounds d v,a.defers⟩ w
 |(o,false)::r,a,w=>∃d,o.dst=some d∧((bw o dsts a.tmps=false∧S w∧eJ P dsts S E r ⟨a.tmps.setIfInBounds d undef,a.defers⟩ w)∨
   (bw o dsts a.tmps=true∧((∃v w',(execOp a.eval o).run P w= .ok (.value v) w'∧S w'∧eJ P dsts S E r ⟨a.tmps.setIfInBounds d v,a.defers⟩ w')∨
    (∃f args,(execOp a.eval o).run P w= .ok (.enter f args) w∧Calls P f args w fun e w'=>∃v,e= .returned v∧S w'∧eJ P dsts S E r ⟨a.tmps.setIfInBounds d v,a.defers⟩ w'))))
theorem kL {E:Act→World→Prop} (hE:∀a w,E a w→wpList P ops Q (ops.toList.drop m) a w):∀(plan:List (Nat×Bool)) (a:Act) (w:World),(∀p∈plan,p.1<ops.size)→
  eJ P (ops.toList.map (·.dst)) S E (plan.map fun p=>(ops.getD p.1 default,p.2)) a w→nG P ops Q S m plan a w
 |[],a,w,_,h=>hE _ _ h
 |(i,true)::r,a,w,hlt,h=>by
  obtain ⟨d,v,hd,hy,h⟩:=h
  have hi:i<ops.size:=hlt _ (zAG)
  have ho:ops[i]? =some (ops.getD i default):=by simp [Array.getD,hi]
  refine ⟨_,v,ho,?_,?_⟩
  ·rw [←ew] at hy;exact hy
  ·simp only [Act.put,hd]
   exact kL hE r _ _ (fun p hp=>hlt p (zAF _ hp)) h
 |(i,false)::r,a,w,hlt,h=>by
  obtain ⟨d,hd,h⟩:=h
  have hi:i<ops.size:=hlt _ (zAG)
  have ho:ops[i]? =some (ops.getD i default):=by simp [Array.getD,hi]
  have ih:∀a w,_→nG P ops Q S m r a w:=fun a w=>kL hE r a w (fun p hp=>hlt p (zAF _ hp))
  show wpOp P ops Q i _ _ w
  unfold wpOp
  simp only [ho]
  rcases h with ⟨hw,hS,h⟩|⟨hw,h⟩
  ·rw [←ew] at hw
   simp only [hw]
   exact ⟨hS,by simp only [Act.put,hd];exact ih _ _ h⟩
  ·rw [←ew] at hw
   simp only [hw,if_true]
   refine .inl ?_
   unfold Oper.wp
   rcases h with ⟨v,w',he,hS,h⟩|⟨f,args,he,hc⟩
   ·rw [he,Oper.upon_value]
    exact ⟨hS,by simp only [Act.put,hd];exact ih _ _ h⟩
   ·rw [he,Oper.upon_enter]
    refine Calls.mono hc fun e w' hr=>?_
    obtain ⟨v,rfl,hS,h⟩:=hr
    exact ⟨hS,by simp only [Act.put,hd];exact ih _ _ h⟩
theorem eK (S:World→Prop) (m:Nat) (plan:List (Nat×Bool)) {id:Nat} {a:Act} {w:World} {l:List (Oper×Bool)} {dsts:List (Option Tmp)} (hmx:P.follows .mixedOrders=true) (hok:rB ops m plan=true)
  (hQ:∀c a d v w,Q (.panic c) (Act.put a d v) w→Q (.panic c) a w) (hlt:(plan.all fun p=>decide (p.1<ops.size))=true) (hl:(plan.map fun p=>(ops.getD p.1 default,p.2))=l) (hds:ops.toList.map (·.dst)=dsts)
  (hS:S w.drew) (h:∀E:Act→World→Prop,(∀a w,wpList P ops Q (ops.toList.drop m) a w→E a w)→eJ P dsts S E l a w.drew):(Code.region id ops true).wp P Q a w:=by
 subst hl hds
 exact tR S m plan hmx hok hQ hS (kL (E:=wpList P ops Q (ops.toList.drop m)) (fun _ _ h=>h) plan a _ (fun p hp=>by simpa using zAC.1 hlt p hp) (h _ fun _ _ h=>h))
section
variable {dsts:List (Option Tmp)} {E:Act→World→Prop}
theorem jd {d:Nat} {r:List (Oper×Bool)} {tmps:Array Value} {defers:List Deferred} {w:World} {o:Oper} {v:Value} (hd:o.dst=some d) (hw:bw o dsts tmps=true)
  (hy:∀w,S w→(execOp (Act.eval ⟨tmps,defers⟩) o).run P w= .ok (.value v) w) (h:eJ P dsts S E r ⟨tmps.setIfInBounds d v,defers⟩ w):eJ P dsts S E ((o,true)::r) ⟨tmps,defers⟩ w:=
 ⟨d,v,hd,.inl ⟨hw,hy⟩,h⟩
theorem Ei {d:Nat} {r:List (Oper×Bool)} {tmps:Array Value} {defers:List Deferred} {w:World} {o:Oper} (hd:o.dst=some d) (hw:bw o dsts tmps=false)
  (h:eJ P dsts S E r ⟨tmps.setIfInBounds d undef,defers⟩ w):eJ P dsts S E ((o,true)::r) ⟨tmps,defers⟩ w:=
 ⟨d,undef,hd,.inr ⟨hw,rfl⟩,h⟩
theorem Eh {d f:Nat} {args:Array Value} {r:List (Oper×Bool)} {tmps:Array Value} {defers:List Deferred} {w:World} {o:Oper} {R:Ending→World→Prop} (hd:o.dst=some d) (hw:bw o dsts tmps=true)
  (he:(execOp (Act.eval ⟨tmps,defers⟩) o).run P w= .ok (.enter f args) w) (hc:Calls P f args w R)
  (h:∀e w',R e w'→∃v,e= .returned v∧S w'∧eJ P dsts S E r ⟨tmps.setIfInBounds d v,defers⟩ w'):eJ P dsts S E ((o,false)::r) ⟨tmps,defers⟩ w:=
 ⟨d,hd,.inr ⟨hw,.inr ⟨f,args,he,Calls.mono hc h⟩⟩⟩
theorem Ck {d:Nat} {r:List (Oper×Bool)} {tmps:Array Value} {defers:List Deferred} {w w':World} {o:Oper} {v:Value} (hd:o.dst=some d) (hw:bw o dsts tmps=true)
  (he:(execOp (Act.eval ⟨tmps,defers⟩) o).run P w= .ok (.value v) w') (hS:S w') (h:eJ P dsts S E r ⟨tmps.setIfInBounds d v,defers⟩ w'):eJ P dsts S E ((o,false)::r) ⟨tmps,defers⟩ w:=
 ⟨d,hd,.inr ⟨hw,.inl ⟨v,w',he,hS,h⟩⟩⟩
end
end
inductive aR where
 |done
 |take (i:Nat) (r:aR)
 |step (i:Nat) (r:aR)
 |fork (i:Nat) (r:aR) (j:Nat) (q:aR)
def aR.len:aR→Nat
 | .done=>0
 | .take _ r=>r.len+1
 | .step _ r=>r.len+1
 | .fork _ r _ _=>r.len+1
section
variable {P:Program} {ops:Array Oper} {Q:Exit→Act→World→Prop} {m:Nat}
theorem hU {S S':World→Prop} (hS:∀w,S' w→S w):∀(fuel:Nat) (listed:Array Bool) (a:Act) (w:World),iv P ops Q S' m fuel listed a w→iv P ops Q S m fuel listed a w
 |0,_,_,_,h=>h
 |fuel+1,_,_,_,h=>⟨h.1,fun i hi=>wpOp_mono (fun a' w' h'=>⟨fun hm=>hS _ (h'.1 hm),hU hS fuel _ a' w' h'.2⟩) (h.2 i hi)⟩
def jD (P:Program) (ops:Array Oper) (Q:Exit→Act→World→Prop) (m:Nat):aR→(World→Prop)→Act→World→Prop
 | .done,_,a,w=>wpList P ops Q (ops.toList.drop m) a w
 | .take i r,S,a,w=>∃o v,ops[i]? =some o∧YieldsIf P ops S o v a∧jD P ops Q m r S (a.put o.dst v) w
 | .step i r,S,a,w=>wpOp P ops Q i (fun a' w'=>∃S':World→Prop,(∀w,S' w→S w)∧S' w'∧jD P ops Q m r S' a' w') a w
 | .fork i r j q,S,a,w=>wpOp P ops Q i (fun a' w'=>∃S':World→Prop,(∀w,S' w→S w)∧S' w'∧jD P ops Q m r S' a' w') a w∧
   wpOp P ops Q j (fun a' w'=>∃S':World→Prop,(∀w,S' w→S w)∧S' w'∧jD P ops Q m q S' a' w') a w
def eF (ops:Array Oper) (m:Nat):aR→Array Bool→Bool
 | .done,listed=>jo ops (ops.size - m) m listed
 | .take i r,listed=>decide (i<m)&&Region.free .any ops listed i&&(Region.ready .any ops listed).contains i&&(zAL ops.size).all (fun j=>decide (j<m)||mN ops ops.size j i)&&eF ops m r (listed.setIfInBounds i true)
 | .step i r,listed=>decide (i<m)&&(Region.ready .any ops listed==[i])&&eF ops m r (listed.setIfInBounds i true)
 | .fork i r j q,listed=>decide (i<m)&&decide (j<m)&&(r.len==q.len)&&(Region.ready .any ops listed==[i,j])&&eF ops m r (listed.setIfInBounds i true)&&eF ops m q (listed.setIfInBounds j true)
theorem fV (hsel:Region.noSelect ops=true) (hQ:∀c a d v w,Q (.panic c) (Act.put a d v) w→Q (.panic c) a w) (hm:m≤ops.size):
  ∀(plan:aR) (S:World→Prop) (listed:Array Bool) (a:Act) (w:World),eF ops m plan listed=true→fD ops listed→S w→
   jD P ops Q m plan S a w→iv P ops Q S m (plan.len+(ops.size - m)) listed a w
 | .done,S,listed,a,w,hok,_,_,h=>by
  rw [aR.len,zAH]
  exact iy (ops.size - m) m listed a w hok (by omega) (zAI _) h
 | .take i r,S,listed,a,w,hok,hcl,hS,h=>by
  simp only [eF,zAA,decide_eq_true_eq] at hok
  obtain ⟨⟨⟨⟨him,hf⟩,hr⟩,hre⟩,hok⟩:=hok
  obtain ⟨o,v,ho,hy,h⟩:=h
  have hr':i∈Region.ready .any ops listed:=by simpa using hr
  rw [show (aR.take i r).len+(ops.size - m)=(r.len+(ops.size - m))+1 by simp [aR.len];omega]
  refine mu ho him (Region.noSelect_spec hsel) (fun c a w=>hQ c a _ _ w) (fun j hj hjs=>?_) _ listed a w hcl (Region.free_spec ho hf) hr' hy hS (fV hsel hQ hm r S _ _ _ hok (cD hcl hr') hS h)
  have:=zAC.1 hre j (zAE.2 hjs)
  simp only [zAD,decide_eq_true_eq] at this
  exact this.resolve_left (by omega)
 | .step i r,S,listed,a,w,hok,hcl,hS,h=>by
  simp only [eF,zAA,decide_eq_true_eq,beq_iff_eq] at hok
  obtain ⟨⟨_,hr⟩,hok⟩:=hok
  rw [show (aR.step i r).len+(ops.size - m)=(r.len+(ops.size - m))+1 by simp [aR.len];omega]
  refine ⟨fun h0=>(by rw [hr] at h0;cases h0),fun j hj=>?_⟩
  have hj':=hj
  rw [hr,zAB] at hj
  subst hj
  exact wpOp_mono (fun a' w' ⟨S',h1,h2,h3⟩=>⟨fun _=>h1 _ h2,hU h1 _ _ _ _ (fV hsel hQ hm r S' _ _ _ hok (cD hcl hj') h2 h3)⟩) h
 | .fork i r k q,S,listed,a,w,hok,hcl,hS,h=>by
  simp only [eF,zAA,decide_eq_true_eq,beq_iff_eq] at hok
  obtain ⟨⟨⟨⟨⟨_,_⟩,hlen⟩,hr⟩,hok1⟩,hok2⟩:=hok
  rw [show (aR.fork i r k q).len+(ops.size - m)=(r.len+(ops.size - m))+1 by simp [aR.len];omega]
  refine ⟨fun h0=>(by rw [hr] at h0;cases h0),fun j hj=>?_⟩
  have hj':=hj
  rw [hr] at hj
  rcases zAJ.1 hj with rfl|hj
  ·exact wpOp_mono (fun a' w' ⟨S',h1,h2,h3⟩=>⟨fun _=>h1 _ h2,hU h1 _ _ _ _ (fV hsel hQ hm r S' _ _ _ hok1 (cD hcl hj') h2 h3)⟩) h.1
  ·rw [zAB] at hj
   subst hj
   rw [hlen]
   exact wpOp_mono (fun a' w' ⟨S',h1,h2,h3⟩=>⟨fun _=>h1 _ h2,hU h1 _ _ _ _ (fV hsel hQ hm q S' _ _ _ hok2 (cD hcl hj') h2 h3)⟩) h.2
inductive eP where
 |done
 |take (o:Oper) (r:eP)
 |step (o:Oper) (r:eP)
 |fork (o:Oper) (r:eP) (p:Oper) (q:eP)
def aR.out (ops:Array Oper):aR→eP
 | .done=> .done
 | .take i r=> .take (ops.getD i default) (r.out ops)
 | .step i r=> .step (ops.getD i default) (r.out ops)
 | .fork i r j q=> .fork (ops.getD i default) (r.out ops) (ops.getD j default) (q.out ops)
def aR.inside (n:Nat):aR→Bool
 | .done=>true
 | .take i r=>decide (i<n)&&r.inside n
 | .step i r=>decide (i<n)&&r.inside n
 | .fork i r j q=>decide (i<n)&&r.inside n&&decide (j<n)&&q.inside n
def j8 (P:Program) (dsts:List (Option Tmp)) (o:Oper) (E:Act→World→Prop) (a:Act) (w:World):Prop:=
 bw o dsts a.tmps=true∧((∃d,o.dst=some d∧((∃v w',(execOp a.eval o).run P w= .ok (.value v) w'∧E ⟨a.tmps.setIfInBounds d v,a.defers⟩ w')∨
  (∃f args,(execOp a.eval o).run P w= .ok (.enter f args) w∧Calls P f args w fun e w'=>∃v,e= .returned v∧E ⟨a.tmps.setIfInBounds d v,a.defers⟩ w')))∨
  (o.dst=none∧∃w',(execOp a.eval o).run P w= .ok .skip w'∧E a w'))
def co (P:Program) (dsts:List (Option Tmp)) (E:Act→World→Prop):eP→(World→Prop)→Act→World→Prop
 | .done,_,a,w=>E a w
 | .take o r,S,a,w=>∃d v,o.dst=some d∧(bw o dsts a.tmps=true∧∀w,S w→(execOp a.eval o).run P w= .ok (.value v) w)∧co P dsts E r S ⟨a.tmps.setIfInBounds d v,a.defers⟩ w
 | .step o r,S,a,w=>j8 P dsts o (fun a' w'=>∃S':World→Prop,(∀w,S' w→S w)∧S' w'∧co P dsts E r S' a' w') a w
 | .fork o r p q,S,a,w=>j8 P dsts o (fun a' w'=>∃S':World→Prop,(∀w,S' w→S w)∧S' w'∧co P dsts E r S' a' w') a w∧j8 P dsts p (fun a' w'=>∃S':World→Prop,(∀w,S' w→S w)∧S' w'∧co P dsts E q S' a' w') a w
theorem rG {i:Nat} (hi:i<ops.size) {E F:Act→World→Prop} (hEF:∀a w,E a w→F a w) {a:Act} {w:World} (h:j8 P (ops.toList.map (·.dst)) (ops.getD i default) E a w):wpOp P ops Q i F a w:=by
 obtain ⟨hw,h⟩:=h
 have ho:ops[i]? =some (ops.getD i default):=by simp [Array.getD,hi]
 unfold wpOp
 simp only [ho]
 rw [←ew] at hw
 simp only [hw,if_true]
 refine .inl ?_
 unfold Oper.wp
 rcases h with ⟨d,hd,⟨v,w',he,h⟩|⟨f,args,he,hc⟩⟩|⟨hd,w',he,h⟩
 ·rw [he,Oper.upon_value]
  simp only [Act.put,hd]
  exact hEF _ _ h
 ·rw [he,Oper.upon_enter]
  refine Calls.mono hc fun e w' hr=>?_
  obtain ⟨v,rfl,h⟩:=hr
  simp only [Act.put,hd]
  exact hEF _ _ h
 ·rw [he,Oper.upon_skip]
  simp only [Act.put,hd]
  exact hEF _ _ h
theorem fQ {E:Act→World→Prop} (hE:∀a w,E a w→wpList P ops Q (ops.toList.drop m) a w):∀(plan:aR) (S:World→Prop) (a:Act) (w:World),plan.inside ops.size=true→
  co P (ops.toList.map (·.dst)) E (plan.out ops) S a w→jD P ops Q m plan S a w
 | .done,S,a,w,_,h=>hE _ _ h
 | .take i r,S,a,w,hb,h=>by
  simp only [aR.inside,zAA,decide_eq_true_eq] at hb
  obtain ⟨d,v,hd,hy,h⟩:=h
  have ho:ops[i]? =some (ops.getD i default):=by simp [Array.getD,hb.1]
  refine ⟨_,v,ho,?_,?_⟩
  ·rw [←ew] at hy;exact .inl hy
  ·simp only [Act.put,hd]
   exact fQ hE r S _ _ hb.2 h
 | .step i r,S,a,w,hb,h=>by
  simp only [aR.inside,zAA,decide_eq_true_eq] at hb
  exact rG hb.1 (fun a w ⟨S',h1,h2,h3⟩=>⟨S',h1,h2,fQ hE r S' _ _ hb.2 h3⟩) h
 | .fork i r j q,S,a,w,hb,h=>by
  simp only [aR.inside,zAA,decide_eq_true_eq] at hb
  exact ⟨rG hb.1.1.1 (fun a w ⟨S',h1,h2,h3⟩=>⟨S',h1,h2,fQ hE r S' _ _ hb.1.1.2 h3⟩) h.1,rG hb.1.2 (fun a w ⟨S',h1,h2,h3⟩=>⟨S',h1,h2,fQ hE q S' _ _ hb.2 h3⟩) h.2⟩
def dv (ops:Array Oper) (m:Nat) (plan:aR):Bool:=
 Region.noSelect ops&&decide (m≤ops.size)&&(plan.len==m)&&eF ops m plan (Array.replicate ops.size false)&&plan.inside ops.size
theorem tS (S:World→Prop) (m:Nat) (plan:aR) {id:Nat} {a:Act} {w:World} {l:eP} {dsts:List (Option Tmp)} (hmx:P.follows .mixedOrders=true) (hok:dv ops m plan=true)
  (hQ:∀c a d v w,Q (.panic c) (Act.put a d v) w→Q (.panic c) a w) (hl:plan.out ops=l) (hds:ops.toList.map (·.dst)=dsts)
  (hS:S w.drew) (h:∀E:Act→World→Prop,(∀a w,wpList P ops Q (ops.toList.drop m) a w→E a w)→co P dsts E l S a w.drew):(Code.region id ops true).wp P Q a w:=by
 subst hl hds
 simp only [dv,zAA,decide_eq_true_eq,beq_iff_eq] at hok
 obtain ⟨⟨⟨⟨hsel,hm⟩,hl⟩,hok⟩,hbl⟩:=hok
 have hcl:fD ops (Array.replicate ops.size false):=fun j o ho hl=>by
  have hlt:=(Array.getElem?_eq_some_iff.1 ho).1
  simp [hlt] at hl
 have:=fV hsel hQ hm plan S _ a w.drew hok hcl hS (fQ (E:=wpList P ops Q (ops.toList.drop m)) (fun _ _ h=>h) plan S a _ hbl (h _ fun _ _ h=>h))
 rw [show plan.len+(ops.size - m)=ops.size by omega] at this
 exact wp_region_any hmx (jC _ _ _ _ this)
section
variable {dsts:List (Option Tmp)} {E:Act→World→Prop} {S:World→Prop}
theorem ah {d:Nat} {r:eP} {tmps:Array Value} {defers:List Deferred} {w:World} {o:Oper} {v:Value} (hd:o.dst=some d) (hw:bw o dsts tmps=true)
  (hy:∀w,S w→(execOp (Act.eval ⟨tmps,defers⟩) o).run P w= .ok (.value v) w) (h:co P dsts E r S ⟨tmps.setIfInBounds d v,defers⟩ w):co P dsts E (.take o r) S ⟨tmps,defers⟩ w:=
 ⟨d,v,hd,⟨hw,hy⟩,h⟩
theorem aV {d f:Nat} {args:Array Value} {r:eP} {tmps:Array Value} {defers:List Deferred} {w:World} {o:Oper} {R:Ending→World→Prop} (hd:o.dst=some d) (hw:bw o dsts tmps=true)
  (he:(execOp (Act.eval ⟨tmps,defers⟩) o).run P w= .ok (.enter f args) w) (hc:Calls P f args w R)
  (h:∀e w',R e w'→∃v,e= .returned v∧∃S':World→Prop,(∀w,S' w→S w)∧S' w'∧co P dsts E r S' ⟨tmps.setIfInBounds d v,defers⟩ w'):
  j8 P dsts o (fun a' w'=>∃S':World→Prop,(∀w,S' w→S w)∧S' w'∧co P dsts E r S' a' w') ⟨tmps,defers⟩ w:=
 ⟨hw,.inl ⟨d,hd,.inr ⟨f,args,he,Calls.mono hc h⟩⟩⟩
theorem aw {d:Nat} {r:eP} {tmps:Array Value} {defers:List Deferred} {w w':World} {o:Oper} {v:Value} (hd:o.dst=some d) (hw:bw o dsts tmps=true)
  (he:(execOp (Act.eval ⟨tmps,defers⟩) o).run P w= .ok (.value v) w') (hS:S w') (h:co P dsts E r S ⟨tmps.setIfInBounds d v,defers⟩ w'):
  j8 P dsts o (fun a' w'=>∃S':World→Prop,(∀w,S' w→S w)∧S' w'∧co P dsts E r S' a' w') ⟨tmps,defers⟩ w:=
 ⟨hw,.inl ⟨d,hd,.inl ⟨v,w',he,S,fun _ h=>h,hS,h⟩⟩⟩
theorem bG (S:World→Prop) {r:eP} {tmps:Array Value} {defers:List Deferred} {w w':World} {o:Oper} (hd:o.dst=none) (hw:bw o dsts tmps=true)
  (he:(execOp (Act.eval ⟨tmps,defers⟩) o).run P w= .ok .skip w') (hS:S w') (h:co P dsts E r S ⟨tmps,defers⟩ w'):
  j8 P dsts o (fun a' w'=>∃S':World→Prop,(∀w,S' w→S w)∧S' w'∧co P dsts E r S' a' w') ⟨tmps,defers⟩ w:=
 ⟨hw,.inr ⟨hd,w',he,S,fun _ h=>h,hS,h⟩⟩
end
end
section
variable {P:Program} {ops:Array Oper} {Q:Exit→Act→World→Prop} {m:Nat}
theorem gN (hsel:Region.noSelect ops=true) (hQ:∀c a o v w,o∈ops.toList→Q (.panic c) (Act.put a o.dst v) w→Q (.panic c) a w) (hm:m≤ops.size):
  ∀(plan:aR) (S:World→Prop) (listed:Array Bool) (a:Act) (w:World),eF ops m plan listed=true→fD ops listed→S w→
   jD P ops Q m plan S a w→iv P ops Q S m (plan.len+(ops.size - m)) listed a w
 | .done,S,listed,a,w,hok,_,_,h=>by
  rw [aR.len,zAH]
  exact iy (ops.size - m) m listed a w hok (by omega) (zAI _) h
 | .take i r,S,listed,a,w,hok,hcl,hS,h=>by
  simp only [eF,zAA,decide_eq_true_eq] at hok
  obtain ⟨⟨⟨⟨him,hf⟩,hr⟩,hre⟩,hok⟩:=hok
  obtain ⟨o,v,ho,hy,h⟩:=h
  have hr':i∈Region.ready .any ops listed:=by simpa using hr
  have hmem:o∈ops.toList:=by obtain ⟨h1,h2⟩:=Array.getElem?_eq_some_iff.1 ho;rw [←h2];simp
  rw [show (aR.take i r).len+(ops.size - m)=(r.len+(ops.size - m))+1 by simp [aR.len];omega]
  refine mu ho him (Region.noSelect_spec hsel) (fun c a w=>hQ c a _ _ w hmem) (fun j hj hjs=>?_) _ listed a w hcl (Region.free_spec ho hf) hr' hy hS (gN hsel hQ hm r S _ _ _ hok (cD hcl hr') hS h)
  have:=zAC.1 hre j (zAE.2 hjs)
  simp only [zAD,decide_eq_true_eq] at this
  exact this.resolve_left (by omega)
 | .step i r,S,listed,a,w,hok,hcl,hS,h=>by
  simp only [eF,zAA,decide_eq_true_eq,beq_iff_eq] at hok
  obtain ⟨⟨_,hr⟩,hok⟩:=hok
  rw [show (aR.step i r).len+(ops.size - m)=(r.len+(ops.size - m))+1 by simp [aR.len];omega]
  refine ⟨fun h0=>(by rw [hr] at h0;cases h0),fun j hj=>?_⟩
  have hj':=hj
  rw [hr,zAB] at hj
  subst hj
  exact wpOp_mono (fun a' w' ⟨S',h1,h2,h3⟩=>⟨fun _=>h1 _ h2,hU h1 _ _ _ _ (gN hsel hQ hm r S' _ _ _ hok (cD hcl hj') h2 h3)⟩) h
 | .fork i r k q,S,listed,a,w,hok,hcl,hS,h=>by
  simp only [eF,zAA,decide_eq_true_eq,beq_iff_eq] at hok
  obtain ⟨⟨⟨⟨⟨_,_⟩,hlen⟩,hr⟩,hok1⟩,hok2⟩:=hok
  rw [show (aR.fork i r k q).len+(ops.size - m)=(r.len+(ops.size - m))+1 by simp [aR.len];omega]
  refine ⟨fun h0=>(by rw [hr] at h0;cases h0),fun j hj=>?_⟩
  have hj':=hj
  rw [hr] at hj
  rcases zAJ.1 hj with rfl|hj
  ·exact wpOp_mono (fun a' w' ⟨S',h1,h2,h3⟩=>⟨fun _=>h1 _ h2,hU h1 _ _ _ _ (gN hsel hQ hm r S' _ _ _ hok1 (cD hcl hj') h2 h3)⟩) h.1
  ·rw [zAB] at hj
   subst hj
   rw [hlen]
   exact wpOp_mono (fun a' w' ⟨S',h1,h2,h3⟩=>⟨fun _=>h1 _ h2,hU h1 _ _ _ _ (gN hsel hQ hm q S' _ _ _ hok2 (cD hcl hj') h2 h3)⟩) h.2
def lJ (P:Program) (dsts:List (Option Tmp)) (Qp:List PanicEntry→Act→World→Prop) (E:Act→World→Prop):eP→(World→Prop)→Act→World→Prop
 | .done,_,a,w=>E a w
 | .take o r,S,a,w=>∃d v,o.dst=some d∧(bw o dsts a.tmps=true∧∀w,S w→(execOp a.eval o).run P w= .ok (.value v) w)∧lJ P dsts Qp E r S ⟨a.tmps.setIfInBounds d v,a.defers⟩ w
 | .step o r,S,a,w=>bw o dsts a.tmps=true∧∃d,o.dst=some d∧∃f args,(execOp a.eval o).run P w= .ok (.enter f args) w∧Calls P f args w fun e w'=>
   (∃v,e= .returned v∧∃S':World→Prop,(∀w,S' w→S w)∧S' w'∧co P dsts E r S' ⟨a.tmps.setIfInBounds d v,a.defers⟩ w')∨(∃c,e= .panicked c∧Qp c a w')
 | .fork _ _ _ _,_,_,_=>False
theorem qd {E:Act→World→Prop} (hE:∀a w,E a w→wpList P ops Q (ops.toList.drop m) a w):∀(plan:aR) (S:World→Prop) (a:Act) (w:World),plan.inside ops.size=true→
  lJ P (ops.toList.map (·.dst)) (fun c=>Q (.panic c)) E (plan.out ops) S a w→jD P ops Q m plan S a w
 | .done,S,a,w,_,h=>hE _ _ h
 | .take i r,S,a,w,hb,h=>by
  simp only [aR.inside,zAA,decide_eq_true_eq] at hb
  obtain ⟨d,v,hd,hy,h⟩:=h
  have ho:ops[i]? =some (ops.getD i default):=by simp [Array.getD,hb.1]
  refine ⟨_,v,ho,?_,?_⟩
  ·rw [←ew] at hy;exact .inl hy
  ·simp only [Act.put,hd]
   exact qd hE r S _ _ hb.2 h
 | .step i r,S,a,w,hb,h=>by
  simp only [aR.inside,zAA,decide_eq_true_eq] at hb
  obtain ⟨hw,d,hd,f,args,he,hc⟩:=h
  have ho:ops[i]? =some (ops.getD i default):=by simp [Array.getD,hb.1]
  unfold jD wpOp
  simp only [ho]
  rw [←ew] at hw
  simp only [hw,if_true]
  refine .inl ?_
  unfold Oper.wp
  rw [he,Oper.upon_enter]
  refine Calls.mono hc fun e w' hr=>?_
  rcases hr with ⟨v,rfl,S',h1,h2,h3⟩|⟨c,rfl,h⟩
  ·simp only [Act.put,hd]
   exact ⟨S',h1,h2,fQ hE r S' _ _ hb.2 h3⟩
  ·exact h
theorem ta (S:World→Prop) (m:Nat) (plan:aR) {id:Nat} {a:Act} {w:World} {l:eP} {dsts:List (Option Tmp)} (hmx:P.follows .mixedOrders=true) (hok:dv ops m plan=true)
  (hQ:∀c a o v w,o∈ops.toList→Q (.panic c) (Act.put a o.dst v) w→Q (.panic c) a w) (hl:plan.out ops=l) (hds:ops.toList.map (·.dst)=dsts)
  (hS:S w.drew) (h:∀E:Act→World→Prop,(∀a w,wpList P ops Q (ops.toList.drop m) a w→E a w)→lJ P dsts (fun c=>Q (.panic c)) E l S a w.drew):(Code.region id ops true).wp P Q a w:=by
 subst hl hds
 simp only [dv,zAA,decide_eq_true_eq,beq_iff_eq] at hok
 obtain ⟨⟨⟨⟨hsel,hm⟩,hl⟩,hok⟩,hbl⟩:=hok
 have hcl:fD ops (Array.replicate ops.size false):=fun j o ho hl=>by
  have hlt:=(Array.getElem?_eq_some_iff.1 ho).1
  simp [hlt] at hl
 have:=gN hsel hQ hm plan S _ a w.drew hok hcl hS (qd (E:=wpList P ops Q (ops.toList.drop m)) (fun _ _ h=>h) plan S a _ hbl (h _ fun _ _ h=>h))
 rw [show plan.len+(ops.size - m)=ops.size by omega] at this
 exact wp_region_any hmx (jC _ _ _ _ this)
section
variable {dsts:List (Option Tmp)} {E:Act→World→Prop} {S:World→Prop} {Qp:List PanicEntry→Act→World→Prop}
theorem CQ {d:Nat} {r:eP} {tmps:Array Value} {defers:List Deferred} {w:World} {o:Oper} {v:Value} (hd:o.dst=some d) (hw:bw o dsts tmps=true)
  (hy:∀w,S w→(execOp (Act.eval ⟨tmps,defers⟩) o).run P w= .ok (.value v) w) (h:lJ P dsts Qp E r S ⟨tmps.setIfInBounds d v,defers⟩ w):lJ P dsts Qp E (.take o r) S ⟨tmps,defers⟩ w:=
 ⟨d,v,hd,⟨hw,hy⟩,h⟩
theorem CL {d f:Nat} {args:Array Value} {r:eP} {tmps:Array Value} {defers:List Deferred} {w:World} {o:Oper} {R:Ending→World→Prop} (hd:o.dst=some d) (hw:bw o dsts tmps=true)
  (he:(execOp (Act.eval ⟨tmps,defers⟩) o).run P w= .ok (.enter f args) w) (hc:Calls P f args w R)
  (h:∀e w',R e w'→(∃v,e= .returned v∧∃S':World→Prop,(∀w,S' w→S w)∧S' w'∧co P dsts E r S' ⟨tmps.setIfInBounds d v,defers⟩ w')∨(∃c,e= .panicked c∧Qp c ⟨tmps,defers⟩ w')):
  lJ P dsts Qp E (.step o r) S ⟨tmps,defers⟩ w:=
 ⟨hw,d,hd,f,args,he,Calls.mono hc h⟩
end
end
theorem nc {P:Program} {fn:Func} {t1 t2:Array Value} {R:Ending→World→Prop} (h:results fn t1=results fn t2):∀(ds:List Deferred) (u:FrameMode) (w:World),Leaves P fn t1 R ds u w→Leaves P fn t2 R ds u w
 |[],.returning,w,hl=>by unfold Leaves at hl⊢;rw [←h];exact hl
 |[],.panicking c,w,hl=>by unfold Leaves at hl⊢;exact hl
 |[],.run,w,hl=>by unfold Leaves at hl;exact hl.elim
 |d::ds,u,w,hl=>by
  unfold Leaves at hl⊢
  obtain ⟨hu,fv,cap,f,args,h1,h2,hc⟩:=hl
  refine ⟨hu,fv,cap,f,args,h1,h2,hc.mono ?_⟩
  intro e u' w' hr
  cases e with
  |returned v=>exact nc h ds _ _ hr
  |panicked c=>exact nc h ds _ _ hr
  |outgrown=>exact hr
end Go.Proofs.YthhijgcfbjcgiaaGreatDoor
