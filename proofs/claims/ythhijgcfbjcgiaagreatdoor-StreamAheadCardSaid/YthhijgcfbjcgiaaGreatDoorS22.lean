/- TreeW -/
import Derived.Test.YthhijgcfbjcgiaaGreatDoorS14
import Derived.Test.YthhijgcfbjcgiaaGreatDoorS04
namespace Go.Proofs.YthhijgcfbjcgiaaGreatDoor
open Go Go.RowKit
open Bool renaming and_eq_true→zAA,false_eq_true→zAC
open List renaming mem_singleton→zAB
open Nat renaming lt_or_ge→zAD
section
variable {F:Fence} {n:Nat} {P:Program} {ops:Array Oper} {Q:Exit→Act→World→Prop} {S:World→Prop} {m:Nat}
def eM (P:Program) (ops:Array Oper) (S:World→Prop) (o:Oper) (v:Value) (a:Act):Prop:=YieldsIf P ops S o v a∧∀w,o.about P w a.eval=none
theorem eM.wpOpIn {i:Nat} {o:Oper} {v:Value} {a:Act} (hro:F.round=none) (hi:ops[i]? =some o) (hy:eM P ops S o v a)
  {K:Act→World→Prop} {w:World} (hS:S w) (h:K (a.put o.dst v) w):wpOpIn F n P ops Q i K a w:=by
 unfold Go.wpOpIn
 simp only [hi]
 have hab:∀f,o.about P w a.eval=some f→F.fn f:=fun f hf=>by rw [hy.2 w] at hf;cases hf
 rcases hy.1 with ⟨hw,hv⟩|⟨hw,rfl⟩
 ·simp only [hw,if_true,Oper.wpIn,hro,Oper.semAt_none,hv w hS,Oper.uponIn];exact ⟨hab,h⟩
 ·simp only [hw,zAC,if_false];exact ⟨hab,h⟩
theorem eM.of_same {o:Oper} {v:Value} {a a':Act} (hy:eM P ops S o v a) (he:execOp a'.eval o=execOp a.eval o)
  (hw:Region.wanted o (yielded ops a'.tmps)=Region.wanted o (yielded ops a.tmps)) (hb:∀w,o.about P w a'.eval=o.about P w a.eval):eM P ops S o v a':=
 ⟨hy.1.of_same he hw,fun w=>by rw [hb w];exact hy.2 w⟩
theorem yK {j:Nat} {oi oj:Oper} {v:Value} (hro:F.round=none) (hj:ops[j]? =some oj) (hap:oi.apart ops oj=true)
  (hsi:∀cs b,oi.op≠ .select cs b) (hsj:∀cs b,oj.op≠ .select cs b)
  (hQ:∀c a w,Q (.panic c) (a.put oi.dst v) w→Q (.panic c) a w) {K:Act→World→Prop} {a:Act} {w:World}
  (hy:eM P ops S oi v a) (h:wpOpIn F n P ops Q j K (a.put oi.dst v) w):
  wpOpIn F n P ops Q j (fun a' w'=>eM P ops S oi v a'∧K (a'.put oi.dst v) w') a w:=by
 obtain ⟨h1,h2,h3⟩:=Oper.apart_spec hap
 have keep:∀(a:Act),eM P ops S oi v a→∀u,eM P ops S oi v (a.put oj.dst u):=fun a hy u=>
  hy.of_same (execOp_put oi hsi a oj.dst u h3) (wanted_put oi a oj.dst u h3) (fun w=>about_put oi w a oj.dst u h3)
 have keepD:∀d,eM P ops S oi v {a with defers:=d::a.defers}:=fun d=>hy.of_same rfl rfl (fun _=>rfl)
 unfold wpOpIn at*
 simp only [hj] at*
 rw [wanted_put oj a oi.dst v h1,about_put oj w a oi.dst v h1] at h
 split
 ·rename_i hw
  simp only [hw,if_true] at h
  unfold Oper.wpIn at*
  rw [about_put oj w a oi.dst v h1] at h
  refine ⟨h.1,?_⟩
  have h:=h.2
  rw [hro,Oper.semAt_none,execOp_put oj hsj a oi.dst v h1] at h
  rw [hro,Oper.semAt_none]
  generalize (execOp a.eval oj).run P w=r at*
  cases r with
  |ok x w'=>
   cases x<;>simp only [Oper.uponIn] at h⊢
   case value u=>exact ⟨keep a hy u,by rw [←Act.put_comm a v u h2];exact h⟩
   case skip=>exact ⟨keep a hy _,by rw [←Act.put_comm a v undef h2];exact h⟩
   case defer d=>
    refine ⟨keep _ (keepD d) _,?_⟩
    rw [←Act.put_comm _ v undef h2,←Act.put_defers]
    exact h
   case enter f args=>
    refine ⟨h.1,CallsIn.mono h.2 fun e w'' he=>?_⟩
    cases e with
    |returned u=>exact ⟨keep a hy u,by rw [←Act.put_comm a v u h2];exact he⟩
    |panicked c=>exact hQ _ _ _ he
    |outgrown=>exact he
   case row row args=>exact ⟨h.1,RowsIn.mono h.2 fun u w'' he=>⟨keep a hy u,by rw [←Act.put_comm a v u h2];exact he⟩⟩
   case round l f tmps assign body=>
    refine ⟨h.1,RoundIn.mono h.2 fun e w'' he=>?_⟩
    cases e with
    |returned u=>exact ⟨keep a hy u,by rw [←Act.put_comm a v u h2];exact he⟩
    |panicked c=>exact hQ _ _ _ he
    |outgrown=>exact he
  |halt x w'=>
   cases x<;>simp only [Oper.uponIn] at h⊢
   case panic u=>exact hQ _ _ _ h
 ·rename_i hw
  simp only [hw] at h
  exact ⟨h.1,keep a hy _,by rw [←Act.put_comm a v undef h2];exact h.2⟩
def iK (F:Fence) (n:Nat) (P:Program) (ops:Array Oper) (Q:Exit→Act→World→Prop) (S:World→Prop) (m:Nat):Nat→Array Bool→Act→World→Prop
 |0,listed,a,w=>Region.ready .any ops listed=[]∧Q .normal a w
 |fuel+1,listed,a,w=>
  (Region.ready .any ops listed=[]→Q .normal a w)∧
  ∀i∈Region.ready .any ops listed,wpOpIn F n P ops Q i (fun a' w'=>(i<m→S w')∧iK F n P ops Q S m fuel (listed.setIfInBounds i true) a' w') a w
theorem q8:∀(fuel:Nat) (listed:Array Bool) (a:Act) (w:World),iK F n P ops Q S m fuel listed a w→wpAnyIn F n P .any ops Q fuel listed a w
 |0,_,_,_,h=>h
 |fuel+1,_,_,_,h=>⟨h.1,fun i hi=>wpOpIn_mono (fun a' w' h'=>q8 fuel _ a' w' h'.2) (h.2 i hi)⟩
theorem vU (hro:F.round=none) {i:Nat} {oi:Oper} {v:Value} (hi:ops[i]? =some oi) (him:i<m) (hsel:∀(j:Nat) (o:Oper) cs b,ops[j]? =some o→o.op≠ .select cs b)
  (hQ:∀c a w,Q (.panic c) (a.put oi.dst v) w→Q (.panic c) a w) (hre:∀j,m≤j→j<ops.size→mN ops ops.size j i=true):
  ∀(fuel:Nat) (listed:Array Bool) (a:Act) (w:World),fD ops listed→
   (∀j oj,ops[j]? =some oj→j≠i→listed.getD j true=false→(∀e∈oj.after,Region.binds .any e=true→e.on≠i)→oi.apart ops oj=true)→
   i∈Region.ready .any ops listed→eM P ops S oi v a→S w→
   iK F n P ops Q S m fuel (listed.setIfInBounds i true) (a.put oi.dst v) w→iK F n P ops Q S m (fuel+1) listed a w:=by
 intro fuel
 induction fuel with
 |zero=>
  intro listed a w _ _ hr hy hS H
  refine ⟨fun h=>(by rw [h] at hr;cases hr),fun j hj=>?_⟩
  by_cases hji:j=i
  ·subst hji;exact hy.wpOpIn hro hi hS ⟨fun _=>hS,H⟩
  ·have:=ready_mono hj hji
   rw [H.1] at this
   cases this
 |succ fuel ih=>
  intro listed a w hcl hfree hr hy hS H
  refine ⟨fun h=>(by rw [h] at hr;cases hr),fun j hj=>?_⟩
  by_cases hji:j=i
  ·subst hji;exact hy.wpOpIn hro hi hS ⟨fun _=>hS,H⟩
  ·have h1:=H.2 j (ready_mono hj hji)
   obtain ⟨hjun,oj,hoj,hall⟩:=mem_ready.1 hj
   have hun:¬listed.getD i false=true:=fun h1=>by
    have h0:=(mem_ready.1 hr).1
    rcases zAD i listed.size with h'|h'
    ·simp [h'] at h0 h1;rw [h0] at h1;cases h1
    ·simp [Array.getElem?_eq_none h'] at h1
   have hnot:∀e∈oj.after,Region.binds .any e=true→e.on≠i:=fun e he hb heq=>hun (heq▸hall e he hb)
   have hjm:j<m:=by
    rcases zAD j m with h'|h'
    ·exact h'
    ·refine absurd (pN hcl ops.size j i (fun o ho e he hb=>?_) (hre j h' (Array.getElem?_eq_some_iff.1 hoj).1)) hun
     rw [hoj] at ho;cases ho;exact hall e he hb
   have h2:=yK hro hoj (hfree j oj hoj hji hjun hnot) (fun cs b=>hsel i oi cs b hi) (fun cs b=>hsel j oj cs b hoj) hQ hy h1
   have hfree':∀k ok,ops[k]? =some ok→k≠i→(listed.setIfInBounds j true).getD k true=false→
     (∀e∈ok.after,Region.binds .any e=true→e.on≠i)→oi.apart ops ok=true:=fun k ok hk hki hun hno=>by
    refine hfree k ok hk hki ?_ hno
    by_cases hjk:j=k
    ·subst hjk;exact hjun
    ·rw [getD_set_ne true hjk] at hun;exact hun
   refine wpOpIn_mono (fun a' w' h3=>⟨h3.2.1,ih (listed.setIfInBounds j true) a' w' (cD hcl hj) hfree' (ready_mono hr (Ne.symm hji)) h3.1 (h3.2.1 hjm) ?_⟩) h2
   rw [Array.setIfInBounds_comm _ _ hji]
   exact h3.2.2
theorem mz:∀(c k:Nat) (listed:Array Bool) (a:Act) (w:World),jo ops c k listed=true→k+c=ops.size→m≤k→
  wpListIn F n P ops Q (ops.toList.drop k) a w→iK F n P ops Q S m c listed a w
 |0,k,listed,a,w,hf,hk,_,h=>by
  have hd:ops.toList.drop k=[]:=List.drop_eq_nil_of_le (by simp;omega)
  rw [hd] at h
  exact ⟨by simpa [jo] using hf,h⟩
 |c+1,k,listed,a,w,hf,hk,hm,h=>by
  simp only [jo,zAA,beq_iff_eq] at hf
  obtain ⟨hr,hf⟩:=hf
  refine ⟨fun h0=>(by rw [hr] at h0;cases h0),fun i hi=>?_⟩
  rw [hr,zAB] at hi
  subst hi
  have hlt:i<ops.toList.length:=by simp;omega
  rw [List.drop_eq_getElem_cons hlt] at h
  have ho:ops[i]? =some ops.toList[i]:=by simp
  unfold wpOpIn
  rw [ho]
  simp only [wpListIn] at h
  have hmono:∀a' w',wpListIn F n P ops Q (ops.toList.drop (i+1)) a' w'→((i<m→S w')∧iK F n P ops Q S m c (listed.setIfInBounds i true) a' w'):=
   fun a' w' h'=>⟨fun h=>absurd h (by omega),mz c (i+1) _ a' w' hf (by omega) (by omega) h'⟩
  split at h
  ·rename_i hw
   simp only [hw,if_true]
   exact Oper.wpIn_mono hmono h
  ·rename_i hw
   simp only [hw]
   exact ⟨h.1,hmono _ _ h.2⟩
theorem kV {S S':World→Prop} (hS:∀w,S' w→S w):∀(fuel:Nat) (listed:Array Bool) (a:Act) (w:World),iK F n P ops Q S' m fuel listed a w→iK F n P ops Q S m fuel listed a w
 |0,_,_,_,h=>h
 |fuel+1,_,_,_,h=>⟨h.1,fun i hi=>wpOpIn_mono (fun a' w' h'=>⟨fun hm=>hS _ (h'.1 hm),kV hS fuel _ a' w' h'.2⟩) (h.2 i hi)⟩
def lK (F:Fence) (n:Nat) (P:Program) (ops:Array Oper) (Q:Exit→Act→World→Prop) (m:Nat):aR→(World→Prop)→Act→World→Prop
 | .done,_,a,w=>wpListIn F n P ops Q (ops.toList.drop m) a w
 | .take i r,S,a,w=>∃o v,ops[i]? =some o∧eM P ops S o v a∧lK F n P ops Q m r S (a.put o.dst v) w
 | .step i r,S,a,w=>wpOpIn F n P ops Q i (fun a' w'=>∃S':World→Prop,(∀w,S' w→S w)∧S' w'∧lK F n P ops Q m r S' a' w') a w
 | .fork i r j q,S,a,w=>wpOpIn F n P ops Q i (fun a' w'=>∃S':World→Prop,(∀w,S' w→S w)∧S' w'∧lK F n P ops Q m r S' a' w') a w∧
   wpOpIn F n P ops Q j (fun a' w'=>∃S':World→Prop,(∀w,S' w→S w)∧S' w'∧lK F n P ops Q m q S' a' w') a w
theorem gM (hro:F.round=none) (hsel:Region.noSelect ops=true) (hQ:∀c a d v w,Q (.panic c) (Act.put a d v) w→Q (.panic c) a w) (hm:m≤ops.size):
  ∀(plan:aR) (S:World→Prop) (listed:Array Bool) (a:Act) (w:World),eF ops m plan listed=true→fD ops listed→S w→
   lK F n P ops Q m plan S a w→iK F n P ops Q S m (plan.len+(ops.size - m)) listed a w
 | .done,S,listed,a,w,hok,_,_,h=>by
  rw [aR.len,Nat.zero_add]
  exact mz (ops.size - m) m listed a w hok (by omega) (Nat.le_refl _) h
 | .take i r,S,listed,a,w,hok,hcl,hS,h=>by
  simp only [eF,zAA,decide_eq_true_eq] at hok
  obtain ⟨⟨⟨⟨him,hf⟩,hr⟩,hre⟩,hok⟩:=hok
  obtain ⟨o,v,ho,hy,h⟩:=h
  have hr':i∈Region.ready .any ops listed:=by simpa using hr
  rw [show (aR.take i r).len+(ops.size - m)=(r.len+(ops.size - m))+1 by simp [aR.len];omega]
  refine vU hro ho him (Region.noSelect_spec hsel) (fun c a w=>hQ c a _ _ w) (fun j hj hjs=>?_) _ listed a w hcl (Region.free_spec ho hf) hr' hy hS (gM hro hsel hQ hm r S _ _ _ hok (cD hcl hr') hS h)
  have:=List.all_eq_true.1 hre j (List.mem_range.2 hjs)
  simp only [Bool.or_eq_true,decide_eq_true_eq] at this
  exact this.resolve_left (by omega)
 | .step i r,S,listed,a,w,hok,hcl,hS,h=>by
  simp only [eF,zAA,decide_eq_true_eq,beq_iff_eq] at hok
  obtain ⟨⟨_,hr⟩,hok⟩:=hok
  rw [show (aR.step i r).len+(ops.size - m)=(r.len+(ops.size - m))+1 by simp [aR.len];omega]
  refine ⟨fun h0=>(by rw [hr] at h0;cases h0),fun j hj=>?_⟩
  have hj':=hj
  rw [hr,zAB] at hj
  subst hj
  exact wpOpIn_mono (fun a' w' ⟨S',h1,h2,h3⟩=>⟨fun _=>h1 _ h2,kV h1 _ _ _ _ (gM hro hsel hQ hm r S' _ _ _ hok (cD hcl hj') h2 h3)⟩) h
 | .fork i r k q,S,listed,a,w,hok,hcl,hS,h=>by
  simp only [eF,zAA,decide_eq_true_eq,beq_iff_eq] at hok
  obtain ⟨⟨⟨⟨⟨_,_⟩,hlen⟩,hr⟩,hok1⟩,hok2⟩:=hok
  rw [show (aR.fork i r k q).len+(ops.size - m)=(r.len+(ops.size - m))+1 by simp [aR.len];omega]
  refine ⟨fun h0=>(by rw [hr] at h0;cases h0),fun j hj=>?_⟩
  have hj':=hj
  rw [hr] at hj
  rcases List.mem_cons.1 hj with rfl|hj
  ·exact wpOpIn_mono (fun a' w' ⟨S',h1,h2,h3⟩=>⟨fun _=>h1 _ h2,kV h1 _ _ _ _ (gM hro hsel hQ hm r S' _ _ _ hok1 (cD hcl hj') h2 h3)⟩) h.1
  ·rw [zAB] at hj
   subst hj
   rw [hlen]
   exact wpOpIn_mono (fun a' w' ⟨S',h1,h2,h3⟩=>⟨fun _=>h1 _ h2,kV h1 _ _ _ _ (gM hro hsel hQ hm q S' _ _ _ hok2 (cD hcl hj') h2 h3)⟩) h.2
def da (F:Fence) (n:Nat) (P:Program) (Q:Exit→Act→World→Prop) (dsts:List (Option Tmp)) (E:Act→World→Prop):eP→(World→Prop)→Act→World→Prop
 | .done,_,a,w=>E a w
 | .take o r,S,a,w=>∃d v,o.dst=some d∧((bw o dsts a.tmps=true∧∀w,S w→(execOp a.eval o).run P w= .ok (.value v) w)∨(bw o dsts a.tmps=false∧v=undef))∧(∀w,o.about P w a.eval=none)∧da F n P Q dsts E r S ⟨a.tmps.setIfInBounds d v,a.defers⟩ w
 | .step o r,S,a,w=>(bw o dsts a.tmps=true∧o.wpIn F n P a w (fun a' w'=>∃S':World→Prop,(∀w,S' w→S w)∧S' w'∧da F n P Q dsts E r S' a' w') Q)∨(bw o dsts a.tmps=false∧(∀f,o.about P w a.eval=some f→F.fn f)∧∃S':World→Prop,(∀w,S' w→S w)∧S' w∧da F n P Q dsts E r S' (a.put o.dst undef) w)
 | .fork o r p q,S,a,w=>(bw o dsts a.tmps=true∧o.wpIn F n P a w (fun a' w'=>∃S':World→Prop,(∀w,S' w→S w)∧S' w'∧da F n P Q dsts E r S' a' w') Q)∧(bw p dsts a.tmps=true∧p.wpIn F n P a w (fun a' w'=>∃S':World→Prop,(∀w,S' w→S w)∧S' w'∧da F n P Q dsts E q S' a' w') Q)
theorem pX {i:Nat} (hi:i<ops.size) {E K:Act→World→Prop} (hEF:∀a w,E a w→K a w) {a:Act} {w:World} (h:bw (ops.getD i default) (ops.toList.map (·.dst)) a.tmps=true∧(ops.getD i default).wpIn F n P a w E Q):wpOpIn F n P ops Q i K a w:=by
 obtain ⟨hw,h⟩:=h
 have ho:ops[i]? =some (ops.getD i default):=by simp [Array.getD,hi]
 unfold wpOpIn
 simp only [ho]
 rw [←ew] at hw
 simp only [hw,if_true]
 exact Oper.wpIn_mono hEF h
theorem gq {E:Act→World→Prop} (hE:∀a w,E a w→wpListIn F n P ops Q (ops.toList.drop m) a w):∀(plan:aR) (S:World→Prop) (a:Act) (w:World),plan.inside ops.size=true→
  da F n P Q (ops.toList.map (·.dst)) E (plan.out ops) S a w→lK F n P ops Q m plan S a w
 | .done,S,a,w,_,h=>hE _ _ h
 | .take i r,S,a,w,hb,h=>by
  simp only [aR.inside,zAA,decide_eq_true_eq] at hb
  obtain ⟨d,v,hd,hy,hab,h⟩:=h
  have ho:ops[i]? =some (ops.getD i default):=by simp [Array.getD,hb.1]
  refine ⟨_,v,ho,⟨?_,hab⟩,?_⟩
  ·rw [←ew] at hy;exact hy
  ·simp only [Act.put,hd]
   exact gq hE r S _ _ hb.2 h
 | .step i r,S,a,w,hb,h=>by
  simp only [aR.inside,zAA,decide_eq_true_eq] at hb
  rcases h with h|⟨hw,hab,S',h1,h2,h3⟩
  ·exact pX hb.1 (fun a w ⟨S',h1,h2,h3⟩=>⟨S',h1,h2,gq hE r S' _ _ hb.2 h3⟩) h
  ·have ho:ops[i]? =some (ops.getD i default):=by simp [Array.getD,hb.1]
   show wpOpIn F n P ops Q i _ a w
   unfold wpOpIn
   simp only [ho]
   rw [←ew] at hw
   simp only [hw,zAC,if_false]
   exact ⟨hab,S',h1,h2,gq hE r S' _ _ hb.2 h3⟩
 | .fork i r j q,S,a,w,hb,h=>by
  simp only [aR.inside,zAA,decide_eq_true_eq] at hb
  exact ⟨pX hb.1.1.1 (fun a w ⟨S',h1,h2,h3⟩=>⟨S',h1,h2,gq hE r S' _ _ hb.1.1.2 h3⟩) h.1,pX hb.1.2 (fun a w ⟨S',h1,h2,h3⟩=>⟨S',h1,h2,gq hE q S' _ _ hb.2 h3⟩) h.2⟩
theorem kS (S:World→Prop) (m:Nat) (plan:aR) {id:Nat} {a:Act} {w:World} {l:eP} {dsts:List (Option Tmp)} (hro:F.round=none) (hmx:P.follows .mixedOrders=true) (hok:dv ops m plan=true)
  (hQ:∀c a d v w,Q (.panic c) (Act.put a d v) w→Q (.panic c) a w) (hl:plan.out ops=l) (hds:ops.toList.map (·.dst)=dsts)
  (hS:S w.drew) (h:∀E:Act→World→Prop,(∀a w,wpListIn F n P ops Q (ops.toList.drop m) a w→E a w)→da F n P Q dsts E l S a w.drew):(Code.region id ops true).wpIn F n P Q a w:=by
 subst hl hds
 simp only [dv,zAA,decide_eq_true_eq,beq_iff_eq] at hok
 obtain ⟨⟨⟨⟨hsel,hm⟩,hl⟩,hok⟩,hbl⟩:=hok
 have hcl:fD ops (Array.replicate ops.size false):=fun j o ho hl=>by
  have hlt:=(Array.getElem?_eq_some_iff.1 ho).1
  simp [hlt] at hl
 have:=gM (F:=F) (n:=n) hro hsel hQ hm plan S _ a w.drew hok hcl hS (gq (E:=wpListIn F n P ops Q (ops.toList.drop m)) (fun _ _ h=>h) plan S a _ hbl (h _ fun _ _ h=>h))
 rw [show plan.len+(ops.size - m)=ops.size by omega] at this
 exact wpIn_region_any hmx (q8 _ _ _ _ this)
end
section
variable {n:Nat} {P:Program} {Q:Exit→Act→World→Prop} {dsts:List (Option Tmp)} {E:Act→World→Prop} {S:World→Prop} {r:eP} {tmps:Array Value} {defers:List Deferred} {w w':World} {o:Oper} {d:Nat}
theorem fH {v:Value} (hd:o.dst=some d) (hw:bw o dsts tmps=true) (hy:∀w,S w→(execOp (Act.eval ⟨tmps,defers⟩) o).run P w= .ok (.value v) w) (hab:∀w,o.about P w (Act.eval ⟨tmps,defers⟩)=none)
  (h:da Fence.wide n P Q dsts E r S ⟨tmps.setIfInBounds d v,defers⟩ w):da Fence.wide n P Q dsts E (.take o r) S ⟨tmps,defers⟩ w:=⟨d,v,hd,.inl ⟨hw,hy⟩,hab,h⟩
theorem lB (hd:o.dst=some d) (hw:bw o dsts tmps=false) (hab:∀w,o.about P w (Act.eval ⟨tmps,defers⟩)=none)
  (h:da Fence.wide n P Q dsts E r S ⟨tmps.setIfInBounds d undef,defers⟩ w):da Fence.wide n P Q dsts E (.take o r) S ⟨tmps,defers⟩ w:=⟨d,undef,hd,.inr ⟨hw,rfl⟩,hab,h⟩
theorem lA {f:Nat} {args:Array Value} {R:Ending→World→Prop} (hd:o.dst=some d) (hw:bw o dsts tmps=true) (he:(execOp (Act.eval ⟨tmps,defers⟩) o).run P w= .ok (.enter f args) w) (hc:Calls P f args w R)
  (h:∀e w',R e w'→∃v,e= .returned v∧∃S':World→Prop,(∀w,S' w→S w)∧S' w'∧da Fence.wide n P Q dsts E r S' ⟨tmps.setIfInBounds d v,defers⟩ w'):
  da Fence.wide n P Q dsts E (.step o r) S ⟨tmps,defers⟩ w:=by
 refine .inl ⟨hw,fun _ _=>trivial,?_⟩
 show Oper.uponIn Fence.wide n P o _ _ Q ((execOp _ o).run P w)
 rw [he]
 refine ⟨fun e=>absurd e (by simp [Fence.wide]),callsIn_wide.2 (Calls.mono hc fun e w' hr=>?_)⟩
 obtain ⟨v,rfl,h⟩:=h e w' hr
 simp only [Act.put,hd]
 exact h
theorem zF {l fn:Nat} {ts:Array Value} {assign body:Code} {R:Ending→World→Prop} (hd:o.dst=some d) (hw:bw o dsts tmps=true) (he:(execOp (Act.eval ⟨tmps,defers⟩) o).run P w= .ok (.round l fn ts assign body) w) (hc:RoundIn Fence.wide (n - 1) P l fn ts assign body w R)
  (h:∀e w',R e w'→∃v,e= .returned v∧∃S':World→Prop,(∀w,S' w→S w)∧S' w'∧da Fence.wide n P Q dsts E r S' ⟨tmps.setIfInBounds d v,defers⟩ w'):
  da Fence.wide n P Q dsts E (.step o r) S ⟨tmps,defers⟩ w:=by
 refine .inl ⟨hw,fun _ _=>trivial,?_⟩
 show Oper.uponIn Fence.wide n P o _ _ Q ((execOp _ o).run P w)
 rw [he]
 refine ⟨fun e=>absurd e (by simp [Fence.wide]),RoundIn.mono hc fun e w' hr=>?_⟩
 obtain ⟨v,rfl,h⟩:=h e w' hr
 simp only [Act.put,hd]
 exact h
theorem jB (hw:bw o dsts tmps=false) (hd:o.dst=some d) (hS:S w) (h:da Fence.wide n P Q dsts E r S ⟨tmps.setIfInBounds d undef,defers⟩ w):da Fence.wide n P Q dsts E (.step o r) S ⟨tmps,defers⟩ w:=
 .inr ⟨hw,fun _ _=>trivial,S,fun _ h=>h,hS,by simpa only [Act.put,hd] using h⟩
end
end Go.Proofs.YthhijgcfbjcgiaaGreatDoor
