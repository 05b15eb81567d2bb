/- PlanIn -/
import Derived.Test.YthhijgcfbjcgiaaGreatDoorS05
import Derived.OrdersIn
import Derived.RangeFuncCalls
namespace Go.Proofs.YthhijgcfbjcgiaaGreatDoor
open Go Go.RowKit
open Bool renaming and_eq_true→zAA
theorem Ce {lp n:Nat} {P:Program} {o:Oper} {a:Act} {w:World} {K:Act→World→Prop} {Q:Exit→Act→World→Prop} (hnd:∀c,o.op≠ .defer c) (h:o.wp P a w K Q):o.wpIn (Fence.wide.inRound lp) n P a w K Q:=by
 unfold Oper.wpIn
 refine ⟨fun _ _=>trivial,?_⟩
 rw [Oper.semAt_eq _ _ _ hnd]
 unfold Oper.wp at h
 generalize (execOp a.eval o).run P w=r at h
 have hdp:¬((Fence.wide.inRound lp).depth.isSome=true):=by simp [Fence.wide,Fence.inRound]
 cases r with
 |ok x w'=>
  cases x with
  |value v=>exact h
  |skip=>exact h
  |defer d=>exact h
  |enter f args=>exact ⟨fun e=>absurd e hdp,CallsIn.inRound lp (callsIn_wide.2 h)⟩
  |row row args=>
   refine ⟨fun e=>absurd e hdp,fun c cs _=>?_⟩
   obtain ⟨v,w2,hr,hs⟩:=h c cs
   exact ⟨v,w2,hr,stepsIn_wide.2 hs⟩
  |_=>exact h.elim
 |halt b w'=>
  cases b with
  |panic v=>exact h
  |_=>exact h.elim
theorem ka {lp n:Nat} {P:Program} {ops:Array Oper} {Q:Exit→Act→World→Prop} {md:Region.Mode} (hnd:∀(i:Nat) (o:Oper),ops[i]? =some o→∀c,o.op≠ .defer c) (hLO:¬LetsOut Q):
  ∀(fuel:Nat) (listed:Array Bool) (a:Act) (w:World),wpAny P md ops Q fuel listed a w→wpAnyIn (Fence.wide.inRound lp) n P md ops Q fuel listed a w
 |0,_,_,_,h=>h
 |fuel+1,listed,a,w,h=>⟨h.1,fun i hi=>by
   have h2:=h.2 i hi
   unfold wpOp at h2
   unfold wpOpIn
   cases ho:ops[i]? with
   |none=>rw [ho] at h2;exact ka hnd hLO fuel _ _ _ h2
   |some o=>
    rw [ho] at h2
    simp only at h2⊢
    split
    ·rename_i hw
     rw [if_pos hw] at h2
     rcases h2 with h2|h2
     ·exact Oper.wpIn_mono (fun a w h=>ka hnd hLO fuel _ a w h) (Ce (hnd i o ho) h2)
     ·exact absurd h2.2 hLO
    ·rename_i hw
     rw [if_neg hw] at h2
     exact ⟨fun _ _=>trivial,ka hnd hLO fuel _ _ _ h2⟩⟩
def nA (ops:Array Oper):Bool:=ops.all fun o=>match o.op with| .defer _=>false|_=>true
theorem xu {ops:Array Oper} (h:nA ops=true):∀(i:Nat) (o:Oper),ops[i]? =some o→∀c,o.op≠ .defer c:=by
 intro i o ho c e
 obtain ⟨hlt,rfl⟩:=Array.getElem?_eq_some_iff.1 ho
 have:=Array.all_eq_true.1 h i hlt
 rw [e] at this
 cases this
def j7 (Q:Exit→Act→World→Prop) (e:Exit) (a:Act) (w:World):Prop:=e= .normal∧Q .normal a w
theorem j7.to (Q:Exit→Act→World→Prop):∀e a w,j7 Q e a w→Q e a w:=fun _ _ _ h=>h.1▸h.2
theorem yr {P:Program} {ops:Array Oper} {Q:Exit→Act→World→Prop} (S:World→Prop) (m:Nat) (plan:aR) {a:Act} {w:World} {l:eP} {dsts:List (Option Tmp)}
  (hok:(dv ops m plan&&nA ops)=true) (hl:plan.out ops=l) (hds:ops.toList.map (·.dst)=dsts)
  (hS:S w) (h:∀E:Act→World→Prop,(∀a w,wpList P ops (j7 Q) (ops.toList.drop m) a w→E a w)→co P dsts E l S a w):wpAny P .any ops (j7 Q) ops.size (Array.replicate ops.size false) a w:=by
 subst hl hds
 simp only [dv,zAA,decide_eq_true_eq,beq_iff_eq] at hok
 obtain ⟨⟨⟨⟨⟨hsel,hm⟩,hl⟩,hok⟩,hbl⟩,hnd⟩:=hok
 have hcl:fD ops (Array.replicate ops.size false):=fun j o ho hl=>by
  have hlt:=(Array.getElem?_eq_some_iff.1 ho).1
  simp [hlt] at hl
 have:=fV (Q:=j7 Q) hsel (fun c a d v w h=>(by cases h.1)) hm plan S _ a w hok hcl hS (fQ (E:=wpList P ops (j7 Q) (ops.toList.drop m)) (fun _ _ h=>h) plan S a _ hbl (h _ fun _ _ h=>h))
 rw [show plan.len+(ops.size - m)=ops.size by omega] at this
 exact jC _ _ _ _ this
theorem fm {lp n:Nat} {P:Program} {ops:Array Oper} {Q:Exit→Act→World→Prop} (S:World→Prop) (m:Nat) (plan:aR) {id:Nat} {a:Act} {w:World} {l:eP} {dsts:List (Option Tmp)} (hmx:P.follows .mixedOrders=true)
  (hok:(dv ops m plan&&nA ops)=true) (hl:plan.out ops=l) (hds:ops.toList.map (·.dst)=dsts)
  (hS:S w.drew) (h:∀E:Act→World→Prop,(∀a w,wpList P ops (j7 Q) (ops.toList.drop m) a w→E a w)→co P dsts E l S a w.drew):(Code.region id ops true).wpIn (Fence.wide.inRound lp) n P Q a w:=by
 have hnd:nA ops=true:=by simp only [zAA] at hok;exact hok.2
 have:=yr S m plan hok hl hds hS h
 exact wpIn_mono (wpIn_region_any hmx (ka (xu hnd) (fun ⟨_,_,h⟩=>by cases h.1) _ _ _ _ this)) (j7.to Q)
theorem ai {P:Program} {ops:Array Oper} {Q:Exit→Act→World→Prop} (S:World→Prop) (m:Nat) (plan:aR) {id:Nat} {a:Act} {w:World} {l:eP} {dsts:List (Option Tmp)} (hmx:P.follows .mixedOrders=true)
  (hok:(dv ops m plan&&nA ops)=true) (hl:plan.out ops=l) (hds:ops.toList.map (·.dst)=dsts)
  (hS:S w.drew) (h:∀E:Act→World→Prop,(∀a w,wpList P ops (j7 Q) (ops.toList.drop m) a w→E a w)→co P dsts E l S a w.drew):(Code.region id ops true).wp P Q a w:=
 wp_mono (wp_region_any hmx (yr S m plan hok hl hds hS h)) (j7.to Q)
end Go.Proofs.YthhijgcfbjcgiaaGreatDoor
