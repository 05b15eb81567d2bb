/- PlanIn -/
import Derived.Test.YthhijgcfbjcgiaaGreatDoorT05
import Derived.OrdersIn
import Derived.RangeFuncCalls
namespace Go.Proofs.YthhijgcfbjcgiaaGreatDoor
open Go Go.RowKit
open Bool renaming and_eq_true→O
theorem Cj {C n:Nat}{P:Program}{o:Oper}{a:Act}{w:World}{K:Act->World->Prop}{Q:Exit->Act->World->Prop}(B:∀c,o.op≠ .defer c) (h:o.wp P a w K Q):o.wpIn (Fence.wide.inRound C) n P a w K Q:=by
 unfold Oper.wpIn;refine⟨λ_ _=>trivial,?_⟩;rw[Oper.semAt_eq _ _ _ B];unfold Oper.wp at h;generalize (execOp a.eval o).run P w=r at h;have j:¬((Fence.wide.inRound C).depth.isSome=true):=by simp[Fence.wide,Fence.inRound]
 cases r with
 |ok x w'=>
  cases x with
  |value v=>exact h
  |skip=>exact h
  |defer d=>exact h
  |enter f args=>exact⟨λe=>absurd e j,CallsIn.inRound C (callsIn_wide.2 h)⟩
  |row row args=>
   refine⟨λe=>absurd e j,λc cs _=>?_⟩;obtain⟨v,I,D,G⟩:=h c cs;exact⟨v,I,D,stepsIn_wide.2 G⟩
  |_=>exact h.elim
 |halt b w'=>
  cases b with
  |panic v=>exact h
  |_=>exact h.elim
theorem kq {T n:Nat}{P:Program}{G:Array Oper}{Q:Exit->Act->World->Prop}{M:Region.Mode}(D:∀(i:Nat)(o:Oper),G[i]? =some o->∀c,o.op≠ .defer c) (C:¬LetsOut Q):
  ∀(j:Nat)(B:Array Bool)(a:Act)(w:World),wpAny P M G Q j B a w->wpAnyIn (Fence.wide.inRound T) n P M G Q j B a w
 |0,_,_,_,h=>h
 |j+1,B,a,w,h=>⟨h.1,λi N=>by
   have h2:=h.2 i N;unfold wpOp at h2;unfold wpOpIn
   cases I:G[i]? with
   |none=>rw[I] at h2;exact kq D C j _ _ _ h2
   |some o=>
    rw[I] at h2;simp only at h2⊢
    split
    ·rename_i K
     rw[if_pos K] at h2;rcases h2 with h2|h2
     ·exact Oper.wpIn_mono (λa w h=>kq D C j _ a w h) (Cj (D i o I) h2)
     ·exact absurd h2.2 C
    ·rename_i K
     rw[if_neg K] at h2;exact⟨λ_ _=>trivial,kq D C j _ _ _ h2⟩⟩
def lR (j:Array Oper):Bool:=j.all λo=>match o.op with| .defer _=>false|_=>true
theorem xC {j:Array Oper}(h:lR j=true):∀(i:Nat)(o:Oper),j[i]? =some o->∀c,o.op≠ .defer c:=by
 intro i o C c e;obtain⟨B,rfl⟩:=Array.getElem?_eq_some_iff.1 C;have:=Array.all_eq_true.1 h i B;rw[e] at this
 cases this
def jp (Q:Exit->Act->World->Prop) (e:Exit) (a:Act) (w:World):Prop:=e= .normal/\Q .normal a w
theorem jp.to (Q:Exit->Act->World->Prop):∀e a w,jp Q e a w->Q e a w:= λ_ _ _ h=>h.1▸h.2
theorem yB {P:Program}{B:Array Oper}{Q:Exit->Act->World->Prop}(S:World->Prop)(m:Nat)(C:bY){a:Act}{w:World}{l:eP}{G:List (Option Tmp)}
  (D:(dd B m C&&lR B)=true) (hl:C.out B=l) (N:B.toList.map (·.dst)=G)
  (hS:S w) (h:∀E:Act->World->Prop,(∀a w,wpList P B (jp Q) (B.toList.drop m) a w->E a w)->cg P G E l S a w):wpAny P .any B (jp Q) B.size (Array.replicate B.size false) a w:=by
 subst hl N;simp only[dd,O,decide_eq_true_eq,beq_iff_eq] at D;obtain⟨⟨⟨⟨⟨I,hm⟩,hl⟩,D⟩,K⟩,av⟩:=D
 have M:fI B (Array.replicate B.size false):= λj o ho hl=>by
  have T:=(Array.getElem?_eq_some_iff.1 ho).1;simp[T] at hl
 have:=gw (Q:=jp Q) I (λc a d v w h=>(by cases h.1)) hm C S _ a w D M hS (fZ (E:=wpList P B (jp Q) (B.toList.drop m)) (λ_ _ h=>h) C S a _ K (h _ λ_ _ h=>h));rw[show C.len+(B.size - m)=B.size by omega] at this;exact jP _ _ _ _ this
theorem fm {N n:Nat}{P:Program}{j:Array Oper}{Q:Exit->Act->World->Prop}(S:World->Prop)(m:Nat)(B:bY){id:Nat}{a:Act}{w:World}{l:eP}{C:List (Option Tmp)}(I:P.follows .mixedOrders=true)
  (D:(dd j m B&&lR j)=true) (hl:B.out j=l) (G:j.toList.map (·.dst)=C)
  (M:S w.drew) (h:∀E:Act->World->Prop,(∀a w,wpList P j (jp Q) (j.toList.drop m) a w->E a w)->cg P C E l S a w.drew):(Code.region id j true).wpIn (Fence.wide.inRound N) n P Q a w:=by
 have K:lR j=true:=by simp only[O] at D;exact D.2
 have:=yB S m B D hl G M h;exact wpIn_mono (wpIn_region_any I (kq (xC K) (λ⟨_,_,h⟩=>by cases h.1) _ _ _ _ this)) (jp.to Q)
theorem sX {P:Program}{j:Array Oper}{Q:Exit->Act->World->Prop}(S:World->Prop)(m:Nat)(B:bY){id:Nat}{a:Act}{w:World}{l:eP}{C:List (Option Tmp)}(G:P.follows .mixedOrders=true)
  (I:(dd j m B&&lR j)=true) (hl:B.out j=l) (D:j.toList.map (·.dst)=C)
  (K:S w.drew) (h:∀E:Act->World->Prop,(∀a w,wpList P j (jp Q) (j.toList.drop m) a w->E a w)->cg P C E l S a w.drew):(Code.region id j true).wp P Q a w:=
 wp_mono (wp_region_any G (yB S m B I hl D K h)) (jp.to Q)
theorem aP {P:Program}{j:Array Oper}{Q:Exit->Act->World->Prop}(S:World->Prop)(m:Nat)(B:bY){id:Nat}{a:Act}{w:World}{l:eP}{C:List (Option Tmp)}
  (K:S w.drew) (h:∀E:Act->World->Prop,(∀a w,wpList P j (jp Q) (j.toList.drop m) a w->E a w)->cg P C E l S a w.drew)
  (G:P.follows .mixedOrders=true:=by kernel_rfl) (I:(dd j m B&&lR j)=true:=by kernel_rfl) (hl:B.out j=l:=by simp only[bY.out,Array.getD_eq_getD_getElem?,List.getElem?_toArray,List.getElem?_cons_zero,List.getElem?_cons_succ,Option.getD_some];rfl) (D:j.toList.map (·.dst)=C:=by simp only[List.map_cons,List.map_nil];rfl):(Code.region id j true).wp P Q a w:=
 sX S m B G I hl D K h
end Go.Proofs.YthhijgcfbjcgiaaGreatDoor
