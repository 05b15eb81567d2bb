/- Cons, RngG -/
import Derived.Test.YthhijgcfbjcgiaaGreatDoorS04
import Derived.Test.YthhijgcfbjcgiaaGreatDoorS09
namespace Go.Proofs.YthhijgcfbjcgiaaGreatDoor
open Go Go.RowKit
open Go.World renaming putObj_heap_other→zAA,size_alloc→zAE,putObj_heap_same→zAF,alloc_heap_new→zAG
open Nat renaming le_refl→zAB,le_trans→zAD,le_succ→zAH
open List renaming mem_cons_of_mem→zAC,mem_cons→zAI
theorem aD {w:World} {g g':Nat} {t:TypeId} {cs:Array Value} (h:ab w g t cs) (e:g=g'):ab w g' t cs:=e▸h
abbrev aI:=Nat×TypeId×Array Value
def aa (L:List aI) (W:World):Prop:=∀p∈L,ab W p.1 p.2.1 p.2.2
theorem ag (W:World):aa [] W:=fun p h=>by cases h
theorem aa.cons {g:Nat} {t:TypeId} {cs:Array Value} {L:List aI} {W:World} (h:ab W g t cs) (k:aa L W):aa ((g,t,cs)::L) W:=fun p hp=>by
 rcases zAI.1 hp with rfl|hp
 ·exact h
 ·exact k p hp
theorem aa.head {p:aI} {L:List aI} {W:World} (h:aa (p::L) W):ab W p.1 p.2.1 p.2.2:=h p (by simp)
theorem aa.tail {p:aI} {L:List aI} {W:World} (h:aa (p::L) W):aa L W:=fun q hq=>h q (zAC _ hq)
theorem df {W W':World} {row:Option Nat} {g:Nat} {t:TypeId} {cs:Array Value} (h:ab W g t cs) (hg:W.grownBy W' row) (hr:∀r,row=some r→∃o:Obj,W.heap[r]? =some o∧o.isCells=false):ab W' g t cs:=by
 refine h.grown hg (fun e=>?_)
 obtain ⟨o,ho,hc⟩:=hr g e
 unfold ab at h
 rw [h] at ho;cases ho;cases hc
theorem aa.grown {L:List aI} {W W':World} {row:Option Nat} (h:aa L W) (hg:W.grownBy W' row) (hr:∀r,row=some r→∃o:Obj,W.heap[r]? =some o∧o.isCells=false):aa L W':=fun p hp=>df (h p hp) hg hr
theorem aa.below {L:List aI} {W W':World} (h:aa L W) (hb:Below W.heap.size W W'):aa L W':=fun p hp=>(h p hp).below hb (h p hp).lt
theorem aa.alloc {L:List aI} {W:World} (h:aa L W) (o:Obj):aa L (W.alloc o):=h.below ((Below.refl _ _).alloc (zAB _) _)
theorem aa.drew {L:List aI} {W:World} (h:aa L W):aa L W.drew:=h
theorem aa.far {L:List aI} {W:World} (h:aa L W) {p:Addr} (hp:∀q∈L,q.1≠p.block) (u:Value):aa L (W.setCell p u):=fun q hq=>(h q hq).far (hp q hq) u
structure a9 where
 base:Nat
 e:TypeId
 size:Nat
 v:Value
 n:Nat
 xs:List Value
def ap (L:List a9) (W:World):Prop:=∀r∈L,W.ownsRow r.base r.e r.size r.v r.n r.xs
theorem aE (W:World):ap [] W:=fun p h=>by cases h
theorem ap.cons {base size n:Nat} {e:TypeId} {v:Value} {xs:List Value} {L:List a9} {W:World} (h:W.ownsRow base e size v n xs) (k:ap L W):ap (⟨base,e,size,v,n,xs⟩::L) W:=fun p hp=>by
 rcases zAI.1 hp with rfl|hp
 ·exact h
 ·exact k p hp
theorem ap.head {p:a9} {L:List a9} {W:World} (h:ap (p::L) W):W.ownsRow p.base p.e p.size p.v p.n p.xs:=h p (by simp)
theorem ap.tail {p:a9} {L:List a9} {W:World} (h:ap (p::L) W):ap L W:=fun q hq=>h q (zAC _ hq)
theorem lq {W W':World} {row:Option Nat} {base size n:Nat} {e:TypeId} {v:Value} {xs:List Value} (h:W.ownsRow base e size v n xs) (hg:W.grownBy W' row) (hr:∀r,row=some r→∃o:Obj,W.heap[r]? =some o∧o.isCells=false):W'.ownsRow base e size v n xs:=by
 refine h.kept hg ?_
 rcases h.2 with ⟨rfl,_⟩|⟨g,cap,cur,rfl,_,hh,_⟩
 ·exact .inl rfl
 ·refine .inr (fun e2=>?_)
  obtain ⟨o,ho,hc⟩:=hr g e2.symm
  rw [hh] at ho;cases ho;cases hc
theorem ap.grown {L:List a9} {W W':World} {row:Option Nat} (h:ap L W) (hg:W.grownBy W' row) (hr:∀r,row=some r→∃o:Obj,W.heap[r]? =some o∧o.isCells=false):ap L W':=fun p hp=>lq (h p hp) hg hr
theorem jk {w W W':World} {row:Option Nat} {B:Nat} (h:Below B w W) (hg:W.grownBy W' row) (hr:∀r,row=some r→B≤r) (hB:B≤W.heap.size):Below B w W':=
 h.grown hg hB hr
def ay (w:World) (L:List aI) (R:List a9) (W:World):Prop:=Below w.heap.size w W∧aa L W∧ap R W
theorem ay.grown {w W W':World} {L:List aI} {R:List a9} {row:Option Nat} (h:ay w L R W) (hg:W.grownBy W' row) (hr:∀r,row=some r→w.heap.size≤r∧∃o:Obj,W.heap[r]? =some o∧o.isCells=false):ay w L R W':=
 ⟨jk h.1 hg (fun r e=>(hr r e).1) h.1.size,h.2.1.grown hg (fun r e=>(hr r e).2),h.2.2.grown hg (fun r e=>(hr r e).2)⟩
theorem ow {β κ:Type} {B:Nat} {w:World} (hB:w.heap.size≤B) (P:β→κ→Prop) (L:β→κ→List aI) (R:β→κ→List a9):OwnFrom B (fun (s:β) W=>∃k,P s k∧ay w (L s k) (R s k) W):=by
 rintro s W W' row ⟨k,hp,hc⟩ hg hr
 exact ⟨k,hp,hc.grown hg (fun r e=>⟨zAD hB (hr r e).1,(hr r e).2⟩)⟩
def mY (w:World) (L:List aI) (cd:Code) (W:World):Prop:=cd= .ret∧ay w L [] W
theorem ik {β:Type} {B:Nat} {w:World} (hB:w.heap.size≤B) (L:List aI) (cd:Code):OwnFrom B (fun (_:β) W=>mY w L cd W):=by
 rintro s W W' row ⟨hp,hc⟩ hg hr
 exact ⟨hp,hc.grown hg (fun r e=>⟨zAD hB (hr r e).1,(hr r e).2⟩)⟩
theorem cF {L:List aI} {W:World} {D:Nat} {o o':Obj} (h:aa L W) (hD:W.heap[D]? =some o) (hc:o.isCells=false):aa L (W.putObj D o'):=fun p hp=>by
 have h1:=h p hp
 unfold ab at h1⊢
 rw [zAA (fun e=>by rw [e,hD] at h1;cases h1;cases hc)]
 exact h1
theorem cq {w W:World} {B D:Nat} {o:Obj} (h:Below B w W) (hB:B≤D):Below B w (W.putObj D o):=
 h.trans (show Below B W (W.putObj D o) from ⟨rfl,rfl,rfl,by simp,fun k hk=>zAA (by omega)⟩)
theorem il {F:Fence} {n:Nat} {P:Program} {fn:Func} {R:Ending→World→Prop} {tmps:Array Value} {w:World} {v:Value} (hr:(results fn tmps).run P w= .ok v w) (h:R (.returned v) w):bodyPostM F n P fn R .ret ⟨tmps,[]⟩ w:=⟨v,hr,h⟩
theorem ef {F:Fence} {n:Nat} {P:Program} {fn:Func} {R:Ending→World→Prop} {tmps:Array Value} {w:World} {v:Value} {D:Nat} (hK:w.heap[D]? =some (.deferred (some []))) (hr:(results fn tmps).run P (w.putObj D (.deferred none))= .ok v (w.putObj D (.deferred none)))
  (h:R (.returned v) (w.putObj D (.deferred none))):bodyPostM F n P fn R .ret ⟨tmps,[{target:= .collected D,args:= #[]}]⟩ w:=⟨by simp,.inl ⟨_,_,rfl,run_takeDeferred hK,v,hr,h⟩⟩
theorem yY {w W W':World} {L:List aI} {R:List a9} (hc:ay w L R W) (hb:Below W.heap.size W W'):ay w L R W':=
 ⟨hc.1.trans (hb.mono hc.1.size),hc.2.1.below hb,fun r hr=>cG (hc.2.2 r hr) hb (zAB _)⟩
structure cR {β κ:Type} (w:World) (P:β→κ→Prop) (L:β→κ→List aI) (R:β→κ→List a9) (s:β) (W:World):Prop where
 h:∃k,P s k∧ay w (L s k) (R s k) W
theorem bq {β κ:Type} {B:Nat} {w:World} (hB:w.heap.size≤B) (P:β→κ→Prop) (L:β→κ→List aI) (R:β→κ→List a9):OwnFrom B (cR w P L R):=fun s W W' row h hg hr=>⟨ow hB P L R s W W' row h.h hg hr⟩
theorem gC {β κ:Type} {w:World} {P:β→κ→Prop} {L:β→κ→List aI} {R:β→κ→List a9} (s:β) (A B:World) (h:cR w P L R s A) (hb:Below A.heap.size A B):cR w P L R s B:=by
 obtain ⟨⟨k,hp,hc⟩⟩:=h
 exact ⟨⟨k,hp,yY hc hb⟩⟩
theorem fO {B:Nat} {A W:World} (h:Below A.heap.size A W):KeepsFrom B A W:=⟨h.size,fun k _ _ hk _=>(h.block k (Array.getElem?_eq_some_iff.1 hk).1).trans hk⟩
theorem ak {B:Nat} {A W:World} (h:KeepsFrom B A W) (a:Addr) (v:Value):KeepsFrom B A (W.setCell a v):=h.trans ((KeepsOthers.setCell W a v).from B)
theorem ce {B:Nat} {A W:World} (h:KeepsFrom B A W) (o:Obj):KeepsFrom B A (W.alloc o):=h.trans ((KeepsOthers.alloc W o).from B)
theorem fb {B:Nat} {A W:World} (h:KeepsFrom B A W):KeepsFrom B A W.drew:=h.trans ((KeepsOthers.drew W).from B)
theorem ie {B:Nat} {A W W':World} {row:Option Nat} (h:KeepsFrom B A W) (hg:W.grownBy W' row) (hr:∀r,row=some r→∃o:Obj,W.heap[r]? =some o∧o.isCells=true):KeepsFrom B A W':=
 h.trans ⟨hg.size,fun k o _ hk ho=>(hg.block k (Array.getElem?_eq_some_iff.1 hk).1 (fun e=>by obtain ⟨o',h1,h2⟩:=hr k e.symm;rw [hk] at h1;cases h1;rw [ho] at h2;cases h2)).trans hk⟩
theorem bp {β:Type} {B:Nat} (g:Nat) (t:TypeId) (cs:β→Array Value):OwnFrom B (fun (s:β) W=>ab W g t (cs s)):=fun _s _W _W' _row h hg hr=>df h hg (fun r e=>(hr r e).2)
theorem gw {w:World} {base size n:Nat} {e:TypeId} {v:Value} {xs:List Value} (h:w.ownsRow base e size v n xs):∀r,v.ownBlock=some r→∃o:Obj,w.heap[r]? =some o∧o.isCells=true:=by
 rcases h.2 with ⟨rfl,_⟩|⟨g,cap,cur,rfl,_,hh,_⟩
 ·intro r e;cases e
 ·intro r e
  have:r=g:=by simpa [Value.ownBlock] using e.symm
  subst this
  exact ⟨_,hh,rfl⟩
theorem qs {w:World} {base base' size size' n n':Nat} {e e':TypeId} {v v':Value} {xs xs':List Value} (h:w.ownsRow base e size v n xs) (h':w.ownsRow base' e' size' v' n' xs') (hne:e≠e'):v'.ownBlock=none∨v'.ownBlock≠v.ownBlock:=by
 rcases h'.2 with ⟨rfl,_⟩|⟨g,cap,cur,rfl,_,hh,_⟩
 ·exact .inl rfl
 ·refine .inr (fun e2=>?_)
  rcases h.2 with ⟨rfl,_⟩|⟨g2,cap2,cur2,rfl,_,hh2,_⟩
  ·simp [Value.ownBlock] at e2
  ·have:g=g2:=by simpa [Value.ownBlock] using e2
   subst this
   rw [hh] at hh2
   injection hh2 with hh2
   injection hh2 with _ ht
   exact hne ht.symm
theorem nX {w W W':World} {L:List aI} {R:List a9} {base e size n m:Nat} {v v':Value} {xs ys:List Value} (hc:ay w L (⟨base,e,size,v,n,xs⟩::R) W) (hg:W.grownBy W' v.ownBlock) (ho:W'.ownsRow base e size v' m ys)
  (hb:w.heap.size≤base) (hL:∀p∈L,p.2.1≠e∨p.1<base) (hR:∀r∈R,r.e≠e):ay w L (⟨base,e,size,v',m,ys⟩::R) W':=by
 obtain ⟨h1,h2,h3⟩:=hc
 refine ⟨h1.grown hg h1.size (fun r er=>zAD hb (h3.head.lt r er).1),fun p hp=>(h2 p hp).grown hg (by
  rcases hL p hp with hl|hl
  ·exact bg h3.head (h2 p hp) (Ne.symm hl)
  ·intro e2;have:=(h3.head.lt p.1 e2).1;simp at this;omega),ap.cons ho fun r hr=>?_⟩
 exact (h3 r (zAC _ hr)).kept hg (qs h3.head (h3 r (zAC _ hr)) (Ne.symm (hR r hr)))
theorem ao {w W:World} {L:List aI} {R:List a9} (hc:ay w L R W) (o:Obj):ay w L R (W.alloc o):=
 ⟨hc.1.alloc hc.1.size _,hc.2.1.alloc o,fun r hr=>(hc.2.2 r hr).alloc o⟩
theorem bM {w W:World} {L:List aI} {R:List a9} (hc:ay w L R W):ay w L R W.drew:=⟨hc.1.drew,hc.2.1,hc.2.2⟩
theorem bz {w W W':World} {L:List aI} {R:List a9} (hc:ay w L R W) (hb:Below W.heap.size W W'):ay w L R W':=
 ⟨hc.1.trans (hb.mono hc.1.size),hc.2.1.below hb,fun r hr=>cG (hc.2.2 r hr) hb (zAB _)⟩
theorem eV {w W:World} {L:List aI} {R:List a9} {x y:a9} (hc:ay w L (x::y::R) W):ay w L (y::x::R) W:=
 ⟨hc.1,hc.2.1,fun r hr=>hc.2.2 r (by simp at hr⊢;rcases hr with h|h|h;exact .inr (.inl h);exact .inl h;exact .inr (.inr h))⟩
theorem nY (w:World):ay w [] [] w:=⟨Below.refl _ _,ag _,aE _⟩
theorem iR {w W:World} {L:List aI} {R:List a9} (hc:ay w L R W) (base e size:Nat):ay w L (⟨base,e,size,.slice none 0 0,0,[]⟩::R) W:=⟨hc.1,hc.2.1,ap.cons (World.ownsRow_nil _ _ _ _) hc.2.2⟩
theorem iY {w W:World} {L:List aI} {R:List a9} {g:Nat} {t:TypeId} {cs:Array Value} (hc:ay w ((g,t,cs)::L) R W) (hg:w.heap.size≤g) (i:Nat) (u:Value) (hL:∀p∈L,p.1≠g) (hR:∀r∈R,r.e≠t):
  ay w ((g,t,cs.setIfInBounds i u)::L) R (W.setCell ⟨g,i,none⟩ u):=
 ⟨hc.1.setCell (p:=⟨g,i,none⟩) hg u,aa.cons (hc.2.1.head.set_ i u) (hc.2.1.tail.far (p:=⟨g,i,none⟩) hL u),fun r hr=>fc (hc.2.2 r hr) ⟨g,i,none⟩ u (bg (hc.2.2 r hr) hc.2.1.head (hR r hr))⟩
theorem dO {w W:World} {L:List aI} {R:List a9} {g:Nat} {t:TypeId} {cs:Array Value} (hc:ay w L R W) (hb:ab W g t cs):ay w ((g,t,cs)::L) R W:=⟨hc.1,aa.cons hb hc.2.1,hc.2.2⟩
theorem ar {w W:World} {L:List aI} {R:List a9} {p:aI} (hc:ay w (p::L) R W):ay w L R W:=⟨hc.1,hc.2.1.tail,hc.2.2⟩
theorem ia {w W:World} {L:List aI} {R:List a9} {D:Nat} {o o':Obj} (hc:ay w L R W) (hD:W.heap[D]? =some o) (ho:o.isCells=false) (hw:w.heap.size≤D):ay w L R (W.putObj D o'):=
 hc.grown (row:=some D) (grownBy_putObj' W D o') (fun r e=>by cases e;exact ⟨hw,o,hD,ho⟩)
theorem iV {P:Program} {ops:Array Oper} {Q:Exit→Act→World→Prop} {rest:List Oper} {o:Oper} {a:Act} {t e size bytes:Nat} (et:eG P t e size bytes) (hgd:o.guard=none) {s x:Operand}
  (ho:o.op= .call {callee:= .builtin .append,args:= #[s,x],argTypes:= #[t,t]}) {w W:World} {L:List aI} {R:List a9} {base n:Nat} (m:Nat) {c:Nat} {v:Value} {xs:List Value} (news:List Value) (hs:a.eval s=v) (hc:ay w L (⟨base,e,size,v,n,xs⟩::R) W)
  (hx:a.eval x= .slice (some ⟨W.heap.size,0,none⟩) m c) (hl:news.length=m*size) (h1:∀u∈news,u.oneCell'=true) (hb:(n+m)*bytes≤140737488355328) (hbase:w.heap.size≤base∧base≤W.heap.size) (hL:∀p∈L,p.2.1≠e∨p.1<base) (hR:∀r∈R,r.e≠e)
  (h:∀v' W',ay w L (⟨base,e,size,v',n+m,xs++news⟩::R) W'→wpList P ops Q rest (a.put o.dst v') W'):wpList P ops Q (o::rest) a (W.alloc (.cells news.toArray e)):=by
 refine dK et hgd ho hs ((ao hc _).2.2.head) hx hl (by have:=ab.sl (ab.new W e news.toArray) 0;simpa using this) h1 hb (zAD hbase.2 (by rw [zAE];omega)) (fun v' W' h2 h3 _=>h v' W' ?_)
 exact nX (ao hc _) h3 h2 hbase.1 hL hR
theorem kN {F:Fence} {nF:Nat} {P:Program} {ops:Array Oper} {Q:Exit→Act→World→Prop} {rest:List Oper} {o:Oper} {a:Act} {t e size bytes:Nat} (et:eG P t e size bytes) (hgd:o.guard=none) {s x:Operand}
  (ho:o.op= .call {callee:= .builtin .append,args:= #[s,x],argTypes:= #[t,t]}) {w W:World} {L:List aI} {R:List a9} {base n:Nat} (m:Nat) {c:Nat} {v:Value} {xs:List Value} (news:List Value) (hs:a.eval s=v) (hc:ay w L (⟨base,e,size,v,n,xs⟩::R) W)
  (hx:a.eval x= .slice (some ⟨W.heap.size,0,none⟩) m c) (hl:news.length=m*size) (h1:∀u∈news,u.oneCell'=true) (hb:(n+m)*bytes≤140737488355328) (hbase:w.heap.size≤base∧base≤W.heap.size) (hL:∀p∈L,p.2.1≠e∨p.1<base) (hR:∀r∈R,r.e≠e)
  (h:∀v' W',ay w L (⟨base,e,size,v',n+m,xs++news⟩::R) W'→W.grownBy W' v.ownBlock→wpListIn F nF P ops Q rest (a.put o.dst v') W'):wpListIn F nF P ops Q (o::rest) a (W.alloc (.cells news.toArray e)):=by
 obtain ⟨v',w',hrun,h2,h3,h4⟩:=lI et o.type (c:=c) ((ao hc _).2.2.head) hl (by have:=ab.sl (ab.new W e news.toArray) 0;simpa using this) h1 hb (zAD hbase.2 (by rw [zAE];omega))
 refine wpListIn_plain hgd fun K hK'=>?_
 unfold Oper.wpIn
 refine ⟨?_,?_⟩
 ·simp [Oper.about,ho,resolve,Target.leads,Sem.run_pure]
 ·rw [Oper.semAt_plain F _ _ (by rw [ho];intro c hc';cases hc')]
  simp [execOp,ho,resolve,invoke,builtin,hs,hx,hrun,Result.andThen]
  exact hK' _ _ (h v' w' (nX (ao hc _) h3 h2 hbase.1 hL hR) ⟨h3.os,h3.tape,h3.output,by have:=h3.size;simp at this;omega,fun k hk hn=>(h3.block k (by simp;omega) hn).trans (Below.heap_alloc W _ k hk)⟩)
structure bO (B:Nat) (A W:World):Prop where
 keep:∀(k:Nat) (o:Obj),B≤k→A.heap[k]? =some o→o.isCells=true→W.heap[k]? =some o
theorem bO.refl (B:Nat) (A:World):bO B A A:=⟨fun _ _ _ h _=>h⟩
theorem bO.trans {B:Nat} {A W V:World} (h:bO B A W) (k:bO B W V):bO B A V:=⟨fun i o hi ho hc=>k.keep i o hi (h.keep i o hi ho hc) hc⟩
theorem bO.set {B:Nat} {A W:World} (h:bO B A W) (a:Addr) (ha:a.block<B) (v:Value):bO B A (W.setCell a v):=h.trans ⟨fun k o hk ho _=>(Below.heap_setCell W a v k (by omega)).trans ho⟩
theorem bO.below {B:Nat} {A W V:World} (h:bO B A W) (hb:Below W.heap.size W V):bO B A V:=h.trans ⟨fun k _o _ ho _=>(hb.block k (Array.getElem?_eq_some_iff.1 ho).1).trans ho⟩
theorem bO.alloc {B:Nat} {A W:World} (h:bO B A W) (o:Obj):bO B A (W.alloc o):=h.below ((Below.refl _ _).alloc (zAB _) _)
theorem bO.drew {B:Nat} {A W:World} (h:bO B A W):bO B A W.drew:=h.trans ⟨fun _ _ _ h _=>h⟩
theorem bO.put {B:Nat} {A W:World} (h:bO B A W) (D:Nat) (hD:D<B) (o:Obj):bO B A (W.putObj D o):=h.trans ⟨fun k o hk ho _=>(zAA (by omega)).trans ho⟩
theorem bO.grown {B:Nat} {A W V:World} {row:Option Nat} (h:bO B A W) (hg:W.grownBy V row) (hr:∀r,row=some r→r<B):bO B A V:=
 h.trans ⟨fun k o hk ho _=>(hg.block k (Array.getElem?_eq_some_iff.1 ho).1 (fun e=>by have:=hr k e.symm;omega)).trans ho⟩
theorem bO.blk {B g:Nat} {A W:World} {t:TypeId} {cs:Array Value} (h:bO B A W) (hb:ab A g t cs) (hg:B≤g):ab W g t cs:=h.keep g _ hg hb rfl
def ES {α:Type} (F:Fence) (n:Nat) (P:Program) (g:Nat) (lb:Array Value) (enc:α→Array Value) (I I2:List α→World→Prop) (S Sp:List α→Prop):Prop:=
 ∀(l:Nat) (K:World→Prop) (Jx:List α→World→Prop) (W:World),kT K→
  (∀pre x W1,I pre W1→K W1→Sp (pre++[x])→YieldAt F (n - 1) P l (enc x) W1 fun e W'=>(e= .returned (.bool true)∧I2 (pre++[x]) W'∧K W'∧bO W.heap.size W1 W')∨(e= .returned (.bool false)∧Jx (pre++[x]) W'))→
  I [] W→K W→CallsIn F n P g (#[.func (.yield l) #[] #[]]++lb) W fun e W'=>(∃v,e= .returned v)∧((∃xs,S xs∧I xs W'∧K W')∨(∃pre,Sp pre∧Jx pre W'))
theorem J6 {α:Type} {F:Fence} {n:Nat} {P:Program} {g:Operand} {ps:Array Tmp} {assign body:Code} {Q:Exit→Act→World→Prop} {a:Act} {w:World}
  (hro:F.round=none) (h1:1≤n) {gf:Nat} {lb:Array Value} (hg:a.eval g= .func (.func gf) #[] lb) (hFg:F.fn gf) (eg:∀args w,(callFunc gf args).run P w= .ok (.enter gf args) w)
  {enc:α→Array Value} {I I2:List α→World→Prop} {S Sp:List α→Prop} (hseq:ES F (n - 1) P gf lb enc I I2 S Sp) (hps:∀x,(enc x).size=ps.size)
  (Ix:Code→List α→World→Prop) (J:List α→α→Act→World→Prop) (hI:OwnFrom w.heap.size I) (hI2:OwnFrom w.heap.size I2) (hIx:∀c,OwnFrom w.heap.size (Ix c)) (hJ:∀x a',OwnFrom w.heap.size (fun pre W=>J pre x a' W)) (h0:I [] w)
  (hassign:∀(l:Nat) (pre:List α) (x:α) (W:World),I pre W→Sp (pre++[x])→assign.wpIn (F.inRound l) (n - 1 - 1) P (Exit.then (fun a' W'=>J pre x a' W'∧KeepsFrom w.heap.size W W'∧bO (w.heap.size+2) W W') (fun _ _ _=>False)) {tmps:=(ps.zip (enc x)).foldl (fun t (p,v)=>t.setIfInBounds p v) a.tmps,defers:=[]} W)
  (hbody:∀(l:Nat) (pre:List α) (x:α) (a':Act) (W:World),J pre x a' W→Sp (pre++[x])→body.wpIn (F.inRound l) (n - 1 - 1) P (ownPostG w.heap.size (bO (w.heap.size+2)) I2 Ix (pre++[x]) W) a' W)
  (hdone:∀(D:Nat) (xs:List α) (W:World),w.heap.size≤D→S xs→I xs W→W.heap[D]? =some (.deferred (some []))→Q .normal {a with defers:={target:= .collected D,args:= #[]}::a.defers} W)
  (hstop:∀(D:Nat) (c:Code) (pre:List α) (W:World),w.heap.size≤D→Sp pre→Ix c pre W→W.heap[D]? =some (.deferred (some []))→c.wpIn F n P Q {a with defers:={target:= .collected D,args:= #[]}::a.defers} W):
  (Code.rangeFunc g ps assign body).wpIn F n P Q a w:=by
 refine wpIn_rangeFunc fun fn hfn=>?_
 rw [hro]
 let rec':LoopState→Option Code→Loop:=fun st pe=>{state:=st,pending:=pe,fn,tmps:=a.tmps,params:=ps,assign,body,defers:=w.heap.size}
 let W1:World:=(w.alloc (.deferred (some []))).alloc (.loop (rec' .ready none))
 have hsz1:W1.heap.size=w.heap.size+2:=by show ((w.alloc _).alloc _).heap.size=_;simp
 have hL:W1.heap[w.heap.size+1]? =some (.loop (rec' .ready none)):=by
  have:=zAG (w.alloc (.deferred (some []))) (.loop (rec' .ready none));rwa [zAE] at this
 have hD:W1.heap[w.heap.size]? =some (.deferred (some [])):=(Below.heap_alloc _ _ _ (by simp)).trans (zAG w _)
 refine ⟨w.heap.size+1,[{target:= .collected w.heap.size,args:= #[]}],W1,{target:= .fn (.func gf) lb,args:= #[.func (.yield (w.heap.size+1)) #[] #[]]},W1,gf,
  #[.func (.yield (w.heap.size+1)) #[] #[]]++lb,W1,run_enterLoop_outer _ _ _ _ _,?_,?_,?_,fun _=>h1,?_⟩
 ·simp only [resolve,hg];simp [go_sem]
 ·intro f' hf';simp [Target.leads] at hf';subst hf';exact hFg
 ·simp [invoke,go_sem,eg]
 have hput:∀{s:List α} {J:List α→World→Prop} {W:World} {r:Loop} (o:Obj),OwnFrom w.heap.size J→J s W→W.heap[w.heap.size+1]? =some (.loop r)→J s (W.putObj (w.heap.size+1) o):=
  fun o hJ hs hl=>hJ.putObj _ hs (zAH _) hl rfl
 have hother:∀(W:World) (o:Obj),(W.putObj (w.heap.size+1) o).heap[w.heap.size]? =W.heap[w.heap.size]? :=fun W o=>zAA (Nat.ne_of_lt (Nat.lt_succ_self _))
 refine (hseq (w.heap.size+1)
  (fun W=>W.heap[w.heap.size+1]? =some (.loop (rec' .ready none))∧W.heap[w.heap.size]? =some (.deferred (some [])))
  (fun pre W=>∃c,Ix c pre W∧W.heap[w.heap.size+1]? =some (.loop (rec' .done (some c)))∧W.heap[w.heap.size]? =some (.deferred (some [])))
  W1 (fun A B hK hkeep=>⟨hkeep _ _ hK.1 rfl,hkeep _ _ hK.2 rfl⟩) ?_ (hI.alloc _ (hI.alloc _ h0)) ⟨hL,hD⟩).mono ?_
 ·rintro pre x W hi ⟨hl,hk⟩ hsp
  refine ⟨fn,_,assign,body,run_yield (P:=P) (args:=enc x) hl (hps x),roundIn_of_wpIn hfn (wpIn_mono (hassign _ pre x W hi hsp) ?_)⟩
  rintro e a' W' he
  cases e with
  |normal=>?_
  |_=>exact he.elim
  obtain ⟨hj,hkf,hkc⟩:=he
  have hl':=hkf.same _ _ (zAH _) hl rfl
  have hk':=hkf.same _ _ (zAB _) hk rfl
  refine ⟨_,run_beginRound hl' rfl,?_⟩
  have hlt:w.heap.size+1<W'.heap.size:=(Array.getElem?_eq_some_iff.1 hl').1
  have hl2:(W'.putObj (w.heap.size+1) (.loop {rec' .ready none with state:= .busy})).heap[w.heap.size+1]? =some (.loop {rec' .ready none with state:= .busy}):=zAF hlt
  have hk2:=(hother W' (.loop {rec' .ready none with state:= .busy})).trans hk'
  refine wpIn_mono (hbody _ pre x _ _ (hput (J:=fun pre W=>J pre x a' W) _ (hJ x a') hj hl') hsp) ?_
  have fin:∀(jump:Option Code) (W3:World),KeepsFrom w.heap.size (W'.putObj (w.heap.size+1) (.loop {rec' .ready none with state:= .busy})) W3→
    ∃st,st=(if jump.isNone then LoopState.ready else .done)∧(Instr.endRound (w.heap.size+1) jump).run P W3= .ok (.bool jump.isNone) (W3.putObj (w.heap.size+1) (.loop (rec' st jump)))∧
    W3.heap[w.heap.size+1]? =some (.loop {rec' .ready none with state:= .busy})∧
    (W3.putObj (w.heap.size+1) (.loop (rec' st jump))).heap[w.heap.size+1]? =some (.loop (rec' st jump))∧
    (W3.putObj (w.heap.size+1) (.loop (rec' st jump))).heap[w.heap.size]? =some (.deferred (some [])):=fun jump W3 hk3=>by
   have hl3:=hk3.same _ _ (zAH _) hl2 rfl
   exact ⟨_,rfl,run_endRound (P:=P) jump hl3,hl3,zAF (Array.getElem?_eq_some_iff.1 hl3).1,(hother W3 _).trans (hk3.same _ _ (zAB _) hk2 rfl)⟩
  have left:∀(c:Code) (W3:World),KeepsFrom w.heap.size (W'.putObj (w.heap.size+1) (.loop {rec' .ready none with state:= .busy})) W3→Ix c (pre++[x]) W3→
    ∃v w',(Instr.endRound (w.heap.size+1) (some c)).run P W3= .ok v w'∧((Ending.returned v= .returned (.bool true)∧I2 (pre++[x]) w'∧(w'.heap[w.heap.size+1]? =some (.loop (rec' .ready none))∧w'.heap[w.heap.size]? =some (.deferred (some [])))∧bO W1.heap.size W w')∨
     (Ending.returned v= .returned (.bool false)∧∃c,Ix c (pre++[x]) w'∧w'.heap[w.heap.size+1]? =some (.loop (rec' .done (some c)))∧w'.heap[w.heap.size]? =some (.deferred (some [])))):=fun c W3 hk3 hx3=>by
   obtain ⟨st,rfl,hr,hl3,hl4,hk4⟩:=fin (some c) W3 hk3
   exact ⟨_,_,hr,.inr ⟨rfl,c,hput _ (hIx c) hx3 hl3,hl4,hk4⟩⟩
  rintro e a3 W3 hp
  cases e with
  |normal=>
   obtain ⟨hk3,hkp3,hi3⟩:=hp
   obtain ⟨st,rfl,hr,hl3,hl4,hk4⟩:=fin none W3 hk3
   exact ⟨_,_,hr,.inl ⟨rfl,hput _ hI2 hi3 hl3,⟨hl4,hk4⟩,by rw [hsz1];exact (((hkc.put (w.heap.size+1) (by omega) _).trans hkp3).put (w.heap.size+1) (by omega) _)⟩⟩
  |ret=>exact left .ret W3 hp.1 hp.2
  |exit id=>exact left (.exit id) W3 hp.1 hp.2
  |goto t=>exact left (.goto t) W3 hp.1 hp.2
  |panic ch=>exact hp.elim
  |outgrown=>exact hp.elim
 ·rintro e W2 ⟨⟨v,rfl⟩,(⟨xs,hS,hi,hl,hk⟩|⟨pre,hSp,c,hi,hl,hk⟩)⟩
  ·exact ⟨none,_,run_endLoop (P:=P) hl (by simp [rec']),hdone _ xs _ (zAB _) hS (hput _ hI hi hl) ((hother _ _).trans hk)⟩
  ·exact ⟨some c,_,run_endLoop (P:=P) hl (by simp [rec']),hstop _ c pre _ (zAB _) hSp (hput _ (hIx c) hi hl) ((hother _ _).trans hk)⟩
theorem C5 {α:Type} {F:Fence} {n:Nat} {P:Program} {g:Operand} {ps:Array Tmp} {assign body:Code} {Q:Exit→Act→World→Prop} {a:Act} {w:World}
  (hro:F.round=none) (h1:1≤n) {gf:Nat} {lb:Array Value} (hg:a.eval g= .func (.func gf) #[] lb) (hFg:F.fn gf) (eg:∀args w,(callFunc gf args).run P w= .ok (.enter gf args) w)
  {enc:α→Array Value} {I I2:List α→World→Prop} {S Sp:List α→Prop} (hseq:ES F (n - 1) P gf lb enc I I2 S Sp) (hps:∀x,(enc x).size=ps.size)
  (Ix:Code→List α→World→Prop) (J:List α→α→Nat→World→Prop) (hI:OwnFrom w.heap.size I) (hI2:OwnFrom w.heap.size I2) (hIx:∀c,OwnFrom w.heap.size (Ix c)) (hJ:∀x k,OwnFrom w.heap.size (fun pre W=>J pre x k W)) (h0:I [] w)
  (hround:∃A:α→Nat→Act,
   (∀(l:Nat) (pre:List α) (x:α) (W:World),I pre W→Sp (pre++[x])→assign.wpIn (F.inRound l) (n - 1 - 1) P (Exit.then (fun a' W'=>(∃k,a'=A x k∧J pre x k W')∧KeepsFrom w.heap.size W W'∧bO (w.heap.size+2) W W') (fun _ _ _=>False)) {tmps:=(ps.zip (enc x)).foldl (fun t (p,v)=>t.setIfInBounds p v) a.tmps,defers:=[]} W)∧
   (∀(l:Nat) (pre:List α) (x:α) (k:Nat) (W:World),J pre x k W→Sp (pre++[x])→body.wpIn (F.inRound l) (n - 1 - 1) P (ownPostG w.heap.size (bO (w.heap.size+2)) I2 Ix (pre++[x]) W) (A x k) W))
  (hdone:∀(D:Nat) (xs:List α) (W:World),w.heap.size≤D→S xs→I xs W→W.heap[D]? =some (.deferred (some []))→Q .normal {a with defers:={target:= .collected D,args:= #[]}::a.defers} W)
  (hstop:∀(D:Nat) (c:Code) (pre:List α) (W:World),w.heap.size≤D→Sp pre→Ix c pre W→W.heap[D]? =some (.deferred (some []))→c.wpIn F n P Q {a with defers:={target:= .collected D,args:= #[]}::a.defers} W):
  (Code.rangeFunc g ps assign body).wpIn F n P Q a w:=by
 obtain ⟨A,ha,hb⟩:=hround
 refine J6 hro h1 hg hFg eg hseq hps Ix (fun pre x a' W=>∃k,a'=A x k∧J pre x k W) hI hI2 hIx (fun x a' s W W' row hs hgr hr=>?_) h0 ha (fun l pre x a' W hj hsp=>?_) hdone hstop
 ·obtain ⟨k,e,hj⟩:=hs
  exact ⟨k,e,hJ x k s W W' row hj hgr hr⟩
 ·obtain ⟨k,rfl,hj⟩:=hj
  exact hb l pre x k W hj hsp
end Go.Proofs.YthhijgcfbjcgiaaGreatDoor
