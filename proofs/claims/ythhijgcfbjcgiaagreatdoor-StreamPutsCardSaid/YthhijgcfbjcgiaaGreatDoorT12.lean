/- Cons, RngG -/
import Derived.Test.YthhijgcfbjcgiaaGreatDoorT04
import Derived.Test.YthhijgcfbjcgiaaGreatDoorT09
namespace Go.Proofs.YthhijgcfbjcgiaaGreatDoor
open Go Go.RowKit
open Go.World renaming putObj_heap_other→O,size_alloc→X,putObj_heap_same→OA,alloc_heap_new→OB
open Nat renaming le_refl→U,le_trans→Y,le_succ→OC
open List renaming mem_cons_of_mem→Z,mem_cons→OD,length→OG
open Go.Ending renaming returned→V
open Go.Value renaming bool→OE,slice→OF
theorem aE {w:World}{g g':Nat}{t:TypeId}{cs:Array Value}(h:ab w g t cs)(e:g=g'):ab w g' t cs:=e▸h
abbrev aM:=Nat×TypeId×Array Value
def aa (L:List aM) (W:World):Prop:=∀p∈L,ab W p.1 p.2.1 p.2.2
theorem ai (W:World):aa [] W:= λp h=>by cases h
theorem aa.cons {g:Nat}{t:TypeId}{cs:Array Value}{L:List aM}{W:World}(h:ab W g t cs)(k:aa L W):aa ((g,t,cs)::L) W:= λp j=>by
 rcases OD.1 j with rfl|j
 ·exact h
 ·exact k p j
theorem aa.head {p:aM}{L:List aM}{W:World}(h:aa (p::L) W):ab W p.1 p.2.1 p.2.2:=h p (by simp)
theorem aa.tail {p:aM}{L:List aM}{W:World}(h:aa (p::L) W):aa L W:= λq j=>h q (Z _ j)
theorem dk {W j:World}{row:Option Nat}{g:Nat}{t:TypeId}{cs:Array Value}(h:ab W g t cs)(D:W.grownBy j row)(G:∀r,row=some r->∃o:Obj,W.heap[r]? =some o/\o.isCells=false):ab j g t cs:=by
 refine h.grown D (λe=>?_);obtain⟨o,B,C⟩:=G g e;unfold ab at h;rw[h] at B;cases B;cases C
theorem aa.grown {L:List aM}{W j:World}{row:Option Nat}(h:aa L W)(B:W.grownBy j row)(D:∀r,row=some r->∃o:Obj,W.heap[r]? =some o/\o.isCells=false):aa L j:= λp C=>dk (h p C) B D
theorem aa.below {L:List aM}{W j:World}(h:aa L W)(C:Below W.heap.size W j):aa L j:= λp B=>(h p B).below C (h p B).lt
theorem aa.alloc {L:List aM}{W:World}(h:aa L W)(o:Obj):aa L (W.alloc o):=h.below ((Below.refl _ _).alloc (U _) _)
theorem aa.drew {L:List aM}{W:World}(h:aa L W):aa L W.drew:=h
theorem aa.far {L:List aM}{W:World}(h:aa L W){p:Addr}(B:∀q∈L,q.1≠p.block) (u:Value):aa L (W.setCell p u):= λq j=>(h q j).far (B q j) u
structure a9 where
 base:Nat
 e:TypeId
 size:Nat
 v:Value
 n:Nat
 xs:List Value
def ar (L:List a9) (W:World):Prop:=∀r∈L,W.ownsRow r.base r.e r.size r.v r.n r.xs
theorem aF (W:World):ar [] W:= λp h=>by cases h
theorem ar.cons {base size n:Nat}{e:TypeId}{v:Value}{xs:List Value}{L:List a9}{W:World}(h:W.ownsRow base e size v n xs)(k:ar L W):ar (⟨base,e,size,v,n,xs⟩::L) W:= λp j=>by
 rcases OD.1 j with rfl|j
 ·exact h
 ·exact k p j
theorem ar.head {p:a9}{L:List a9}{W:World}(h:ar (p::L) W):W.ownsRow p.base p.e p.size p.v p.n p.xs:=h p (by simp)
theorem ar.tail {p:a9}{L:List a9}{W:World}(h:ar (p::L) W):ar L W:= λq j=>h q (Z _ j)
theorem lF {W j:World}{row:Option Nat}{base size n:Nat}{e:TypeId}{v:Value}{xs:List Value}(h:W.ownsRow base e size v n xs)(K:W.grownBy j row)(N:∀r,row=some r->∃o:Obj,W.heap[r]? =some o/\o.isCells=false):j.ownsRow base e size v n xs:=by
 refine h.kept K ?_;rcases h.2 with⟨rfl,_⟩|⟨g,C,D,rfl,_,M,_⟩
 ·exact .inl rfl
 ·refine .inr (λG=>?_)
  obtain⟨o,B,I⟩:=N g G.symm;rw[M] at B;cases B;cases I
theorem ar.grown {L:List a9}{W j:World}{row:Option Nat}(h:ar L W)(B:W.grownBy j row)(D:∀r,row=some r->∃o:Obj,W.heap[r]? =some o/\o.isCells=false):ar L j:= λp C=>lF (h p C) B D
theorem js {w W j:World}{row:Option Nat}{B:Nat}(h:Below B w W)(D:W.grownBy j row)(G:∀r,row=some r->B<=r) (C:B<=W.heap.size):Below B w j:=
 h.grown D C G
def ay (w:World) (L:List aM) (R:List a9) (W:World):Prop:=Below w.heap.size w W/\aa L W/\ar R W
theorem ay.grown {w W C:World}{L:List aM}{R:List a9}{row:Option Nat}(h:ay w L R W)(j:W.grownBy C row)(B:∀r,row=some r->w.heap.size<=r/\∃o:Obj,W.heap[r]? =some o/\o.isCells=false):ay w L R C:=
 ⟨js h.1 j (λr e=>(B r e).1) h.1.size,h.2.1.grown j (λr e=>(B r e).2),h.2.2.grown j (λr e=>(B r e).2)⟩
theorem om {β κ:Type}{B:Nat}{w:World}(C:w.heap.size<=B)(P:β->κ->Prop)(L:β->κ->List aM)(R:β->κ->List a9):OwnFrom B (λ(s:β) W=>∃k,P s k/\ay w (L s k) (R s k) W):=by
 rintro s W K row ⟨k,I,D⟩ G j;exact⟨k,I,D.grown G (λr e=>⟨Y C (j r e).1,(j r e).2⟩)⟩
def m9 (w:World) (L:List aM) (cd:Code) (W:World):Prop:=cd= .ret/\ay w L [] W
theorem iu {β:Type}{B:Nat}{w:World}(C:w.heap.size<=B)(L:List aM)(cd:Code):OwnFrom B (λ(_:β) W=>m9 w L cd W):=by
 rintro s W K row ⟨I,D⟩ G j;exact⟨I,D.grown G (λr e=>⟨Y C (j r e).1,(j r e).2⟩)⟩
theorem cL {L:List aM}{W:World}{D:Nat}{o o':Obj}(h:aa L W)(B:W.heap[D]? =some o)(C:o.isCells=false):aa L (W.putObj D o'):= λp G=>by
 have j:=h p G;unfold ab at j⊢;rw[O (λe=>by rw[e,B] at j;cases j;cases C)];exact j
theorem cu {w W:World}{B D:Nat}{o:Obj}(h:Below B w W)(j:B<=D):Below B w (W.putObj D o):=
 h.trans (show Below B W (W.putObj D o) from⟨rfl,rfl,rfl,by simp,λk C=>O (by omega)⟩)
theorem iy {F:Fence}{n:Nat}{P:Program}{fn:Func}{R:Ending->World->Prop}{tmps:Array Value}{w:World}{v:Value}(j:(results fn tmps).run P w= .ok v w)(h:R (V v) w):bodyPostM F n P fn R .ret ⟨tmps,[]⟩ w:=⟨v,j,h⟩
theorem eo {F:Fence}{n:Nat}{P:Program}{fn:Func}{R:Ending->World->Prop}{tmps:Array Value}{w:World}{v:Value}{D:Nat}(j:w.heap[D]? =some (.deferred (some [])))(B:(results fn tmps).run P (w.putObj D (.deferred none))= .ok v (w.putObj D (.deferred none)))
  (h:R (V v) (w.putObj D (.deferred none))):bodyPostM F n P fn R .ret ⟨tmps,[{target:= .collected D,args:= #[]}]⟩ w:=⟨by simp,.inl ⟨_,_,rfl,run_takeDeferred j,v,B,h⟩⟩
theorem zg {w W C:World}{L:List aM}{R:List a9}(j:ay w L R W)(B:Below W.heap.size W C):ay w L R C:=
 ⟨j.1.trans (B.mono j.1.size),j.2.1.below B,λr D=>bL (j.2.2 r D) B (U _)⟩
structure cS {β κ:Type} (w:World) (P:β->κ->Prop) (L:β->κ->List aM) (R:β->κ->List a9) (s:β) (W:World):Prop where
 h:∃k,P s k/\ay w (L s k) (R s k) W
theorem bq {β κ:Type}{B:Nat}{w:World}(C:w.heap.size<=B)(P:β->κ->Prop)(L:β->κ->List aM)(R:β->κ->List a9):OwnFrom B (cS w P L R):= λs W j row h D G=>⟨om C P L R s W j row h.h D G⟩
theorem gP {β κ:Type}{w:World}{P:β->κ->Prop}{L:β->κ->List aM}{R:β->κ->List a9}(s:β)(A B:World)(h:cS w P L R s A)(j:Below A.heap.size A B):cS w P L R s B:=by
 obtain⟨⟨k,D,C⟩⟩:=h;exact⟨⟨k,D,zg C j⟩⟩
theorem fW {B:Nat}{A W:World}(h:Below A.heap.size A W):KeepsFrom B A W:=⟨h.size,λk _ _ j _=>(h.block k (Array.getElem?_eq_some_iff.1 j).1).trans j⟩
theorem aq {B:Nat}{A W:World}(h:KeepsFrom B A W)(a:Addr)(v:Value):KeepsFrom B A (W.setCell a v):=h.trans ((KeepsOthers.setCell W a v).from B)
theorem co {B:Nat}{A W:World}(h:KeepsFrom B A W)(o:Obj):KeepsFrom B A (W.alloc o):=h.trans ((KeepsOthers.alloc W o).from B)
theorem ff {B:Nat}{A W:World}(h:KeepsFrom B A W):KeepsFrom B A W.drew:=h.trans ((KeepsOthers.drew W).from B)
theorem iq {B:Nat}{A W C:World}{row:Option Nat}(h:KeepsFrom B A W)(G:W.grownBy C row)(K:∀r,row=some r->∃o:Obj,W.heap[r]? =some o/\o.isCells=true):KeepsFrom B A C:=
 h.trans ⟨G.size,λk o _ j I=>(G.block k (Array.getElem?_eq_some_iff.1 j).1 (λe=>by obtain⟨o',D,h2⟩:=K k e.symm;rw[j] at D;cases D;rw[I] at h2;cases h2)).trans j⟩
theorem bj {β:Type}{B:Nat}(g:Nat)(t:TypeId)(cs:β->Array Value):OwnFrom B (λ(s:β) W=>ab W g t (cs s)):= λ_s _W _W' _row h j C=>dk h j (λr e=>(C r e).2)
theorem gH {w:World}{base size n:Nat}{e:TypeId}{v:Value}{xs:List Value}(h:w.ownsRow base e size v n xs):∀r,v.ownBlock=some r->∃o:Obj,w.heap[r]? =some o/\o.isCells=true:=by
 rcases h.2 with⟨rfl,_⟩|⟨g,j,B,rfl,_,C,_⟩
 ·intro r e;cases e
 ·intro r e
  have:r=g:=(by simpa [Value.ownBlock] using e.symm);subst this;exact⟨_,C,rfl⟩
theorem qq {w:World}{base B size C n n':Nat}{e N:TypeId}{v G:Value}{xs I:List Value}(h:w.ownsRow base e size v n xs)(h':w.ownsRow B N C G n' I)(D:e≠N):G.ownBlock=none\/G.ownBlock≠v.ownBlock:=by
 rcases h'.2 with⟨rfl,_⟩|⟨g,av,aJ,rfl,_,hh,_⟩
 ·exact .inl rfl
 ·refine .inr (λT=>?_)
  rcases h.2 with⟨rfl,_⟩|⟨g2,K,M,rfl,_,j,_⟩
  ·simp[Value.ownBlock] at T
  ·have:g=g2:=by simpa [Value.ownBlock] using T
   subst this;rw[hh] at j;injection j with j;injection j with _ ht;exact D ht.symm
theorem nU {w W B:World}{L:List aM}{R:List a9}{base e size n m:Nat}{v K:Value}{xs M:List Value}(hc:ay w L (⟨base,e,size,v,n,xs⟩::R) W)(C:W.grownBy B v.ownBlock)(ho:B.ownsRow base e size K m M)
  (hb:w.heap.size<=base) (T:∀p∈L,p.2.1≠e\/p.1<base) (hR:∀r∈R,r.e≠e):ay w L (⟨base,e,size,K,m,M⟩::R) B:=by
 obtain⟨I,h2,j⟩:=hc
 refine⟨I.grown C I.size (λr er=>Y hb (j.head.lt r er).1),λp D=>(h2 p D).grown C (by
  rcases T p D with hl|hl
  ·exact ba j.head (h2 p D) (Ne.symm hl)
  ·intro N;have:=(j.head.lt p.1 N).1;simp at this;omega),ar.cons ho λr G=>?_⟩
 exact(j r (Z _ G)).kept C (qq j.head (j r (Z _ G)) (Ne.symm (hR r G)))
theorem ap {w W:World}{L:List aM}{R:List a9}(j:ay w L R W)(o:Obj):ay w L R (W.alloc o):=
 ⟨j.1.alloc j.1.size _,j.2.1.alloc o,λr B=>(j.2.2 r B).alloc o⟩
theorem bB {w W:World}{L:List aM}{R:List a9}(j:ay w L R W):ay w L R W.drew:=⟨j.1.drew,j.2.1,j.2.2⟩
theorem aQ {w W C:World}{L:List aM}{R:List a9}(j:ay w L R W)(B:Below W.heap.size W C):ay w L R C:=
 ⟨j.1.trans (B.mono j.1.size),j.2.1.below B,λr D=>bL (j.2.2 r D) B (U _)⟩
theorem dR {w W:World}{L:List aM}{R:List a9}{x y:a9}(j:ay w L (x::y::R) W):ay w L (y::x::R) W:=
 ⟨j.1,j.2.1,λr B=>j.2.2 r (by simp at B⊢;rcases B with h|h|h;exact .inr (.inl h);exact .inl h;exact .inr (.inr h))⟩
theorem lz (w:World):ay w [] [] w:=⟨Below.refl _ _,ai _,aF _⟩
theorem fT {w W:World}{L:List aM}{R:List a9}(j:ay w L R W)(base e size:Nat):ay w L (⟨base,e,size,OF none 0 0,0,[]⟩::R) W:=⟨j.1,j.2.1,ar.cons (World.ownsRow_nil _ _ _ _) j.2.2⟩
theorem gL {w W:World}{L:List aM}{R:List a9}{g:Nat}{t:TypeId}{cs:Array Value}(j:ay w ((g,t,cs)::L) R W)(G:w.heap.size<=g)(i:Nat)(u:Value)(C:∀p∈L,p.1≠g) (D:∀r∈R,r.e≠t):
  ay w ((g,t,cs.setIfInBounds i u)::L) R (W.setCell ⟨g,i,none⟩ u):=
 ⟨j.1.setCell (p:=⟨g,i,none⟩) G u,aa.cons (j.2.1.head.set_ i u) (j.2.1.tail.far (p:=⟨g,i,none⟩) C u),λr B=>ek (j.2.2 r B) ⟨g,i,none⟩ u (ba (j.2.2 r B) j.2.1.head (D r B))⟩
theorem dQ {w W:World}{L:List aM}{R:List a9}{g:Nat}{t:TypeId}{cs:Array Value}(j:ay w L R W)(B:ab W g t cs):ay w ((g,t,cs)::L) R W:=⟨j.1,aa.cons B j.2.1,j.2.2⟩
theorem aw {w W:World}{L:List aM}{R:List a9}{p:aM}(j:ay w (p::L) R W):ay w L R W:=⟨j.1,j.2.1.tail,j.2.2⟩
theorem im {w W:World}{L:List aM}{R:List a9}{D:Nat}{o o':Obj}(B:ay w L R W)(j:W.heap[D]? =some o)(C:o.isCells=false)(G:w.heap.size<=D):ay w L R (W.putObj D o'):=
 B.grown (row:=some D) (grownBy_putObj' W D o') (λr e=>by cases e;exact⟨G,o,j,C⟩)
theorem f7 {P:Program}{C:Array Oper}{Q:Exit->Act->World->Prop}{B:List Oper}{o:Oper}{a:Act}{t e size bytes:Nat}(M:eU P t e size bytes)(I:o.guard=none){s x:Operand}
  (ho:o.op= .call {callee:= .builtin .append,args:= #[s,x],argTypes:= #[t,t]}) {w W:World} {L:List aM} {R:List a9} {base n:Nat} (m:Nat) {c:Nat} {v:Value} {xs:List Value} (news:List Value) (hs:a.eval s=v) (K:ay w L (⟨base,e,size,v,n,xs⟩::R) W)
  (hx:a.eval x=OF (some ⟨W.heap.size,0,none⟩) m c) (hl:OG news=m*size) (N:∀u∈news,u.oneCell'=true) (hb:(n+m)*bytes<=140737488355328) (j:w.heap.size<=base/\base<=W.heap.size) (hL:∀p∈L,p.2.1≠e\/p.1<base) (hR:∀r∈R,r.e≠e)
  (h:∀G D,ay w L (⟨base,e,size,G,n+m,xs++news⟩::R) D->wpList P C Q B (a.put o.dst G) D):wpList P C Q (o::B) a (W.alloc (.cells news.toArray e)):=by
 refine dA M I ho hs ((ap K _).2.2.head) hx hl (by have:=ab.sl (ab.new W e news.toArray) 0;simpa using this) N hb (Y j.2 (by rw[X];omega)) (λG D h2 T _=>h G D ?_);exact nU (ap K _) T h2 j.1 hL hR
theorem kY {F:Fence}{nF:Nat}{P:Program}{G:Array Oper}{Q:Exit->Act->World->Prop}{B:List Oper}{o:Oper}{a:Act}{t e size bytes:Nat}(et:eU P t e size bytes)(av:o.guard=none){s x:Operand}
  (ho:o.op= .call {callee:= .builtin .append,args:= #[s,x],argTypes:= #[t,t]}) {w W:World} {L:List aM} {R:List a9} {base n:Nat} (m:Nat) {c:Nat} {v:Value} {xs:List Value} (news:List Value) (hs:a.eval s=v) (hc:ay w L (⟨base,e,size,v,n,xs⟩::R) W)
  (hx:a.eval x=OF (some ⟨W.heap.size,0,none⟩) m c) (hl:OG news=m*size) (h1:∀u∈news,u.oneCell'=true) (hb:(n+m)*bytes<=140737488355328) (j:w.heap.size<=base/\base<=W.heap.size) (hL:∀p∈L,p.2.1≠e\/p.1<base) (hR:∀r∈R,r.e≠e)
  (h:∀I M,ay w L (⟨base,e,size,I,n+m,xs++news⟩::R) M->W.grownBy M v.ownBlock->wpListIn F nF P G Q B (a.put o.dst I) M):wpListIn F nF P G Q (o::B) a (W.alloc (.cells news.toArray e)):=by
 obtain⟨I,w',D,h2,C,h4⟩:=nK et o.type (c:=c) ((ap hc _).2.2.head) hl (by have:=ab.sl (ab.new W e news.toArray) 0;simpa using this) h1 hb (Y j.2 (by rw[X];omega));refine wpListIn_plain av λK N=>?_;unfold Oper.wpIn;refine⟨?_,?_⟩
 ·simp[Oper.about,ho,resolve,Target.leads,Sem.run_pure]
 ·rw[Oper.semAt_plain F _ _ (by rw[ho];intro c T;cases T)]
  simp[execOp,ho,resolve,invoke,builtin,hs,hx,D,Result.andThen];exact N _ _ (h I w' (nU (ap hc _) C h2 j.1 hL hR) ⟨C.os,C.tape,C.output,by have:=C.size;simp at this;omega,λk hk hn=>(C.block k (by simp;omega) hn).trans (Below.heap_alloc W _ k hk)⟩)
structure bT (B:Nat) (A W:World):Prop where
 keep:∀(k:Nat)(o:Obj),B<=k->A.heap[k]? =some o->o.isCells=true->W.heap[k]? =some o
theorem bT.refl (B:Nat)(A:World):bT B A A:=⟨λ_ _ _ h _=>h⟩
theorem bT.trans {B:Nat}{A W G:World}(h:bT B A W)(k:bT B W G):bT B A G:=⟨λi o C D j=>k.keep i o C (h.keep i o C D j) j⟩
theorem bT.set {B:Nat}{A W:World}(h:bT B A W)(a:Addr)(C:a.block<B)(v:Value):bT B A (W.setCell a v):=h.trans ⟨λk o D j _=>(Below.heap_setCell W a v k (by omega)).trans j⟩
theorem bT.below {B:Nat}{A W D:World}(h:bT B A W)(C:Below W.heap.size W D):bT B A D:=h.trans ⟨λk _o _ j _=>(C.block k (Array.getElem?_eq_some_iff.1 j).1).trans j⟩
theorem bT.alloc {B:Nat}{A W:World}(h:bT B A W)(o:Obj):bT B A (W.alloc o):=h.below ((Below.refl _ _).alloc (U _) _)
theorem bT.drew {B:Nat}{A W:World}(h:bT B A W):bT B A W.drew:=h.trans ⟨λ_ _ _ h _=>h⟩
theorem bT.put {B:Nat}{A W:World}(h:bT B A W)(D:Nat)(C:D<B)(o:Obj):bT B A (W.putObj D o):=h.trans ⟨λk o G j _=>(O (by omega)).trans j⟩
theorem bT.grown {B:Nat}{A W I:World}{row:Option Nat}(h:bT B A W)(C:W.grownBy I row)(D:∀r,row=some r->r<B):bT B A I:=
 h.trans ⟨λk o G j _=>(C.block k (Array.getElem?_eq_some_iff.1 j).1 (λe=>by have:=D k e.symm;omega)).trans j⟩
theorem bT.blk {B g:Nat}{A W:World}{t:TypeId}{cs:Array Value}(h:bT B A W)(j:ab A g t cs)(C:B<=g):ab W g t cs:=h.keep g _ C j rfl
def Fh {α:Type} (F:Fence) (n:Nat) (P:Program) (g:Nat) (lb:Array Value) (enc:α->Array Value) (I I2:List α->World->Prop) (S Sp:List α->Prop):Prop:=
 ∀(l:Nat)(K:World->Prop)(C:List α->World->Prop)(W:World),li K->
  (∀pre x B,I pre B->K B->Sp (pre++[x])->YieldAt F (n - 1) P l (enc x) B λe j=>(e=V (OE true)/\I2 (pre++[x]) j/\K j/\bT W.heap.size B j)\/(e=V (OE false)/\C (pre++[x]) j))->
  I [] W->K W->CallsIn F n P g (#[.func (.yield l) #[] #[]]++lb) W λe j=>(∃v,e=V v)/\((∃xs,S xs/\I xs j/\K j)\/(∃pre,Sp pre/\C pre j))
theorem Kj {α:Type}{F:Fence}{n:Nat}{P:Program}{g:Operand}{ps:Array Tmp}{assign body:Code}{Q:Exit->Act->World->Prop}{a:Act}{w:World}
  (K6:F.round=none) (h1:1<=n) {gf:Nat} {lb:Array Value} (hg:a.eval g= .func (.func gf) #[] lb) (kA:F.fn gf) (eg:∀args w,(callFunc gf args).run P w= .ok (.enter gf args) w)
  {enc:α->Array Value} {I I2:List α->World->Prop} {S Sp:List α->Prop} (iP:Fh F (n - 1) P gf lb enc I I2 S Sp) (K5:∀x,(enc x).size=ps.size)
  (Ix:Code->List α->World->Prop) (J:List α->α->Act->World->Prop) (hI:OwnFrom w.heap.size I) (kU:OwnFrom w.heap.size I2) (hIx:∀c,OwnFrom w.heap.size (Ix c)) (hJ:∀x a',OwnFrom w.heap.size (λpre W=>J pre x a' W)) (h0:I [] w)
  (av:∀(l:Nat)(pre:List α)(x:α)(W:World),I pre W->Sp (pre++[x])->assign.wpIn (F.inRound l) (n - 1 - 1) P (Exit.then (λa' W'=>J pre x a' W'/\KeepsFrom w.heap.size W W'/\bT (w.heap.size+2) W W') (λ_ _ _=>False)) {tmps:=(ps.zip (enc x)).foldl (λt (p,v)=>t.setIfInBounds p v) a.tmps,defers:=[]} W)
  (bM:∀(l:Nat)(pre:List α)(x:α)(a':Act)(W:World),J pre x a' W->Sp (pre++[x])->body.wpIn (F.inRound l) (n - 1 - 1) P (ownPostG w.heap.size (bT (w.heap.size+2)) I2 Ix (pre++[x]) W) a' W)
  (cE:∀(D:Nat)(xs:List α)(W:World),w.heap.size<=D->S xs->I xs W->W.heap[D]? =some (.deferred (some []))->Q .normal {a with defers:={target:= .collected D,args:= #[]}::a.defers} W)
  (dO:∀(D:Nat)(c:Code)(pre:List α)(W:World),w.heap.size<=D->Sp pre->Ix c pre W->W.heap[D]? =some (.deferred (some []))->c.wpIn F n P Q {a with defers:={target:= .collected D,args:= #[]}::a.defers} W):
  (Code.rangeFunc g ps assign body).wpIn F n P Q a w:=by
 refine wpIn_rangeFunc λfn Hl=>?_;rw[K6]
 let j:LoopState->Option Code->Loop:= λst pe=>{state:=st,pending:=pe,fn,tmps:=a.tmps,params:=ps,assign,body,defers:=w.heap.size}
 let W1:World:=(w.alloc (.deferred (some []))).alloc (.loop (j .ready none))
 have jY:W1.heap.size=w.heap.size+2:=by show ((w.alloc _).alloc _).heap.size=_;simp
 have hL:W1.heap[w.heap.size+1]? =some (.loop (j .ready none)):=by
  have:=OB (w.alloc (.deferred (some []))) (.loop (j .ready none));rwa [X] at this
 have hD:W1.heap[w.heap.size]? =some (.deferred (some [])):=(Below.heap_alloc _ _ _ (by simp)).trans (OB w _)
 refine⟨w.heap.size+1,[{target:= .collected w.heap.size,args:= #[]}],W1,{target:= .fn (.func gf) lb,args:= #[.func (.yield (w.heap.size+1)) #[] #[]]},W1,gf,
  #[.func (.yield (w.heap.size+1)) #[] #[]]++lb,W1,run_enterLoop_outer _ _ _ _ _,?_,?_,?_,λ_=>h1,?_⟩
 ·simp only[resolve,hg];simp[go_sem]
 ·intro f' eE;simp[Target.leads] at eE;subst eE;exact kA
 ·simp[invoke,go_sem,eg]
 have M:∀{s:List α}{J:List α->World->Prop}{W:World}{r:Loop}(o:Obj),OwnFrom w.heap.size J->J s W->W.heap[w.heap.size+1]? =some (.loop r)->J s (W.putObj (w.heap.size+1) o):=
  λo hJ hs hl=>hJ.putObj _ hs (OC _) hl rfl
 have G:∀(W:World)(o:Obj),(W.putObj (w.heap.size+1) o).heap[w.heap.size]? =W.heap[w.heap.size]? := λW o=>O (Nat.ne_of_lt (Nat.lt_succ_self _))
 refine(iP (w.heap.size+1)
  (λW=>W.heap[w.heap.size+1]? =some (.loop (j .ready none))/\W.heap[w.heap.size]? =some (.deferred (some [])))
  (λpre W=>∃c,Ix c pre W/\W.heap[w.heap.size+1]? =some (.loop (j .done (some c)))/\W.heap[w.heap.size]? =some (.deferred (some [])))
  W1 (λA B hK aJ=>⟨aJ _ _ hK.1 rfl,aJ _ _ hK.2 rfl⟩) ?_ (hI.alloc _ (hI.alloc _ h0)) ⟨hL,hD⟩).mono ?_
 ·rintro pre x W hi ⟨hl,hk⟩ jg
  refine⟨fn,_,assign,body,run_yield (P:=P) (args:=enc x) hl (K5 x),roundIn_of_wpIn Hl (wpIn_mono (av _ pre x W hi jg) ?_)⟩;rintro e a' W' he
  cases e with
  |normal=>?_
  |_=>exact he.elim
  obtain⟨hj,fJ,K0⟩:=he;have dv:=fJ.same _ _ (OC _) hl rfl;have Hu:=fJ.same _ _ (U _) hk rfl;refine⟨_,run_beginRound dv rfl,?_⟩;have K4:w.heap.size+1<W'.heap.size:=(Array.getElem?_eq_some_iff.1 dv).1;have K3:(W'.putObj (w.heap.size+1) (.loop {j .ready none with state:= .busy})).heap[w.heap.size+1]? =some (.loop {j .ready none with state:= .busy}):=OA K4;have JT:=(G W' (.loop {j .ready none with state:= .busy})).trans Hu;refine wpIn_mono (bM _ pre x _ _ (M (J:= λpre W=>J pre x a' W) _ (hJ x a') hj dv) jg) ?_
  have fin:∀(C:Option Code)(K:World),KeepsFrom w.heap.size (W'.putObj (w.heap.size+1) (.loop {j .ready none with state:= .busy})) K->
    ∃st,st=(if C.isNone then LoopState.ready else .done)/\(Instr.endRound (w.heap.size+1) C).run P K= .ok (OE C.isNone) (K.putObj (w.heap.size+1) (.loop (j st C)))/\
    K.heap[w.heap.size+1]? =some (.loop {j .ready none with state:= .busy})/\
    (K.putObj (w.heap.size+1) (.loop (j st C))).heap[w.heap.size+1]? =some (.loop (j st C))/\
    (K.putObj (w.heap.size+1) (.loop (j st C))).heap[w.heap.size]? =some (.deferred (some [])):= λC K T=>by
   have N:=T.same _ _ (OC _) K3 rfl;exact⟨_,rfl,run_endRound (P:=P) C N,N,OA (Array.getElem?_eq_some_iff.1 N).1,(G K _).trans (T.same _ _ (U _) JT rfl)⟩
  have left:∀(c:Code)(K:World),KeepsFrom w.heap.size (W'.putObj (w.heap.size+1) (.loop {j .ready none with state:= .busy})) K->Ix c (pre++[x]) K->
    ∃v w',(Instr.endRound (w.heap.size+1) (some c)).run P K= .ok v w'/\((Ending.returned v=V (OE true)/\I2 (pre++[x]) w'/\(w'.heap[w.heap.size+1]? =some (.loop (j .ready none))/\w'.heap[w.heap.size]? =some (.deferred (some [])))/\bT W1.heap.size W w')\/
     (Ending.returned v=V (OE false)/\∃c,Ix c (pre++[x]) w'/\w'.heap[w.heap.size+1]? =some (.loop (j .done (some c)))/\w'.heap[w.heap.size]? =some (.deferred (some [])))):= λc K T K8=>by
   obtain⟨st,rfl,hr,N,dy,cI⟩:=fin (some c) K T;exact⟨_,_,hr,.inr ⟨rfl,c,M _ (hIx c) K8 N,dy,cI⟩⟩
  rintro e a3 K hp
  cases e with
  |normal=>
   obtain⟨T,gj,Ht⟩:=hp;obtain⟨st,rfl,hr,N,dy,cI⟩:=fin none K T;exact⟨_,_,hr,.inl ⟨rfl,M _ kU Ht N,⟨dy,cI⟩,by rw[jY];exact(((K0.put (w.heap.size+1) (by omega) _).trans gj).put (w.heap.size+1) (by omega) _)⟩⟩
  |ret=>exact left .ret K hp.1 hp.2
  |exit id=>exact left (.exit id) K hp.1 hp.2
  |goto t=>exact left (.goto t) K hp.1 hp.2
  |panic ch=>exact hp.elim
  |outgrown=>exact hp.elim
 ·rintro e W2 ⟨⟨v,rfl⟩,(⟨xs,hS,hi,hl,hk⟩|⟨pre,rG,c,hi,hl,hk⟩)⟩
  ·exact⟨none,_,run_endLoop (P:=P) hl (by simp[j]),cE _ xs _ (U _) hS (M _ hI hi hl) ((G _ _).trans hk)⟩
  ·exact⟨some c,_,run_endLoop (P:=P) hl (by simp[j]),dO _ c pre _ (U _) rG (M _ (hIx c) hi hl) ((G _ _).trans hk)⟩
theorem Du {α:Type}{F:Fence}{n:Nat}{P:Program}{g:Operand}{ps:Array Tmp}{j C:Code}{Q:Exit->Act->World->Prop}{a:Act}{w:World}
  (dv:F.round=none) (h1:1<=n) {gf:Nat} {lb:Array Value} (hg:a.eval g= .func (.func gf) #[] lb) (aJ:F.fn gf) (eg:∀args w,(callFunc gf args).run P w= .ok (.enter gf args) w)
  {enc:α->Array Value} {I I2:List α->World->Prop} {S Sp:List α->Prop} (av:Fh F (n - 1) P gf lb enc I I2 S Sp) (cI:∀x,(enc x).size=ps.size)
  (Ix:Code->List α->World->Prop) (J:List α->α->Nat->World->Prop) (hI:OwnFrom w.heap.size I) (bM:OwnFrom w.heap.size I2) (hIx:∀c,OwnFrom w.heap.size (Ix c)) (hJ:∀x k,OwnFrom w.heap.size (λpre W=>J pre x k W)) (h0:I [] w)
  (B:∃A:α->Nat->Act,
   (∀(l:Nat)(pre:List α)(x:α)(W:World),I pre W->Sp (pre++[x])->j.wpIn (F.inRound l) (n - 1 - 1) P (Exit.then (λN M=>(∃k,N=A x k/\J pre x k M)/\KeepsFrom w.heap.size W M/\bT (w.heap.size+2) W M) (λ_ _ _=>False)) {tmps:=(ps.zip (enc x)).foldl (λt (p,v)=>t.setIfInBounds p v) a.tmps,defers:=[]} W)/\
   (∀(l:Nat)(pre:List α)(x:α)(k:Nat)(W:World),J pre x k W->Sp (pre++[x])->C.wpIn (F.inRound l) (n - 1 - 1) P (ownPostG w.heap.size (bT (w.heap.size+2)) I2 Ix (pre++[x]) W) (A x k) W))
  (G:∀(D:Nat)(xs:List α)(W:World),w.heap.size<=D->S xs->I xs W->W.heap[D]? =some (.deferred (some []))->Q .normal {a with defers:={target:= .collected D,args:= #[]}::a.defers} W)
  (K:∀(D:Nat)(c:Code)(pre:List α)(W:World),w.heap.size<=D->Sp pre->Ix c pre W->W.heap[D]? =some (.deferred (some []))->c.wpIn F n P Q {a with defers:={target:= .collected D,args:= #[]}::a.defers} W):
  (Code.rangeFunc g ps j C).wpIn F n P Q a w:=by
 obtain⟨A,ha,hb⟩:=B;refine Kj dv h1 hg aJ eg av cI Ix (λpre x N W=>∃k,N=A x k/\J pre x k W) hI bM hIx (λx N s W M row hs cE hr=>?_) h0 ha (λl pre x N W T dy=>?_) G K
 ·obtain⟨k,e,T⟩:=hs
  exact⟨k,e,hJ x k s W M row T cE hr⟩
 ·obtain⟨k,rfl,T⟩:=T
  exact hb l pre x k W T dy
end Go.Proofs.YthhijgcfbjcgiaaGreatDoor
