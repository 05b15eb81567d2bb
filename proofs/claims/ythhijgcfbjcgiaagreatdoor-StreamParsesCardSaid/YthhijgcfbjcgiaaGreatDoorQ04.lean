/- Rng, RngW, RngX -/
import Derived.Test.YthhijgcfbjcgiaaGreatDoorQ01
import Derived.RangeFuncNested
import Derived.RangeFuncBound
import Derived.OwnWalkIn
import Derived.TacticsInMore
import Derived.LoopNIn
import Derived.LoopIn
namespace Go.Proofs.YthhijgcfbjcgiaaGreatDoor
open Go Go.RowKit
open Go.Ending renaming returned→O
open Nat renaming le_refl→U,le_succ→Y,lt_succ_self→OB,ne_of_lt→OD
open Go.World renaming putObj_heap_same→Z,alloc_heap_new→V,putObj_heap_other→OA,size_alloc→OC
open Go.Value renaming bool→X
def lq (K:World->Prop):Prop:=∀A B:World,K A->(∀(i:Nat)(o:Obj),A.heap[i]? =some o->o.isCells=false->B.heap[i]? =some o)->K B
theorem lq.below {K:World->Prop}(h:lq K){A B:World}(C:K A)(D:Below A.heap.size A B):K B:=
 h A B C λi _ j _=>(D.block i (Array.getElem?_eq_some_iff.1 j).1).trans j
theorem lq.set {K:World->Prop}(h:lq K){A:World}{p:Addr}{v:Value}{t:TypeId}{cs:Array Value}(C:K A)(B:ab A p.block t cs):K (A.setCell p v):=
 h A _ C λi o j D=>(Below.heap_setCell A p v i (λe=>by subst e;unfold ab at B;rw[B] at j;cases j;cases D)).trans j
def tJ {α:Type} (F:Fence) (n:Nat) (P:Program) (g:Nat) (lb:Array Value) (enc:α->Array Value) (I I2:List α->World->Prop) (S Sp:List α->Prop):Prop:=
 ∀(l:Nat)(K:World->Prop)(C:List α->World->Prop)(W:World),lq K->
  (∀pre x B,I pre B->K B->Sp (pre++[x])->YieldAt F (n - 1) P l (enc x) B λe j=>(e=O (X true)/\I2 (pre++[x]) j/\K j)\/(e=O (X false)/\C (pre++[x]) j))->
  I [] W->K W->CallsIn F n P g (#[.func (.yield l) #[] #[]]++lb) W λe j=>(∃v,e=O v)/\((∃xs,S xs/\I xs j/\K j)\/(∃pre,Sp pre/\C pre j))
theorem Ku {α:Type}{F:Fence}{n:Nat}{P:Program}{g:Operand}{ps:Array Tmp}{assign body:Code}{Q:Exit->Act->World->Prop}{a:Act}{w:World}
  (K0:F.round=none) (h1:1<=n) {gf:Nat} {lb:Array Value} (hg:a.eval g= .func (.func gf) #[] lb) (hU:F.fn gf) (eg:∀args w,(callFunc gf args).run P w= .ok (.enter gf args) w)
  {enc:α->Array Value} {I I2:List α->World->Prop} {S Sp:List α->Prop} (gy:tJ F (n - 1) P gf lb enc I I2 S Sp) (J2:∀x,(enc x).size=ps.size)
  (Ix:Code->List α->World->Prop) (J:List α->α->Act->World->Prop) (hI:OwnFrom w.heap.size I) (ja:OwnFrom w.heap.size I2) (hIx:∀c,OwnFrom w.heap.size (Ix c)) (hJ:∀x a',OwnFrom w.heap.size (λpre W=>J pre x a' W)) (h0:I [] w)
  (aB:∀(l:Nat)(pre:List α)(x:α)(W:World),I pre W->Sp (pre++[x])->assign.wpIn (F.inRound l) (n - 1 - 1) P (Exit.then (λa' W'=>J pre x a' W'/\KeepsFrom w.heap.size W W') (λ_ _ _=>False)) {tmps:=(ps.zip (enc x)).foldl (λt (p,v)=>t.setIfInBounds p v) a.tmps,defers:=[]} W)
  (bE:∀(l:Nat)(pre:List α)(x:α)(a':Act)(W:World),J pre x a' W->Sp (pre++[x])->body.wpIn (F.inRound l) (n - 1 - 1) P (ownPostG w.heap.size (λ_ _=>True) I2 Ix (pre++[x]) W) a' W)
  (cz:∀(D:Nat)(xs:List α)(W:World),w.heap.size<=D->S xs->I xs W->W.heap[D]? =some (.deferred (some []))->Q .normal {a with defers:={target:= .collected D,args:= #[]}::a.defers} W)
  (dY:∀(D:Nat)(c:Code)(pre:List α)(W:World),w.heap.size<=D->Sp pre->Ix c pre W->W.heap[D]? =some (.deferred (some []))->c.wpIn F n P Q {a with defers:={target:= .collected D,args:= #[]}::a.defers} W):
  (Code.rangeFunc g ps assign body).wpIn F n P Q a w:=by
 refine wpIn_rangeFunc λfn kz=>?_;rw[K0]
 let j:LoopState->Option Code->Loop:= λst pe=>{state:=st,pending:=pe,fn,tmps:=a.tmps,params:=ps,assign,body,defers:=w.heap.size}
 let W1:World:=(w.alloc (.deferred (some []))).alloc (.loop (j .ready none))
 have hL:W1.heap[w.heap.size+1]? =some (.loop (j .ready none)):=by
  have:=V (w.alloc (.deferred (some []))) (.loop (j .ready none));rwa [OC] at this
 have hD:W1.heap[w.heap.size]? =some (.deferred (some [])):=(Below.heap_alloc _ _ _ (by simp)).trans (V w _)
 refine⟨w.heap.size+1,[{target:= .collected w.heap.size,args:= #[]}],W1,{target:= .fn (.func gf) lb,args:= #[.func (.yield (w.heap.size+1)) #[] #[]]},W1,gf,
  #[.func (.yield (w.heap.size+1)) #[] #[]]++lb,W1,run_enterLoop_outer _ _ _ _ _,?_,?_,?_,λ_=>h1,?_⟩
 ·simp only[resolve,hg];simp[go_sem]
 ·intro f' eE;simp[Target.leads] at eE;subst eE;exact hU
 ·simp[invoke,go_sem,eg]
 have M:∀{s:List α}{J:List α->World->Prop}{W:World}{r:Loop}(o:Obj),OwnFrom w.heap.size J->J s W->W.heap[w.heap.size+1]? =some (.loop r)->J s (W.putObj (w.heap.size+1) o):=
  λo hJ hs hl=>hJ.putObj _ hs (Y _) hl rfl
 have G:∀(W:World)(o:Obj),(W.putObj (w.heap.size+1) o).heap[w.heap.size]? =W.heap[w.heap.size]? := λW o=>OA (OD (OB _))
 refine(gy (w.heap.size+1)
  (λW=>W.heap[w.heap.size+1]? =some (.loop (j .ready none))/\W.heap[w.heap.size]? =some (.deferred (some [])))
  (λpre W=>∃c,Ix c pre W/\W.heap[w.heap.size+1]? =some (.loop (j .done (some c)))/\W.heap[w.heap.size]? =some (.deferred (some [])))
  W1 (λA B hK aC=>⟨aC _ _ hK.1 rfl,aC _ _ hK.2 rfl⟩) ?_ (hI.alloc _ (hI.alloc _ h0)) ⟨hL,hD⟩).mono ?_
 ·rintro pre x W hi ⟨hl,hk⟩ gJ
  refine⟨fn,_,assign,body,run_yield (P:=P) (args:=enc x) hl (J2 x),roundIn_of_wpIn kz (wpIn_mono (aB _ pre x W hi gJ) ?_)⟩;rintro e a' W' he
  cases e with
  |normal=>?_
  |_=>exact he.elim
  obtain⟨hj,fW⟩:=he;have dD:=fW.same _ _ (Y _) hl rfl;have wj:=fW.same _ _ (U _) hk rfl;refine⟨_,run_beginRound dD rfl,?_⟩;have Iq:w.heap.size+1<W'.heap.size:=(Array.getElem?_eq_some_iff.1 dD).1;have Ip:(W'.putObj (w.heap.size+1) (.loop {j .ready none with state:= .busy})).heap[w.heap.size+1]? =some (.loop {j .ready none with state:= .busy}):=Z Iq;have Io:=(G W' (.loop {j .ready none with state:= .busy})).trans wj;refine wpIn_mono (bE _ pre x _ _ (M (J:= λpre W=>J pre x a' W) _ (hJ x a') hj dD) gJ) ?_
  have fin:∀(C:Option Code)(K:World),KeepsFrom w.heap.size (W'.putObj (w.heap.size+1) (.loop {j .ready none with state:= .busy})) K->
    ∃st,st=(if C.isNone then LoopState.ready else .done)/\(Instr.endRound (w.heap.size+1) C).run P K= .ok (X C.isNone) (K.putObj (w.heap.size+1) (.loop (j st C)))/\
    K.heap[w.heap.size+1]? =some (.loop {j .ready none with state:= .busy})/\
    (K.putObj (w.heap.size+1) (.loop (j st C))).heap[w.heap.size+1]? =some (.loop (j st C))/\
    (K.putObj (w.heap.size+1) (.loop (j st C))).heap[w.heap.size]? =some (.deferred (some [])):= λC K T=>by
   have N:=T.same _ _ (Y _) Ip rfl;exact⟨_,rfl,run_endRound (P:=P) C N,N,Z (Array.getElem?_eq_some_iff.1 N).1,(G K _).trans (T.same _ _ (U _) Io rfl)⟩
  have left:∀(c:Code)(K:World),KeepsFrom w.heap.size (W'.putObj (w.heap.size+1) (.loop {j .ready none with state:= .busy})) K->Ix c (pre++[x]) K->
    ∃v w',(Instr.endRound (w.heap.size+1) (some c)).run P K= .ok v w'/\((Ending.returned v=O (X true)/\I2 (pre++[x]) w'/\(w'.heap[w.heap.size+1]? =some (.loop (j .ready none))/\w'.heap[w.heap.size]? =some (.deferred (some []))))\/
     (Ending.returned v=O (X false)/\∃c,Ix c (pre++[x]) w'/\w'.heap[w.heap.size+1]? =some (.loop (j .done (some c)))/\w'.heap[w.heap.size]? =some (.deferred (some [])))):= λc K T K1=>by
   obtain⟨st,rfl,hr,N,dE,dt⟩:=fin (some c) K T;exact⟨_,_,hr,.inr ⟨rfl,c,M _ (hIx c) K1 N,dE,dt⟩⟩
  rintro e a3 K hp
  cases e with
  |normal=>
   obtain⟨T,K2,rX⟩:=hp;obtain⟨st,rfl,hr,N,dE,dt⟩:=fin none K T;exact⟨_,_,hr,.inl ⟨rfl,M _ ja rX N,dE,dt⟩⟩
  |ret=>exact left .ret K hp.1 hp.2
  |exit id=>exact left (.exit id) K hp.1 hp.2
  |goto t=>exact left (.goto t) K hp.1 hp.2
  |panic ch=>exact hp.elim
  |outgrown=>exact hp.elim
 ·rintro e W2 ⟨⟨v,rfl⟩,(⟨xs,hS,hi,hl,hk⟩|⟨pre,jT,c,hi,hl,hk⟩)⟩
  ·exact⟨none,_,run_endLoop (P:=P) hl (by simp[j]),cz _ xs _ (U _) hS (M _ hI hi hl) ((G _ _).trans hk)⟩
  ·exact⟨some c,_,run_endLoop (P:=P) hl (by simp[j]),dY _ c pre _ (U _) jT (M _ (hIx c) hi hl) ((G _ _).trans hk)⟩
theorem tD {α:Type}{F:Fence}{n:Nat}{P:Program}{g:Operand}{ps:Array Tmp}{j body:Code}{Q:Exit->Act->World->Prop}{a:Act}{w:World}
  (dt:F.round=none) (h1:1<=n) {gf:Nat} {lb:Array Value} (hg:a.eval g= .func (.func gf) #[] lb) (aB:F.fn gf) (eg:∀args w,(callFunc gf args).run P w= .ok (.enter gf args) w)
  {enc:α->Array Value} {I I2:List α->World->Prop} {S Sp:List α->Prop} (N:tJ F (n - 1) P gf lb enc I I2 S Sp) (cz:∀x,(enc x).size=ps.size)
  (T:Code->List α->World->Prop) (J:List α->α->Nat->World->Prop) (hI:OwnFrom w.heap.size I) (aC:OwnFrom w.heap.size I2) (hIx:∀c,OwnFrom w.heap.size (T c)) (hJ:∀x k,OwnFrom w.heap.size (λpre W=>J pre x k W)) (h0:I [] w)
  (B:∃A:α->Nat->Act,
   (∀(l:Nat)(pre:List α)(x:α)(W:World),I pre W->Sp (pre++[x])->j.wpIn (F.inRound l) (n - 1 - 1) P (Exit.then (λK W'=>(∃k,K=A x k/\J pre x k W')/\KeepsFrom w.heap.size W W') (λ_ _ _=>False)) {tmps:=(ps.zip (enc x)).foldl (λt (p,v)=>t.setIfInBounds p v) a.tmps,defers:=[]} W)/\
   (∀(l:Nat)(pre:List α)(x:α)(k:Nat)(W:World),J pre x k W->Sp (pre++[x])->body.wpIn (F.inRound l) (n - 1 - 1) P (ownPostG w.heap.size (λ_ _=>True) I2 T (pre++[x]) W) (A x k) W))
  (C:∀(D:Nat)(xs:List α)(W:World),w.heap.size<=D->S xs->I xs W->W.heap[D]? =some (.deferred (some []))->Q .normal {a with defers:={target:= .collected D,args:= #[]}::a.defers} W)
  (G:∀(D:Nat)(c:Code)(pre:List α)(W:World),w.heap.size<=D->Sp pre->T c pre W->W.heap[D]? =some (.deferred (some []))->c.wpIn F n P Q {a with defers:={target:= .collected D,args:= #[]}::a.defers} W):
  (Code.rangeFunc g ps j body).wpIn F n P Q a w:=by
 obtain⟨A,ha,hb⟩:=B;refine Ku dt h1 hg aB eg N cz T (λpre x K W=>∃k,K=A x k/\J pre x k W) hI aC hIx (λx K s W W' row hs bE hr=>?_) h0 ha (λl pre x K W M dD=>?_) C G
 ·obtain⟨k,e,M⟩:=hs
  exact⟨k,e,hJ x k s W W' row M bE hr⟩
 ·obtain⟨k,rfl,M⟩:=M
  exact hb l pre x k W M dD
def wO {α:Type} (F:Fence) (n:Nat) (P:Program) (g:Nat) (lb:Array Value) (enc:α->Array Value) (IS I I2 IE:List α->World->Prop) (S Sp:List α->Prop):Prop:=
 ∀(l:Nat)(K:World->Prop)(C:List α->World->Prop)(W:World),lq K->
  (∀pre x B,I pre B->K B->Sp (pre++[x])->YieldAt F (n - 1) P l (enc x) B λe j=>(e=O (X true)/\I2 (pre++[x]) j/\K j)\/(e=O (X false)/\C (pre++[x]) j))->
  IS [] W->K W->CallsIn F n P g (#[.func (.yield l) #[] #[]]++lb) W λe j=>(∃v,e=O v)/\((∃xs,S xs/\IE xs j/\K j)\/(∃pre,Sp pre/\C pre j))
theorem Kv {α:Type}{F:Fence}{n:Nat}{P:Program}{g:Operand}{ps:Array Tmp}{assign body:Code}{Q:Exit->Act->World->Prop}{a:Act}{w:World}
  (K2:F.round=none) (h1:1<=n) {gf:Nat} {lb:Array Value} (hg:a.eval g= .func (.func gf) #[] lb) (ja:F.fn gf) (eg:∀args w,(callFunc gf args).run P w= .ok (.enter gf args) w)
  {enc:α->Array Value} {IS I I2 IE:List α->World->Prop} {S Sp:List α->Prop} (gJ:wO F (n - 1) P gf lb enc IS I I2 IE S Sp) (K1:∀x,(enc x).size=ps.size)
  (Ix:Code->List α->World->Prop) (J:List α->α->Act->World->Prop) (eE:OwnFrom w.heap.size IS) (kz:OwnFrom w.heap.size IE) (jT:OwnFrom w.heap.size I2) (hIx:∀c,OwnFrom w.heap.size (Ix c)) (hJ:∀x a',OwnFrom w.heap.size (λpre W=>J pre x a' W)) (h0:IS [] w)
  (aB:∀(l:Nat)(pre:List α)(x:α)(W:World),I pre W->Sp (pre++[x])->assign.wpIn (F.inRound l) (n - 1 - 1) P (Exit.then (λa' W'=>J pre x a' W'/\KeepsFrom w.heap.size W W') (λ_ _ _=>False)) {tmps:=(ps.zip (enc x)).foldl (λt (p,v)=>t.setIfInBounds p v) a.tmps,defers:=[]} W)
  (bE:∀(l:Nat)(pre:List α)(x:α)(a':Act)(W:World),J pre x a' W->Sp (pre++[x])->body.wpIn (F.inRound l) (n - 1 - 1) P (ownPostG w.heap.size (λ_ _=>True) I2 Ix (pre++[x]) W) a' W)
  (cz:∀(D:Nat)(xs:List α)(W:World),w.heap.size<=D->S xs->IE xs W->W.heap[D]? =some (.deferred (some []))->Q .normal {a with defers:={target:= .collected D,args:= #[]}::a.defers} W)
  (dY:∀(D:Nat)(c:Code)(pre:List α)(W:World),w.heap.size<=D->Sp pre->Ix c pre W->W.heap[D]? =some (.deferred (some []))->c.wpIn F n P Q {a with defers:={target:= .collected D,args:= #[]}::a.defers} W):
  (Code.rangeFunc g ps assign body).wpIn F n P Q a w:=by
 refine wpIn_rangeFunc λfn wj=>?_;rw[K2]
 let j:LoopState->Option Code->Loop:= λst pe=>{state:=st,pending:=pe,fn,tmps:=a.tmps,params:=ps,assign,body,defers:=w.heap.size}
 let W1:World:=(w.alloc (.deferred (some []))).alloc (.loop (j .ready none))
 have hL:W1.heap[w.heap.size+1]? =some (.loop (j .ready none)):=by
  have:=V (w.alloc (.deferred (some []))) (.loop (j .ready none));rwa [OC] at this
 have hD:W1.heap[w.heap.size]? =some (.deferred (some [])):=(Below.heap_alloc _ _ _ (by simp)).trans (V w _)
 refine⟨w.heap.size+1,[{target:= .collected w.heap.size,args:= #[]}],W1,{target:= .fn (.func gf) lb,args:= #[.func (.yield (w.heap.size+1)) #[] #[]]},W1,gf,
  #[.func (.yield (w.heap.size+1)) #[] #[]]++lb,W1,run_enterLoop_outer _ _ _ _ _,?_,?_,?_,λ_=>h1,?_⟩
 ·simp only[resolve,hg];simp[go_sem]
 ·intro f' fW;simp[Target.leads] at fW;subst fW;exact ja
 ·simp[invoke,go_sem,eg]
 have M:∀{s:List α}{J:List α->World->Prop}{W:World}{r:Loop}(o:Obj),OwnFrom w.heap.size J->J s W->W.heap[w.heap.size+1]? =some (.loop r)->J s (W.putObj (w.heap.size+1) o):=
  λo hJ hs hl=>hJ.putObj _ hs (Y _) hl rfl
 have G:∀(W:World)(o:Obj),(W.putObj (w.heap.size+1) o).heap[w.heap.size]? =W.heap[w.heap.size]? := λW o=>OA (OD (OB _))
 refine(gJ (w.heap.size+1)
  (λW=>W.heap[w.heap.size+1]? =some (.loop (j .ready none))/\W.heap[w.heap.size]? =some (.deferred (some [])))
  (λpre W=>∃c,Ix c pre W/\W.heap[w.heap.size+1]? =some (.loop (j .done (some c)))/\W.heap[w.heap.size]? =some (.deferred (some [])))
  W1 (λA B hK aC=>⟨aC _ _ hK.1 rfl,aC _ _ hK.2 rfl⟩) ?_ (eE.alloc _ (eE.alloc _ h0)) ⟨hL,hD⟩).mono ?_
 ·rintro pre x W hi ⟨hl,hk⟩ hU
  refine⟨fn,_,assign,body,run_yield (P:=P) (args:=enc x) hl (K1 x),roundIn_of_wpIn wj (wpIn_mono (aB _ pre x W hi hU) ?_)⟩;rintro e a' W' he
  cases e with
  |normal=>?_
  |_=>exact he.elim
  obtain⟨hj,gy⟩:=he;have dD:=gy.same _ _ (Y _) hl rfl;have Ip:=gy.same _ _ (U _) hk rfl;refine⟨_,run_beginRound dD rfl,?_⟩;have K0:w.heap.size+1<W'.heap.size:=(Array.getElem?_eq_some_iff.1 dD).1;have J2:(W'.putObj (w.heap.size+1) (.loop {j .ready none with state:= .busy})).heap[w.heap.size+1]? =some (.loop {j .ready none with state:= .busy}):=Z K0;have Iq:=(G W' (.loop {j .ready none with state:= .busy})).trans Ip;refine wpIn_mono (bE _ pre x _ _ (M (J:= λpre W=>J pre x a' W) _ (hJ x a') hj dD) hU) ?_
  have fin:∀(C:Option Code)(K:World),KeepsFrom w.heap.size (W'.putObj (w.heap.size+1) (.loop {j .ready none with state:= .busy})) K->
    ∃st,st=(if C.isNone then LoopState.ready else .done)/\(Instr.endRound (w.heap.size+1) C).run P K= .ok (X C.isNone) (K.putObj (w.heap.size+1) (.loop (j st C)))/\
    K.heap[w.heap.size+1]? =some (.loop {j .ready none with state:= .busy})/\
    (K.putObj (w.heap.size+1) (.loop (j st C))).heap[w.heap.size+1]? =some (.loop (j st C))/\
    (K.putObj (w.heap.size+1) (.loop (j st C))).heap[w.heap.size]? =some (.deferred (some [])):= λC K T=>by
   have N:=T.same _ _ (Y _) J2 rfl;exact⟨_,rfl,run_endRound (P:=P) C N,N,Z (Array.getElem?_eq_some_iff.1 N).1,(G K _).trans (T.same _ _ (U _) Iq rfl)⟩
  have left:∀(c:Code)(K:World),KeepsFrom w.heap.size (W'.putObj (w.heap.size+1) (.loop {j .ready none with state:= .busy})) K->Ix c (pre++[x]) K->
    ∃v w',(Instr.endRound (w.heap.size+1) (some c)).run P K= .ok v w'/\((Ending.returned v=O (X true)/\I2 (pre++[x]) w'/\(w'.heap[w.heap.size+1]? =some (.loop (j .ready none))/\w'.heap[w.heap.size]? =some (.deferred (some []))))\/
     (Ending.returned v=O (X false)/\∃c,Ix c (pre++[x]) w'/\w'.heap[w.heap.size+1]? =some (.loop (j .done (some c)))/\w'.heap[w.heap.size]? =some (.deferred (some [])))):= λc K T K3=>by
   obtain⟨st,rfl,hr,N,dE,dt⟩:=fin (some c) K T;exact⟨_,_,hr,.inr ⟨rfl,c,M _ (hIx c) K3 N,dE,dt⟩⟩
  rintro e a3 K hp
  cases e with
  |normal=>
   obtain⟨T,K4,Io⟩:=hp;obtain⟨st,rfl,hr,N,dE,dt⟩:=fin none K T;exact⟨_,_,hr,.inl ⟨rfl,M _ jT Io N,dE,dt⟩⟩
  |ret=>exact left .ret K hp.1 hp.2
  |exit id=>exact left (.exit id) K hp.1 hp.2
  |goto t=>exact left (.goto t) K hp.1 hp.2
  |panic ch=>exact hp.elim
  |outgrown=>exact hp.elim
 ·rintro e W2 ⟨⟨v,rfl⟩,(⟨xs,hS,hi,hl,hk⟩|⟨pre,rX,c,hi,hl,hk⟩)⟩
  ·exact⟨none,_,run_endLoop (P:=P) hl (by simp[j]),cz _ xs _ (U _) hS (M _ kz hi hl) ((G _ _).trans hk)⟩
  ·exact⟨some c,_,run_endLoop (P:=P) hl (by simp[j]),dY _ c pre _ (U _) rX (M _ (hIx c) hi hl) ((G _ _).trans hk)⟩
theorem tE {α:Type}{F:Fence}{n:Nat}{P:Program}{g:Operand}{ps:Array Tmp}{j body:Code}{Q:Exit->Act->World->Prop}{a:Act}{w:World}
  (dE:F.round=none) (h1:1<=n) {gf:Nat} {lb:Array Value} (hg:a.eval g= .func (.func gf) #[] lb) (aB:F.fn gf) (eg:∀args w,(callFunc gf args).run P w= .ok (.enter gf args) w)
  {enc:α->Array Value} {IS I I2 IE:List α->World->Prop} {S Sp:List α->Prop} (N:wO F (n - 1) P gf lb enc IS I I2 IE S Sp) (dD:∀x,(enc x).size=ps.size)
  (T:Code->List α->World->Prop) (J:List α->α->Nat->World->Prop) (cz:OwnFrom w.heap.size IS) (bE:OwnFrom w.heap.size IE) (aC:OwnFrom w.heap.size I2) (hIx:∀c,OwnFrom w.heap.size (T c)) (hJ:∀x k,OwnFrom w.heap.size (λpre W=>J pre x k W)) (h0:IS [] w)
  (B:∃A:α->Nat->Act,
   (∀(l:Nat)(pre:List α)(x:α)(W:World),I pre W->Sp (pre++[x])->j.wpIn (F.inRound l) (n - 1 - 1) P (Exit.then (λK W'=>(∃k,K=A x k/\J pre x k W')/\KeepsFrom w.heap.size W W') (λ_ _ _=>False)) {tmps:=(ps.zip (enc x)).foldl (λt (p,v)=>t.setIfInBounds p v) a.tmps,defers:=[]} W)/\
   (∀(l:Nat)(pre:List α)(x:α)(k:Nat)(W:World),J pre x k W->Sp (pre++[x])->body.wpIn (F.inRound l) (n - 1 - 1) P (ownPostG w.heap.size (λ_ _=>True) I2 T (pre++[x]) W) (A x k) W))
  (C:∀(D:Nat)(xs:List α)(W:World),w.heap.size<=D->S xs->IE xs W->W.heap[D]? =some (.deferred (some []))->Q .normal {a with defers:={target:= .collected D,args:= #[]}::a.defers} W)
  (G:∀(D:Nat)(c:Code)(pre:List α)(W:World),w.heap.size<=D->Sp pre->T c pre W->W.heap[D]? =some (.deferred (some []))->c.wpIn F n P Q {a with defers:={target:= .collected D,args:= #[]}::a.defers} W):
  (Code.rangeFunc g ps j body).wpIn F n P Q a w:=by
 obtain⟨A,ha,hb⟩:=B;refine Kv dE h1 hg aB eg N dD T (λpre x K W=>∃k,K=A x k/\J pre x k W) cz bE aC hIx (λx K s W W' row hs dt hr=>?_) h0 ha (λl pre x K W M dY=>?_) C G
 ·obtain⟨k,e,M⟩:=hs
  exact⟨k,e,hJ x k s W W' row M dt hr⟩
 ·obtain⟨k,rfl,M⟩:=M
  exact hb l pre x k W M dY
def BR {α:Type} (F:Fence) (n:Nat) (P:Program) (g:Nat) (lb:Array Value) (enc:α->Array Value) (IS:List α->World->Prop) (I:List α->α->World->Prop) (I2 IE:List α->World->Prop) (S Sp:List α->Prop) (St:World->Prop):Prop:=
 ∀(l:Nat)(K:World->Prop)(B:List α->World->Prop)(W:World),lq K->(∀pre W,B pre W->St W)->
  (∀pre x C,I pre x C->K C->Sp (pre++[x])->YieldAt F (n - 1) P l (enc x) C λe j=>(e=O (X true)/\I2 (pre++[x]) j/\K j)\/(e=O (X false)/\B (pre++[x]) j))->
  IS [] W->K W->CallsIn F n P g (#[.func (.yield l) #[] #[]]++lb) W λe j=>(∃v,e=O v)/\((∃xs,S xs/\IE xs j/\K j)\/(∃pre,Sp pre/\B pre j))
theorem Kw {α:Type}{F:Fence}{n:Nat}{P:Program}{g:Operand}{ps:Array Tmp}{assign body:Code}{Q:Exit->Act->World->Prop}{a:Act}{w:World}
  (K4:F.round=none) (h1:1<=n) {gf:Nat} {lb:Array Value} (hg:a.eval g= .func (.func gf) #[] lb) (ja:F.fn gf) (eg:∀args w,(callFunc gf args).run P w= .ok (.enter gf args) w)
  {enc:α->Array Value} {IS:List α->World->Prop} {I:List α->α->World->Prop} {I2 IE:List α->World->Prop} {S Sp:List α->Prop} {St:World->Prop} (gJ:BR F (n - 1) P gf lb enc IS I I2 IE S Sp St) (K3:∀x,(enc x).size=ps.size)
  (Ix:Code->List α->World->Prop) (wj:∀c pre W,Ix c pre W->St W) (J:List α->α->Act->World->Prop) (eE:OwnFrom w.heap.size IS) (kz:OwnFrom w.heap.size IE) (jT:OwnFrom w.heap.size I2) (hIx:∀c,OwnFrom w.heap.size (Ix c)) (hJ:∀x a',OwnFrom w.heap.size (λpre W=>J pre x a' W)) (h0:IS [] w)
  (aB:∀(l:Nat)(pre:List α)(x:α)(W:World),I pre x W->Sp (pre++[x])->assign.wpIn (F.inRound l) (n - 1 - 1) P (Exit.then (λa' W'=>J pre x a' W'/\KeepsFrom w.heap.size W W') (λ_ _ _=>False)) {tmps:=(ps.zip (enc x)).foldl (λt (p,v)=>t.setIfInBounds p v) a.tmps,defers:=[]} W)
  (bE:∀(l:Nat)(pre:List α)(x:α)(a':Act)(W:World),J pre x a' W->Sp (pre++[x])->body.wpIn (F.inRound l) (n - 1 - 1) P (ownPostG w.heap.size (λ_ _=>True) I2 Ix (pre++[x]) W) a' W)
  (cz:∀(D:Nat)(xs:List α)(W:World),w.heap.size<=D->S xs->IE xs W->W.heap[D]? =some (.deferred (some []))->Q .normal {a with defers:={target:= .collected D,args:= #[]}::a.defers} W)
  (dY:∀(D:Nat)(c:Code)(pre:List α)(W:World),w.heap.size<=D->Sp pre->Ix c pre W->W.heap[D]? =some (.deferred (some []))->c.wpIn F n P Q {a with defers:={target:= .collected D,args:= #[]}::a.defers} W):
  (Code.rangeFunc g ps assign body).wpIn F n P Q a w:=by
 refine wpIn_rangeFunc λfn Io=>?_;rw[K4]
 let j:LoopState->Option Code->Loop:= λst pe=>{state:=st,pending:=pe,fn,tmps:=a.tmps,params:=ps,assign,body,defers:=w.heap.size}
 let W1:World:=(w.alloc (.deferred (some []))).alloc (.loop (j .ready none))
 have hL:W1.heap[w.heap.size+1]? =some (.loop (j .ready none)):=by
  have:=V (w.alloc (.deferred (some []))) (.loop (j .ready none));rwa [OC] at this
 have hD:W1.heap[w.heap.size]? =some (.deferred (some [])):=(Below.heap_alloc _ _ _ (by simp)).trans (V w _)
 refine⟨w.heap.size+1,[{target:= .collected w.heap.size,args:= #[]}],W1,{target:= .fn (.func gf) lb,args:= #[.func (.yield (w.heap.size+1)) #[] #[]]},W1,gf,
  #[.func (.yield (w.heap.size+1)) #[] #[]]++lb,W1,run_enterLoop_outer _ _ _ _ _,?_,?_,?_,λ_=>h1,?_⟩
 ·simp only[resolve,hg];simp[go_sem]
 ·intro f' fW;simp[Target.leads] at fW;subst fW;exact ja
 ·simp[invoke,go_sem,eg]
 have M:∀{s:List α}{J:List α->World->Prop}{W:World}{r:Loop}(o:Obj),OwnFrom w.heap.size J->J s W->W.heap[w.heap.size+1]? =some (.loop r)->J s (W.putObj (w.heap.size+1) o):=
  λo hJ hs hl=>hJ.putObj _ hs (Y _) hl rfl
 have G:∀(W:World)(o:Obj),(W.putObj (w.heap.size+1) o).heap[w.heap.size]? =W.heap[w.heap.size]? := λW o=>OA (OD (OB _))
 refine(gJ (w.heap.size+1)
  (λW=>W.heap[w.heap.size+1]? =some (.loop (j .ready none))/\W.heap[w.heap.size]? =some (.deferred (some [])))
  (λpre W=>∃c,Ix c pre W/\W.heap[w.heap.size+1]? =some (.loop (j .done (some c)))/\W.heap[w.heap.size]? =some (.deferred (some [])))
  W1 (λA B hK aC=>⟨aC _ _ hK.1 rfl,aC _ _ hK.2 rfl⟩) (λpre W ⟨c,Iq,_⟩=>wj c pre W Iq) ?_ (eE.alloc _ (eE.alloc _ h0)) ⟨hL,hD⟩).mono ?_
 ·rintro pre x W hi ⟨hl,hk⟩ hU
  refine⟨fn,_,assign,body,run_yield (P:=P) (args:=enc x) hl (K3 x),roundIn_of_wpIn Io (wpIn_mono (aB _ pre x W hi hU) ?_)⟩;rintro e a' W' he
  cases e with
  |normal=>?_
  |_=>exact he.elim
  obtain⟨hj,gy⟩:=he;have dD:=gy.same _ _ (Y _) hl rfl;have J2:=gy.same _ _ (U _) hk rfl;refine⟨_,run_beginRound dD rfl,?_⟩;have K2:w.heap.size+1<W'.heap.size:=(Array.getElem?_eq_some_iff.1 dD).1;have K1:(W'.putObj (w.heap.size+1) (.loop {j .ready none with state:= .busy})).heap[w.heap.size+1]? =some (.loop {j .ready none with state:= .busy}):=Z K2;have K0:=(G W' (.loop {j .ready none with state:= .busy})).trans J2;refine wpIn_mono (bE _ pre x _ _ (M (J:= λpre W=>J pre x a' W) _ (hJ x a') hj dD) hU) ?_
  have fin:∀(C:Option Code)(K:World),KeepsFrom w.heap.size (W'.putObj (w.heap.size+1) (.loop {j .ready none with state:= .busy})) K->
    ∃st,st=(if C.isNone then LoopState.ready else .done)/\(Instr.endRound (w.heap.size+1) C).run P K= .ok (X C.isNone) (K.putObj (w.heap.size+1) (.loop (j st C)))/\
    K.heap[w.heap.size+1]? =some (.loop {j .ready none with state:= .busy})/\
    (K.putObj (w.heap.size+1) (.loop (j st C))).heap[w.heap.size+1]? =some (.loop (j st C))/\
    (K.putObj (w.heap.size+1) (.loop (j st C))).heap[w.heap.size]? =some (.deferred (some [])):= λC K T=>by
   have N:=T.same _ _ (Y _) K1 rfl;exact⟨_,rfl,run_endRound (P:=P) C N,N,Z (Array.getElem?_eq_some_iff.1 N).1,(G K _).trans (T.same _ _ (U _) K0 rfl)⟩
  have left:∀(c:Code)(K:World),KeepsFrom w.heap.size (W'.putObj (w.heap.size+1) (.loop {j .ready none with state:= .busy})) K->Ix c (pre++[x]) K->
    ∃v w',(Instr.endRound (w.heap.size+1) (some c)).run P K= .ok v w'/\((Ending.returned v=O (X true)/\I2 (pre++[x]) w'/\(w'.heap[w.heap.size+1]? =some (.loop (j .ready none))/\w'.heap[w.heap.size]? =some (.deferred (some []))))\/
     (Ending.returned v=O (X false)/\∃c,Ix c (pre++[x]) w'/\w'.heap[w.heap.size+1]? =some (.loop (j .done (some c)))/\w'.heap[w.heap.size]? =some (.deferred (some [])))):= λc K T K5=>by
   obtain⟨st,rfl,hr,N,dE,dt⟩:=fin (some c) K T;exact⟨_,_,hr,.inr ⟨rfl,c,M _ (hIx c) K5 N,dE,dt⟩⟩
  rintro e a3 K hp
  cases e with
  |normal=>
   obtain⟨T,K6,Ip⟩:=hp;obtain⟨st,rfl,hr,N,dE,dt⟩:=fin none K T;exact⟨_,_,hr,.inl ⟨rfl,M _ jT Ip N,dE,dt⟩⟩
  |ret=>exact left .ret K hp.1 hp.2
  |exit id=>exact left (.exit id) K hp.1 hp.2
  |goto t=>exact left (.goto t) K hp.1 hp.2
  |panic ch=>exact hp.elim
  |outgrown=>exact hp.elim
 ·rintro e W2 ⟨⟨v,rfl⟩,(⟨xs,hS,hi,hl,hk⟩|⟨pre,rX,c,hi,hl,hk⟩)⟩
  ·exact⟨none,_,run_endLoop (P:=P) hl (by simp[j]),cz _ xs _ (U _) hS (M _ kz hi hl) ((G _ _).trans hk)⟩
  ·exact⟨some c,_,run_endLoop (P:=P) hl (by simp[j]),dY _ c pre _ (U _) rX (M _ (hIx c) hi hl) ((G _ _).trans hk)⟩
theorem Kc {α:Type}{F:Fence}{n:Nat}{P:Program}{g:Operand}{ps:Array Tmp}{j body:Code}{Q:Exit->Act->World->Prop}{a:Act}{w:World}
  (dY:F.round=none) (h1:1<=n) {gf:Nat} {lb:Array Value} (hg:a.eval g= .func (.func gf) #[] lb) (aB:F.fn gf) (eg:∀args w,(callFunc gf args).run P w= .ok (.enter gf args) w)
  {enc:α->Array Value} {IS:List α->World->Prop} {I:List α->α->World->Prop} {I2 IE:List α->World->Prop} {S Sp:List α->Prop} {St:World->Prop} (T:BR F (n - 1) P gf lb enc IS I I2 IE S Sp St) (dE:∀x,(enc x).size=ps.size)
  (K:Code->List α->World->Prop) (dt:∀c pre W,K c pre W->St W) (J:List α->α->Nat->World->Prop) (cz:OwnFrom w.heap.size IS) (bE:OwnFrom w.heap.size IE) (aC:OwnFrom w.heap.size I2) (hIx:∀c,OwnFrom w.heap.size (K c)) (hJ:∀x k,OwnFrom w.heap.size (λpre W=>J pre x k W)) (h0:IS [] w)
  (B:∃A:α->Nat->Act,
   (∀(l:Nat)(pre:List α)(x:α)(W:World),I pre x W->Sp (pre++[x])->j.wpIn (F.inRound l) (n - 1 - 1) P (Exit.then (λM W'=>(∃k,M=A x k/\J pre x k W')/\KeepsFrom w.heap.size W W') (λ_ _ _=>False)) {tmps:=(ps.zip (enc x)).foldl (λt (p,v)=>t.setIfInBounds p v) a.tmps,defers:=[]} W)/\
   (∀(l:Nat)(pre:List α)(x:α)(k:Nat)(W:World),J pre x k W->Sp (pre++[x])->body.wpIn (F.inRound l) (n - 1 - 1) P (ownPostG w.heap.size (λ_ _=>True) I2 K (pre++[x]) W) (A x k) W))
  (C:∀(D:Nat)(xs:List α)(W:World),w.heap.size<=D->S xs->IE xs W->W.heap[D]? =some (.deferred (some []))->Q .normal {a with defers:={target:= .collected D,args:= #[]}::a.defers} W)
  (G:∀(D:Nat)(c:Code)(pre:List α)(W:World),w.heap.size<=D->Sp pre->K c pre W->W.heap[D]? =some (.deferred (some []))->c.wpIn F n P Q {a with defers:={target:= .collected D,args:= #[]}::a.defers} W):
  (Code.rangeFunc g ps j body).wpIn F n P Q a w:=by
 obtain⟨A,ha,hb⟩:=B;refine Kw dY h1 hg aB eg T dE K dt (λpre x M W=>∃k,M=A x k/\J pre x k W) cz bE aC hIx (λx M s W W' row hs dD hr=>?_) h0 ha (λl pre x M W N eE=>?_) C G
 ·obtain⟨k,e,N⟩:=hs
  exact⟨k,e,hJ x k s W W' row N dD hr⟩
 ·obtain⟨k,rfl,N⟩:=N
  exact hb l pre x k W N eE
end Go.Proofs.YthhijgcfbjcgiaaGreatDoor
