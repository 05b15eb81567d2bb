/- Rng, RngW, RngX -/
import Derived.Test.YthhijgcfbjcgiaaGreatDoorT01
import Derived.RangeFuncNested
import Derived.RangeFuncBound
import Derived.OwnWalkIn
import Derived.TacticsInMore
import Derived.LoopNIn
import Derived.LoopIn
namespace Go.Proofs.YthhijgcfbjcgiaaGreatDoor
open Go Go.RowKit
open Go.Ending renaming returned→O
open Nat renaming le_refl→U,le_succ→Y,lt_succ_self→OB,ne_of_lt→OD
open Go.World renaming putObj_heap_same→Z,alloc_heap_new→V,putObj_heap_other→OA,size_alloc→OC
open Go.Value renaming bool→X
def li (K:World->Prop):Prop:=∀A B:World,K A->(∀(i:Nat)(o:Obj),A.heap[i]? =some o->o.isCells=false->B.heap[i]? =some o)->K B
theorem li.below {K:World->Prop}(h:li K){A B:World}(C:K A)(D:Below A.heap.size A B):K B:=
 h A B C λi _ j _=>(D.block i (Array.getElem?_eq_some_iff.1 j).1).trans j
theorem li.set {K:World->Prop}(h:li K){A:World}{p:Addr}{v:Value}{t:TypeId}{cs:Array Value}(C:K A)(B:ab A p.block t cs):K (A.setCell p v):=
 h A _ C λi o j D=>(Below.heap_setCell A p v i (λe=>by subst e;unfold ab at B;rw[B] at j;cases j;cases D)).trans j
def tc {α:Type} (F:Fence) (n:Nat) (P:Program) (g:Nat) (lb:Array Value) (enc:α->Array Value) (I I2:List α->World->Prop) (S Sp:List α->Prop):Prop:=
 ∀(l:Nat)(K:World->Prop)(C:List α->World->Prop)(W:World),li K->
  (∀pre x B,I pre B->K B->Sp (pre++[x])->YieldAt F (n - 1) P l (enc x) B λe j=>(e=O (X true)/\I2 (pre++[x]) j/\K j)\/(e=O (X false)/\C (pre++[x]) j))->
  I [] W->K W->CallsIn F n P g (#[.func (.yield l) #[] #[]]++lb) W λe j=>(∃v,e=O v)/\((∃xs,S xs/\I xs j/\K j)\/(∃pre,Sp pre/\C pre j))
theorem Kk {α:Type}{F:Fence}{n:Nat}{P:Program}{g:Operand}{ps:Array Tmp}{assign body:Code}{Q:Exit->Act->World->Prop}{a:Act}{w:World}
  (K3:F.round=none) (h1:1<=n) {gf:Nat} {lb:Array Value} (hg:a.eval g= .func (.func gf) #[] lb) (jg:F.fn gf) (eg:∀args w,(callFunc gf args).run P w= .ok (.enter gf args) w)
  {enc:α->Array Value} {I I2:List α->World->Prop} {S Sp:List α->Prop} (gj:tc F (n - 1) P gf lb enc I I2 S Sp) (K0:∀x,(enc x).size=ps.size)
  (Ix:Code->List α->World->Prop) (J:List α->α->Act->World->Prop) (hI:OwnFrom w.heap.size I) (jY:OwnFrom w.heap.size I2) (hIx:∀c,OwnFrom w.heap.size (Ix c)) (hJ:∀x a',OwnFrom w.heap.size (λpre W=>J pre x a' W)) (h0:I [] w)
  (av:∀(l:Nat)(pre:List α)(x:α)(W:World),I pre W->Sp (pre++[x])->assign.wpIn (F.inRound l) (n - 1 - 1) P (Exit.then (λa' W'=>J pre x a' W'/\KeepsFrom w.heap.size W W') (λ_ _ _=>False)) {tmps:=(ps.zip (enc x)).foldl (λt (p,v)=>t.setIfInBounds p v) a.tmps,defers:=[]} W)
  (bM:∀(l:Nat)(pre:List α)(x:α)(a':Act)(W:World),J pre x a' W->Sp (pre++[x])->body.wpIn (F.inRound l) (n - 1 - 1) P (ownPostG w.heap.size (λ_ _=>True) I2 Ix (pre++[x]) W) a' W)
  (cE:∀(D:Nat)(xs:List α)(W:World),w.heap.size<=D->S xs->I xs W->W.heap[D]? =some (.deferred (some []))->Q .normal {a with defers:={target:= .collected D,args:= #[]}::a.defers} W)
  (dO:∀(D:Nat)(c:Code)(pre:List α)(W:World),w.heap.size<=D->Sp pre->Ix c pre W->W.heap[D]? =some (.deferred (some []))->c.wpIn F n P Q {a with defers:={target:= .collected D,args:= #[]}::a.defers} W):
  (Code.rangeFunc g ps assign body).wpIn F n P Q a w:=by
 refine wpIn_rangeFunc λfn kU=>?_;rw[K3]
 let j:LoopState->Option Code->Loop:= λst pe=>{state:=st,pending:=pe,fn,tmps:=a.tmps,params:=ps,assign,body,defers:=w.heap.size}
 let W1:World:=(w.alloc (.deferred (some []))).alloc (.loop (j .ready none))
 have hL:W1.heap[w.heap.size+1]? =some (.loop (j .ready none)):=by
  have:=V (w.alloc (.deferred (some []))) (.loop (j .ready none));rwa [OC] at this
 have hD:W1.heap[w.heap.size]? =some (.deferred (some [])):=(Below.heap_alloc _ _ _ (by simp)).trans (V w _)
 refine⟨w.heap.size+1,[{target:= .collected w.heap.size,args:= #[]}],W1,{target:= .fn (.func gf) lb,args:= #[.func (.yield (w.heap.size+1)) #[] #[]]},W1,gf,
  #[.func (.yield (w.heap.size+1)) #[] #[]]++lb,W1,run_enterLoop_outer _ _ _ _ _,?_,?_,?_,λ_=>h1,?_⟩
 ·simp only[resolve,hg];simp[go_sem]
 ·intro f' eE;simp[Target.leads] at eE;subst eE;exact jg
 ·simp[invoke,go_sem,eg]
 have M:∀{s:List α}{J:List α->World->Prop}{W:World}{r:Loop}(o:Obj),OwnFrom w.heap.size J->J s W->W.heap[w.heap.size+1]? =some (.loop r)->J s (W.putObj (w.heap.size+1) o):=
  λo hJ hs hl=>hJ.putObj _ hs (Y _) hl rfl
 have G:∀(W:World)(o:Obj),(W.putObj (w.heap.size+1) o).heap[w.heap.size]? =W.heap[w.heap.size]? := λW o=>OA (OD (OB _))
 refine(gj (w.heap.size+1)
  (λW=>W.heap[w.heap.size+1]? =some (.loop (j .ready none))/\W.heap[w.heap.size]? =some (.deferred (some [])))
  (λpre W=>∃c,Ix c pre W/\W.heap[w.heap.size+1]? =some (.loop (j .done (some c)))/\W.heap[w.heap.size]? =some (.deferred (some [])))
  W1 (λA B hK aJ=>⟨aJ _ _ hK.1 rfl,aJ _ _ hK.2 rfl⟩) ?_ (hI.alloc _ (hI.alloc _ h0)) ⟨hL,hD⟩).mono ?_
 ·rintro pre x W hi ⟨hl,hk⟩ iP
  refine⟨fn,_,assign,body,run_yield (P:=P) (args:=enc x) hl (K0 x),roundIn_of_wpIn kU (wpIn_mono (av _ pre x W hi iP) ?_)⟩;rintro e a' W' he
  cases e with
  |normal=>?_
  |_=>exact he.elim
  obtain⟨hj,fJ⟩:=he;have dv:=fJ.same _ _ (Y _) hl rfl;have Hl:=fJ.same _ _ (U _) hk rfl;refine⟨_,run_beginRound dv rfl,?_⟩;have JT:w.heap.size+1<W'.heap.size:=(Array.getElem?_eq_some_iff.1 dv).1;have Hu:(W'.putObj (w.heap.size+1) (.loop {j .ready none with state:= .busy})).heap[w.heap.size+1]? =some (.loop {j .ready none with state:= .busy}):=Z JT;have Ht:=(G W' (.loop {j .ready none with state:= .busy})).trans Hl;refine wpIn_mono (bM _ pre x _ _ (M (J:= λpre W=>J pre x a' W) _ (hJ x a') hj dv) iP) ?_
  have fin:∀(C:Option Code)(K:World),KeepsFrom w.heap.size (W'.putObj (w.heap.size+1) (.loop {j .ready none with state:= .busy})) K->
    ∃st,st=(if C.isNone then LoopState.ready else .done)/\(Instr.endRound (w.heap.size+1) C).run P K= .ok (X C.isNone) (K.putObj (w.heap.size+1) (.loop (j st C)))/\
    K.heap[w.heap.size+1]? =some (.loop {j .ready none with state:= .busy})/\
    (K.putObj (w.heap.size+1) (.loop (j st C))).heap[w.heap.size+1]? =some (.loop (j st C))/\
    (K.putObj (w.heap.size+1) (.loop (j st C))).heap[w.heap.size]? =some (.deferred (some [])):= λC K T=>by
   have N:=T.same _ _ (Y _) Hu rfl;exact⟨_,rfl,run_endRound (P:=P) C N,N,Z (Array.getElem?_eq_some_iff.1 N).1,(G K _).trans (T.same _ _ (U _) Ht rfl)⟩
  have left:∀(c:Code)(K:World),KeepsFrom w.heap.size (W'.putObj (w.heap.size+1) (.loop {j .ready none with state:= .busy})) K->Ix c (pre++[x]) K->
    ∃v w',(Instr.endRound (w.heap.size+1) (some c)).run P K= .ok v w'/\((Ending.returned v=O (X true)/\I2 (pre++[x]) w'/\(w'.heap[w.heap.size+1]? =some (.loop (j .ready none))/\w'.heap[w.heap.size]? =some (.deferred (some []))))\/
     (Ending.returned v=O (X false)/\∃c,Ix c (pre++[x]) w'/\w'.heap[w.heap.size+1]? =some (.loop (j .done (some c)))/\w'.heap[w.heap.size]? =some (.deferred (some [])))):= λc K T K4=>by
   obtain⟨st,rfl,hr,N,dy,cI⟩:=fin (some c) K T;exact⟨_,_,hr,.inr ⟨rfl,c,M _ (hIx c) K4 N,dy,cI⟩⟩
  rintro e a3 K hp
  cases e with
  |normal=>
   obtain⟨T,K5,rG⟩:=hp;obtain⟨st,rfl,hr,N,dy,cI⟩:=fin none K T;exact⟨_,_,hr,.inl ⟨rfl,M _ jY rG N,dy,cI⟩⟩
  |ret=>exact left .ret K hp.1 hp.2
  |exit id=>exact left (.exit id) K hp.1 hp.2
  |goto t=>exact left (.goto t) K hp.1 hp.2
  |panic ch=>exact hp.elim
  |outgrown=>exact hp.elim
 ·rintro e W2 ⟨⟨v,rfl⟩,(⟨xs,hS,hi,hl,hk⟩|⟨pre,kA,c,hi,hl,hk⟩)⟩
  ·exact⟨none,_,run_endLoop (P:=P) hl (by simp[j]),cE _ xs _ (U _) hS (M _ hI hi hl) ((G _ _).trans hk)⟩
  ·exact⟨some c,_,run_endLoop (P:=P) hl (by simp[j]),dO _ c pre _ (U _) kA (M _ (hIx c) hi hl) ((G _ _).trans hk)⟩
theorem sY {α:Type}{F:Fence}{n:Nat}{P:Program}{g:Operand}{ps:Array Tmp}{j C:Code}{Q:Exit->Act->World->Prop}{a:Act}{w:World}
  (cI:F.round=none) (h1:1<=n) {gf:Nat} {lb:Array Value} (hg:a.eval g= .func (.func gf) #[] lb) (av:F.fn gf) (eg:∀args w,(callFunc gf args).run P w= .ok (.enter gf args) w)
  {enc:α->Array Value} {I I2:List α->World->Prop} {S Sp:List α->Prop} (T:tc F (n - 1) P gf lb enc I I2 S Sp) (cE:∀x,(enc x).size=ps.size)
  (Ix:Code->List α->World->Prop) (J:List α->α->Nat->World->Prop) (hI:OwnFrom w.heap.size I) (aJ:OwnFrom w.heap.size I2) (hIx:∀c,OwnFrom w.heap.size (Ix c)) (hJ:∀x k,OwnFrom w.heap.size (λpre W=>J pre x k W)) (h0:I [] w)
  (B:∃A:α->Nat->Act,
   (∀(l:Nat)(pre:List α)(x:α)(W:World),I pre W->Sp (pre++[x])->j.wpIn (F.inRound l) (n - 1 - 1) P (Exit.then (λM W'=>(∃k,M=A x k/\J pre x k W')/\KeepsFrom w.heap.size W W') (λ_ _ _=>False)) {tmps:=(ps.zip (enc x)).foldl (λt (p,v)=>t.setIfInBounds p v) a.tmps,defers:=[]} W)/\
   (∀(l:Nat)(pre:List α)(x:α)(k:Nat)(W:World),J pre x k W->Sp (pre++[x])->C.wpIn (F.inRound l) (n - 1 - 1) P (ownPostG w.heap.size (λ_ _=>True) I2 Ix (pre++[x]) W) (A x k) W))
  (G:∀(D:Nat)(xs:List α)(W:World),w.heap.size<=D->S xs->I xs W->W.heap[D]? =some (.deferred (some []))->Q .normal {a with defers:={target:= .collected D,args:= #[]}::a.defers} W)
  (K:∀(D:Nat)(c:Code)(pre:List α)(W:World),w.heap.size<=D->Sp pre->Ix c pre W->W.heap[D]? =some (.deferred (some []))->c.wpIn F n P Q {a with defers:={target:= .collected D,args:= #[]}::a.defers} W):
  (Code.rangeFunc g ps j C).wpIn F n P Q a w:=by
 obtain⟨A,ha,hb⟩:=B;refine Kk cI h1 hg av eg T cE Ix (λpre x M W=>∃k,M=A x k/\J pre x k W) hI aJ hIx (λx M s W W' row hs bM hr=>?_) h0 ha (λl pre x M W N dv=>?_) G K
 ·obtain⟨k,e,N⟩:=hs
  exact⟨k,e,hJ x k s W W' row N bM hr⟩
 ·obtain⟨k,rfl,N⟩:=N
  exact hb l pre x k W N dv
def wk {α:Type} (F:Fence) (n:Nat) (P:Program) (g:Nat) (lb:Array Value) (enc:α->Array Value) (IS I I2 IE:List α->World->Prop) (S Sp:List α->Prop):Prop:=
 ∀(l:Nat)(K:World->Prop)(C:List α->World->Prop)(W:World),li K->
  (∀pre x B,I pre B->K B->Sp (pre++[x])->YieldAt F (n - 1) P l (enc x) B λe j=>(e=O (X true)/\I2 (pre++[x]) j/\K j)\/(e=O (X false)/\C (pre++[x]) j))->
  IS [] W->K W->CallsIn F n P g (#[.func (.yield l) #[] #[]]++lb) W λe j=>(∃v,e=O v)/\((∃xs,S xs/\IE xs j/\K j)\/(∃pre,Sp pre/\C pre j))
theorem Kl {α:Type}{F:Fence}{n:Nat}{P:Program}{g:Operand}{ps:Array Tmp}{assign body:Code}{Q:Exit->Act->World->Prop}{a:Act}{w:World}
  (K5:F.round=none) (h1:1<=n) {gf:Nat} {lb:Array Value} (hg:a.eval g= .func (.func gf) #[] lb) (jY:F.fn gf) (eg:∀args w,(callFunc gf args).run P w= .ok (.enter gf args) w)
  {enc:α->Array Value} {IS I I2 IE:List α->World->Prop} {S Sp:List α->Prop} (iP:wk F (n - 1) P gf lb enc IS I I2 IE S Sp) (K4:∀x,(enc x).size=ps.size)
  (Ix:Code->List α->World->Prop) (J:List α->α->Act->World->Prop) (eE:OwnFrom w.heap.size IS) (kU:OwnFrom w.heap.size IE) (kA:OwnFrom w.heap.size I2) (hIx:∀c,OwnFrom w.heap.size (Ix c)) (hJ:∀x a',OwnFrom w.heap.size (λpre W=>J pre x a' W)) (h0:IS [] w)
  (av:∀(l:Nat)(pre:List α)(x:α)(W:World),I pre W->Sp (pre++[x])->assign.wpIn (F.inRound l) (n - 1 - 1) P (Exit.then (λa' W'=>J pre x a' W'/\KeepsFrom w.heap.size W W') (λ_ _ _=>False)) {tmps:=(ps.zip (enc x)).foldl (λt (p,v)=>t.setIfInBounds p v) a.tmps,defers:=[]} W)
  (bM:∀(l:Nat)(pre:List α)(x:α)(a':Act)(W:World),J pre x a' W->Sp (pre++[x])->body.wpIn (F.inRound l) (n - 1 - 1) P (ownPostG w.heap.size (λ_ _=>True) I2 Ix (pre++[x]) W) a' W)
  (cE:∀(D:Nat)(xs:List α)(W:World),w.heap.size<=D->S xs->IE xs W->W.heap[D]? =some (.deferred (some []))->Q .normal {a with defers:={target:= .collected D,args:= #[]}::a.defers} W)
  (dO:∀(D:Nat)(c:Code)(pre:List α)(W:World),w.heap.size<=D->Sp pre->Ix c pre W->W.heap[D]? =some (.deferred (some []))->c.wpIn F n P Q {a with defers:={target:= .collected D,args:= #[]}::a.defers} W):
  (Code.rangeFunc g ps assign body).wpIn F n P Q a w:=by
 refine wpIn_rangeFunc λfn Hl=>?_;rw[K5]
 let j:LoopState->Option Code->Loop:= λst pe=>{state:=st,pending:=pe,fn,tmps:=a.tmps,params:=ps,assign,body,defers:=w.heap.size}
 let W1:World:=(w.alloc (.deferred (some []))).alloc (.loop (j .ready none))
 have hL:W1.heap[w.heap.size+1]? =some (.loop (j .ready none)):=by
  have:=V (w.alloc (.deferred (some []))) (.loop (j .ready none));rwa [OC] at this
 have hD:W1.heap[w.heap.size]? =some (.deferred (some [])):=(Below.heap_alloc _ _ _ (by simp)).trans (V w _)
 refine⟨w.heap.size+1,[{target:= .collected w.heap.size,args:= #[]}],W1,{target:= .fn (.func gf) lb,args:= #[.func (.yield (w.heap.size+1)) #[] #[]]},W1,gf,
  #[.func (.yield (w.heap.size+1)) #[] #[]]++lb,W1,run_enterLoop_outer _ _ _ _ _,?_,?_,?_,λ_=>h1,?_⟩
 ·simp only[resolve,hg];simp[go_sem]
 ·intro f' fJ;simp[Target.leads] at fJ;subst fJ;exact jY
 ·simp[invoke,go_sem,eg]
 have M:∀{s:List α}{J:List α->World->Prop}{W:World}{r:Loop}(o:Obj),OwnFrom w.heap.size J->J s W->W.heap[w.heap.size+1]? =some (.loop r)->J s (W.putObj (w.heap.size+1) o):=
  λo hJ hs hl=>hJ.putObj _ hs (Y _) hl rfl
 have G:∀(W:World)(o:Obj),(W.putObj (w.heap.size+1) o).heap[w.heap.size]? =W.heap[w.heap.size]? := λW o=>OA (OD (OB _))
 refine(iP (w.heap.size+1)
  (λW=>W.heap[w.heap.size+1]? =some (.loop (j .ready none))/\W.heap[w.heap.size]? =some (.deferred (some [])))
  (λpre W=>∃c,Ix c pre W/\W.heap[w.heap.size+1]? =some (.loop (j .done (some c)))/\W.heap[w.heap.size]? =some (.deferred (some [])))
  W1 (λA B hK aJ=>⟨aJ _ _ hK.1 rfl,aJ _ _ hK.2 rfl⟩) ?_ (eE.alloc _ (eE.alloc _ h0)) ⟨hL,hD⟩).mono ?_
 ·rintro pre x W hi ⟨hl,hk⟩ jg
  refine⟨fn,_,assign,body,run_yield (P:=P) (args:=enc x) hl (K4 x),roundIn_of_wpIn Hl (wpIn_mono (av _ pre x W hi jg) ?_)⟩;rintro e a' W' he
  cases e with
  |normal=>?_
  |_=>exact he.elim
  obtain⟨hj,gj⟩:=he;have dv:=gj.same _ _ (Y _) hl rfl;have Hu:=gj.same _ _ (U _) hk rfl;refine⟨_,run_beginRound dv rfl,?_⟩;have K3:w.heap.size+1<W'.heap.size:=(Array.getElem?_eq_some_iff.1 dv).1;have K0:(W'.putObj (w.heap.size+1) (.loop {j .ready none with state:= .busy})).heap[w.heap.size+1]? =some (.loop {j .ready none with state:= .busy}):=Z K3;have JT:=(G W' (.loop {j .ready none with state:= .busy})).trans Hu;refine wpIn_mono (bM _ pre x _ _ (M (J:= λpre W=>J pre x a' W) _ (hJ x a') hj dv) jg) ?_
  have fin:∀(C:Option Code)(K:World),KeepsFrom w.heap.size (W'.putObj (w.heap.size+1) (.loop {j .ready none with state:= .busy})) K->
    ∃st,st=(if C.isNone then LoopState.ready else .done)/\(Instr.endRound (w.heap.size+1) C).run P K= .ok (X C.isNone) (K.putObj (w.heap.size+1) (.loop (j st C)))/\
    K.heap[w.heap.size+1]? =some (.loop {j .ready none with state:= .busy})/\
    (K.putObj (w.heap.size+1) (.loop (j st C))).heap[w.heap.size+1]? =some (.loop (j st C))/\
    (K.putObj (w.heap.size+1) (.loop (j st C))).heap[w.heap.size]? =some (.deferred (some [])):= λC K T=>by
   have N:=T.same _ _ (Y _) K0 rfl;exact⟨_,rfl,run_endRound (P:=P) C N,N,Z (Array.getElem?_eq_some_iff.1 N).1,(G K _).trans (T.same _ _ (U _) JT rfl)⟩
  have left:∀(c:Code)(K:World),KeepsFrom w.heap.size (W'.putObj (w.heap.size+1) (.loop {j .ready none with state:= .busy})) K->Ix c (pre++[x]) K->
    ∃v w',(Instr.endRound (w.heap.size+1) (some c)).run P K= .ok v w'/\((Ending.returned v=O (X true)/\I2 (pre++[x]) w'/\(w'.heap[w.heap.size+1]? =some (.loop (j .ready none))/\w'.heap[w.heap.size]? =some (.deferred (some []))))\/
     (Ending.returned v=O (X false)/\∃c,Ix c (pre++[x]) w'/\w'.heap[w.heap.size+1]? =some (.loop (j .done (some c)))/\w'.heap[w.heap.size]? =some (.deferred (some [])))):= λc K T K6=>by
   obtain⟨st,rfl,hr,N,dy,cI⟩:=fin (some c) K T;exact⟨_,_,hr,.inr ⟨rfl,c,M _ (hIx c) K6 N,dy,cI⟩⟩
  rintro e a3 K hp
  cases e with
  |normal=>
   obtain⟨T,K8,Ht⟩:=hp;obtain⟨st,rfl,hr,N,dy,cI⟩:=fin none K T;exact⟨_,_,hr,.inl ⟨rfl,M _ kA Ht N,dy,cI⟩⟩
  |ret=>exact left .ret K hp.1 hp.2
  |exit id=>exact left (.exit id) K hp.1 hp.2
  |goto t=>exact left (.goto t) K hp.1 hp.2
  |panic ch=>exact hp.elim
  |outgrown=>exact hp.elim
 ·rintro e W2 ⟨⟨v,rfl⟩,(⟨xs,hS,hi,hl,hk⟩|⟨pre,rG,c,hi,hl,hk⟩)⟩
  ·exact⟨none,_,run_endLoop (P:=P) hl (by simp[j]),cE _ xs _ (U _) hS (M _ kU hi hl) ((G _ _).trans hk)⟩
  ·exact⟨some c,_,run_endLoop (P:=P) hl (by simp[j]),dO _ c pre _ (U _) rG (M _ (hIx c) hi hl) ((G _ _).trans hk)⟩
theorem sZ {α:Type}{F:Fence}{n:Nat}{P:Program}{g:Operand}{ps:Array Tmp}{j C:Code}{Q:Exit->Act->World->Prop}{a:Act}{w:World}
  (dy:F.round=none) (h1:1<=n) {gf:Nat} {lb:Array Value} (hg:a.eval g= .func (.func gf) #[] lb) (av:F.fn gf) (eg:∀args w,(callFunc gf args).run P w= .ok (.enter gf args) w)
  {enc:α->Array Value} {IS I I2 IE:List α->World->Prop} {S Sp:List α->Prop} (T:wk F (n - 1) P gf lb enc IS I I2 IE S Sp) (dv:∀x,(enc x).size=ps.size)
  (Ix:Code->List α->World->Prop) (J:List α->α->Nat->World->Prop) (cE:OwnFrom w.heap.size IS) (bM:OwnFrom w.heap.size IE) (aJ:OwnFrom w.heap.size I2) (hIx:∀c,OwnFrom w.heap.size (Ix c)) (hJ:∀x k,OwnFrom w.heap.size (λpre W=>J pre x k W)) (h0:IS [] w)
  (B:∃A:α->Nat->Act,
   (∀(l:Nat)(pre:List α)(x:α)(W:World),I pre W->Sp (pre++[x])->j.wpIn (F.inRound l) (n - 1 - 1) P (Exit.then (λM W'=>(∃k,M=A x k/\J pre x k W')/\KeepsFrom w.heap.size W W') (λ_ _ _=>False)) {tmps:=(ps.zip (enc x)).foldl (λt (p,v)=>t.setIfInBounds p v) a.tmps,defers:=[]} W)/\
   (∀(l:Nat)(pre:List α)(x:α)(k:Nat)(W:World),J pre x k W->Sp (pre++[x])->C.wpIn (F.inRound l) (n - 1 - 1) P (ownPostG w.heap.size (λ_ _=>True) I2 Ix (pre++[x]) W) (A x k) W))
  (G:∀(D:Nat)(xs:List α)(W:World),w.heap.size<=D->S xs->IE xs W->W.heap[D]? =some (.deferred (some []))->Q .normal {a with defers:={target:= .collected D,args:= #[]}::a.defers} W)
  (K:∀(D:Nat)(c:Code)(pre:List α)(W:World),w.heap.size<=D->Sp pre->Ix c pre W->W.heap[D]? =some (.deferred (some []))->c.wpIn F n P Q {a with defers:={target:= .collected D,args:= #[]}::a.defers} W):
  (Code.rangeFunc g ps j C).wpIn F n P Q a w:=by
 obtain⟨A,ha,hb⟩:=B;refine Kl dy h1 hg av eg T dv Ix (λpre x M W=>∃k,M=A x k/\J pre x k W) cE bM aJ hIx (λx M s W W' row hs cI hr=>?_) h0 ha (λl pre x M W N dO=>?_) G K
 ·obtain⟨k,e,N⟩:=hs
  exact⟨k,e,hJ x k s W W' row N cI hr⟩
 ·obtain⟨k,rfl,N⟩:=N
  exact hb l pre x k W N dO
def BA {α:Type} (F:Fence) (n:Nat) (P:Program) (g:Nat) (lb:Array Value) (enc:α->Array Value) (IS:List α->World->Prop) (I:List α->α->World->Prop) (I2 IE:List α->World->Prop) (S Sp:List α->Prop) (St:World->Prop):Prop:=
 ∀(l:Nat)(K:World->Prop)(B:List α->World->Prop)(W:World),li K->(∀pre W,B pre W->St W)->
  (∀pre x C,I pre x C->K C->Sp (pre++[x])->YieldAt F (n - 1) P l (enc x) C λe j=>(e=O (X true)/\I2 (pre++[x]) j/\K j)\/(e=O (X false)/\B (pre++[x]) j))->
  IS [] W->K W->CallsIn F n P g (#[.func (.yield l) #[] #[]]++lb) W λe j=>(∃v,e=O v)/\((∃xs,S xs/\IE xs j/\K j)\/(∃pre,Sp pre/\B pre j))
theorem Km {α:Type}{F:Fence}{n:Nat}{P:Program}{g:Operand}{ps:Array Tmp}{assign body:Code}{Q:Exit->Act->World->Prop}{a:Act}{w:World}
  (K8:F.round=none) (h1:1<=n) {gf:Nat} {lb:Array Value} (hg:a.eval g= .func (.func gf) #[] lb) (jY:F.fn gf) (eg:∀args w,(callFunc gf args).run P w= .ok (.enter gf args) w)
  {enc:α->Array Value} {IS:List α->World->Prop} {I:List α->α->World->Prop} {I2 IE:List α->World->Prop} {S Sp:List α->Prop} {St:World->Prop} (iP:BA F (n - 1) P gf lb enc IS I I2 IE S Sp St) (K6:∀x,(enc x).size=ps.size)
  (Ix:Code->List α->World->Prop) (Hl:∀c pre W,Ix c pre W->St W) (J:List α->α->Act->World->Prop) (eE:OwnFrom w.heap.size IS) (kU:OwnFrom w.heap.size IE) (kA:OwnFrom w.heap.size I2) (hIx:∀c,OwnFrom w.heap.size (Ix c)) (hJ:∀x a',OwnFrom w.heap.size (λpre W=>J pre x a' W)) (h0:IS [] w)
  (av:∀(l:Nat)(pre:List α)(x:α)(W:World),I pre x W->Sp (pre++[x])->assign.wpIn (F.inRound l) (n - 1 - 1) P (Exit.then (λa' W'=>J pre x a' W'/\KeepsFrom w.heap.size W W') (λ_ _ _=>False)) {tmps:=(ps.zip (enc x)).foldl (λt (p,v)=>t.setIfInBounds p v) a.tmps,defers:=[]} W)
  (bM:∀(l:Nat)(pre:List α)(x:α)(a':Act)(W:World),J pre x a' W->Sp (pre++[x])->body.wpIn (F.inRound l) (n - 1 - 1) P (ownPostG w.heap.size (λ_ _=>True) I2 Ix (pre++[x]) W) a' W)
  (cE:∀(D:Nat)(xs:List α)(W:World),w.heap.size<=D->S xs->IE xs W->W.heap[D]? =some (.deferred (some []))->Q .normal {a with defers:={target:= .collected D,args:= #[]}::a.defers} W)
  (dO:∀(D:Nat)(c:Code)(pre:List α)(W:World),w.heap.size<=D->Sp pre->Ix c pre W->W.heap[D]? =some (.deferred (some []))->c.wpIn F n P Q {a with defers:={target:= .collected D,args:= #[]}::a.defers} W):
  (Code.rangeFunc g ps assign body).wpIn F n P Q a w:=by
 refine wpIn_rangeFunc λfn Ht=>?_;rw[K8]
 let j:LoopState->Option Code->Loop:= λst pe=>{state:=st,pending:=pe,fn,tmps:=a.tmps,params:=ps,assign,body,defers:=w.heap.size}
 let W1:World:=(w.alloc (.deferred (some []))).alloc (.loop (j .ready none))
 have hL:W1.heap[w.heap.size+1]? =some (.loop (j .ready none)):=by
  have:=V (w.alloc (.deferred (some []))) (.loop (j .ready none));rwa [OC] at this
 have hD:W1.heap[w.heap.size]? =some (.deferred (some [])):=(Below.heap_alloc _ _ _ (by simp)).trans (V w _)
 refine⟨w.heap.size+1,[{target:= .collected w.heap.size,args:= #[]}],W1,{target:= .fn (.func gf) lb,args:= #[.func (.yield (w.heap.size+1)) #[] #[]]},W1,gf,
  #[.func (.yield (w.heap.size+1)) #[] #[]]++lb,W1,run_enterLoop_outer _ _ _ _ _,?_,?_,?_,λ_=>h1,?_⟩
 ·simp only[resolve,hg];simp[go_sem]
 ·intro f' fJ;simp[Target.leads] at fJ;subst fJ;exact jY
 ·simp[invoke,go_sem,eg]
 have M:∀{s:List α}{J:List α->World->Prop}{W:World}{r:Loop}(o:Obj),OwnFrom w.heap.size J->J s W->W.heap[w.heap.size+1]? =some (.loop r)->J s (W.putObj (w.heap.size+1) o):=
  λo hJ hs hl=>hJ.putObj _ hs (Y _) hl rfl
 have G:∀(W:World)(o:Obj),(W.putObj (w.heap.size+1) o).heap[w.heap.size]? =W.heap[w.heap.size]? := λW o=>OA (OD (OB _))
 refine(iP (w.heap.size+1)
  (λW=>W.heap[w.heap.size+1]? =some (.loop (j .ready none))/\W.heap[w.heap.size]? =some (.deferred (some [])))
  (λpre W=>∃c,Ix c pre W/\W.heap[w.heap.size+1]? =some (.loop (j .done (some c)))/\W.heap[w.heap.size]? =some (.deferred (some [])))
  W1 (λA B hK aJ=>⟨aJ _ _ hK.1 rfl,aJ _ _ hK.2 rfl⟩) (λpre W ⟨c,JT,_⟩=>Hl c pre W JT) ?_ (eE.alloc _ (eE.alloc _ h0)) ⟨hL,hD⟩).mono ?_
 ·rintro pre x W hi ⟨hl,hk⟩ jg
  refine⟨fn,_,assign,body,run_yield (P:=P) (args:=enc x) hl (K6 x),roundIn_of_wpIn Ht (wpIn_mono (av _ pre x W hi jg) ?_)⟩;rintro e a' W' he
  cases e with
  |normal=>?_
  |_=>exact he.elim
  obtain⟨hj,gj⟩:=he;have dv:=gj.same _ _ (Y _) hl rfl;have K0:=gj.same _ _ (U _) hk rfl;refine⟨_,run_beginRound dv rfl,?_⟩;have K5:w.heap.size+1<W'.heap.size:=(Array.getElem?_eq_some_iff.1 dv).1;have K4:(W'.putObj (w.heap.size+1) (.loop {j .ready none with state:= .busy})).heap[w.heap.size+1]? =some (.loop {j .ready none with state:= .busy}):=Z K5;have K3:=(G W' (.loop {j .ready none with state:= .busy})).trans K0;refine wpIn_mono (bM _ pre x _ _ (M (J:= λpre W=>J pre x a' W) _ (hJ x a') hj dv) jg) ?_
  have fin:∀(C:Option Code)(K:World),KeepsFrom w.heap.size (W'.putObj (w.heap.size+1) (.loop {j .ready none with state:= .busy})) K->
    ∃st,st=(if C.isNone then LoopState.ready else .done)/\(Instr.endRound (w.heap.size+1) C).run P K= .ok (X C.isNone) (K.putObj (w.heap.size+1) (.loop (j st C)))/\
    K.heap[w.heap.size+1]? =some (.loop {j .ready none with state:= .busy})/\
    (K.putObj (w.heap.size+1) (.loop (j st C))).heap[w.heap.size+1]? =some (.loop (j st C))/\
    (K.putObj (w.heap.size+1) (.loop (j st C))).heap[w.heap.size]? =some (.deferred (some [])):= λC K T=>by
   have N:=T.same _ _ (Y _) K4 rfl;exact⟨_,rfl,run_endRound (P:=P) C N,N,Z (Array.getElem?_eq_some_iff.1 N).1,(G K _).trans (T.same _ _ (U _) K3 rfl)⟩
  have left:∀(c:Code)(K:World),KeepsFrom w.heap.size (W'.putObj (w.heap.size+1) (.loop {j .ready none with state:= .busy})) K->Ix c (pre++[x]) K->
    ∃v w',(Instr.endRound (w.heap.size+1) (some c)).run P K= .ok v w'/\((Ending.returned v=O (X true)/\I2 (pre++[x]) w'/\(w'.heap[w.heap.size+1]? =some (.loop (j .ready none))/\w'.heap[w.heap.size]? =some (.deferred (some []))))\/
     (Ending.returned v=O (X false)/\∃c,Ix c (pre++[x]) w'/\w'.heap[w.heap.size+1]? =some (.loop (j .done (some c)))/\w'.heap[w.heap.size]? =some (.deferred (some [])))):= λc K T K9=>by
   obtain⟨st,rfl,hr,N,dy,cI⟩:=fin (some c) K T;exact⟨_,_,hr,.inr ⟨rfl,c,M _ (hIx c) K9 N,dy,cI⟩⟩
  rintro e a3 K hp
  cases e with
  |normal=>
   obtain⟨T,Kt,Hu⟩:=hp;obtain⟨st,rfl,hr,N,dy,cI⟩:=fin none K T;exact⟨_,_,hr,.inl ⟨rfl,M _ kA Hu N,dy,cI⟩⟩
  |ret=>exact left .ret K hp.1 hp.2
  |exit id=>exact left (.exit id) K hp.1 hp.2
  |goto t=>exact left (.goto t) K hp.1 hp.2
  |panic ch=>exact hp.elim
  |outgrown=>exact hp.elim
 ·rintro e W2 ⟨⟨v,rfl⟩,(⟨xs,hS,hi,hl,hk⟩|⟨pre,rG,c,hi,hl,hk⟩)⟩
  ·exact⟨none,_,run_endLoop (P:=P) hl (by simp[j]),cE _ xs _ (U _) hS (M _ kU hi hl) ((G _ _).trans hk)⟩
  ·exact⟨some c,_,run_endLoop (P:=P) hl (by simp[j]),dO _ c pre _ (U _) rG (M _ (hIx c) hi hl) ((G _ _).trans hk)⟩
theorem J2 {α:Type}{F:Fence}{n:Nat}{P:Program}{g:Operand}{ps:Array Tmp}{j C:Code}{Q:Exit->Act->World->Prop}{a:Act}{w:World}
  (eE:F.round=none) (h1:1<=n) {gf:Nat} {lb:Array Value} (hg:a.eval g= .func (.func gf) #[] lb) (aJ:F.fn gf) (eg:∀args w,(callFunc gf args).run P w= .ok (.enter gf args) w)
  {enc:α->Array Value} {IS:List α->World->Prop} {I:List α->α->World->Prop} {I2 IE:List α->World->Prop} {S Sp:List α->Prop} {St:World->Prop} (av:BA F (n - 1) P gf lb enc IS I I2 IE S Sp St) (dO:∀x,(enc x).size=ps.size)
  (M:Code->List α->World->Prop) (dv:∀c pre W,M c pre W->St W) (J:List α->α->Nat->World->Prop) (cI:OwnFrom w.heap.size IS) (cE:OwnFrom w.heap.size IE) (bM:OwnFrom w.heap.size I2) (hIx:∀c,OwnFrom w.heap.size (M c)) (hJ:∀x k,OwnFrom w.heap.size (λpre W=>J pre x k W)) (h0:IS [] w)
  (B:∃A:α->Nat->Act,
   (∀(l:Nat)(pre:List α)(x:α)(W:World),I pre x W->Sp (pre++[x])->j.wpIn (F.inRound l) (n - 1 - 1) P (Exit.then (λN W'=>(∃k,N=A x k/\J pre x k W')/\KeepsFrom w.heap.size W W') (λ_ _ _=>False)) {tmps:=(ps.zip (enc x)).foldl (λt (p,v)=>t.setIfInBounds p v) a.tmps,defers:=[]} W)/\
   (∀(l:Nat)(pre:List α)(x:α)(k:Nat)(W:World),J pre x k W->Sp (pre++[x])->C.wpIn (F.inRound l) (n - 1 - 1) P (ownPostG w.heap.size (λ_ _=>True) I2 M (pre++[x]) W) (A x k) W))
  (G:∀(D:Nat)(xs:List α)(W:World),w.heap.size<=D->S xs->IE xs W->W.heap[D]? =some (.deferred (some []))->Q .normal {a with defers:={target:= .collected D,args:= #[]}::a.defers} W)
  (K:∀(D:Nat)(c:Code)(pre:List α)(W:World),w.heap.size<=D->Sp pre->M c pre W->W.heap[D]? =some (.deferred (some []))->c.wpIn F n P Q {a with defers:={target:= .collected D,args:= #[]}::a.defers} W):
  (Code.rangeFunc g ps j C).wpIn F n P Q a w:=by
 obtain⟨A,ha,hb⟩:=B;refine Km eE h1 hg aJ eg av dO M dv (λpre x N W=>∃k,N=A x k/\J pre x k W) cI cE bM hIx (λx N s W W' row hs dy hr=>?_) h0 ha (λl pre x N W T fJ=>?_) G K
 ·obtain⟨k,e,T⟩:=hs
  exact⟨k,e,hJ x k s W W' row T dy hr⟩
 ·obtain⟨k,rfl,T⟩:=T
  exact hb l pre x k W T fJ
end Go.Proofs.YthhijgcfbjcgiaaGreatDoor
