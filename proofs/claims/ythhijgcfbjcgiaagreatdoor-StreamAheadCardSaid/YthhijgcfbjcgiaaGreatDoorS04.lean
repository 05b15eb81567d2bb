/- Rng, RngW, RngX -/
import Derived.Test.YthhijgcfbjcgiaaGreatDoorS01
import Derived.RangeFuncNested
import Derived.RangeFuncBound
import Derived.RangeFuncCalls
import Derived.RangeFuncLeaves
import Derived.OwnWalkIn
import Derived.TacticsInMore
import Derived.LoopNIn
import Derived.LoopIn
namespace Go.Proofs.YthhijgcfbjcgiaaGreatDoor
open Go Go.RowKit
open Nat renaming le_refl→zAA,le_succ→zAD,lt_succ_self→zAF,ne_of_lt→zAH
open Go.World renaming putObj_heap_same→zAB,alloc_heap_new→zAC,putObj_heap_other→zAE,size_alloc→zAG
def kT (K:World→Prop):Prop:=∀A B:World,K A→(∀(i:Nat) (o:Obj),A.heap[i]? =some o→o.isCells=false→B.heap[i]? =some o)→K B
theorem kT.below {K:World→Prop} (h:kT K) {A B:World} (hK:K A) (hb:Below A.heap.size A B):K B:=
 h A B hK fun i _ hi _=>(hb.block i (Array.getElem?_eq_some_iff.1 hi).1).trans hi
theorem kT.set {K:World→Prop} (h:kT K) {A:World} {p:Addr} {v:Value} {t:TypeId} {cs:Array Value} (hK:K A) (hp:ab A p.block t cs):K (A.setCell p v):=
 h A _ hK fun i o hi ho=>(Below.heap_setCell A p v i (fun e=>by subst e;unfold ab at hp;rw [hp] at hi;cases hi;cases ho)).trans hi
def ti {α:Type} (F:Fence) (n:Nat) (P:Program) (g:Nat) (lb:Array Value) (enc:α→Array Value) (I I2:List α→World→Prop) (S Sp:List α→Prop):Prop:=
 ∀(l:Nat) (K:World→Prop) (Jx:List α→World→Prop) (W:World),kT K→
  (∀pre x W1,I pre W1→K W1→Sp (pre++[x])→YieldAt F (n - 1) P l (enc x) W1 fun e W'=>(e= .returned (.bool true)∧I2 (pre++[x]) W'∧K W')∨(e= .returned (.bool false)∧Jx (pre++[x]) W'))→
  I [] W→K W→CallsIn F n P g (#[.func (.yield l) #[] #[]]++lb) W fun e W'=>(∃v,e= .returned v)∧((∃xs,S xs∧I xs W'∧K W')∨(∃pre,Sp pre∧Jx pre W'))
theorem J7 {α:Type} {F:Fence} {n:Nat} {P:Program} {g:Operand} {ps:Array Tmp} {assign body:Code} {Q:Exit→Act→World→Prop} {a:Act} {w:World}
  (hro:F.round=none) (h1:1≤n) {gf:Nat} {lb:Array Value} (hg:a.eval g= .func (.func gf) #[] lb) (hFg:F.fn gf) (eg:∀args w,(callFunc gf args).run P w= .ok (.enter gf args) w)
  {enc:α→Array Value} {I I2:List α→World→Prop} {S Sp:List α→Prop} (hseq:ti F (n - 1) P gf lb enc I I2 S Sp) (hps:∀x,(enc x).size=ps.size)
  (Ix:Code→List α→World→Prop) (J:List α→α→Act→World→Prop) (hI:OwnFrom w.heap.size I) (hI2:OwnFrom w.heap.size I2) (hIx:∀c,OwnFrom w.heap.size (Ix c)) (hJ:∀x a',OwnFrom w.heap.size (fun pre W=>J pre x a' W)) (h0:I [] w)
  (hassign:∀(l:Nat) (pre:List α) (x:α) (W:World),I pre W→Sp (pre++[x])→assign.wpIn (F.inRound l) (n - 1 - 1) P (Exit.then (fun a' W'=>J pre x a' W'∧KeepsFrom w.heap.size W W') (fun _ _ _=>False)) {tmps:=(ps.zip (enc x)).foldl (fun t (p,v)=>t.setIfInBounds p v) a.tmps,defers:=[]} W)
  (hbody:∀(l:Nat) (pre:List α) (x:α) (a':Act) (W:World),J pre x a' W→Sp (pre++[x])→body.wpIn (F.inRound l) (n - 1 - 1) P (ownPostG w.heap.size (fun _ _=>True) I2 Ix (pre++[x]) W) a' W)
  (hdone:∀(D:Nat) (xs:List α) (W:World),w.heap.size≤D→S xs→I xs W→W.heap[D]? =some (.deferred (some []))→Q .normal {a with defers:={target:= .collected D,args:= #[]}::a.defers} W)
  (hstop:∀(D:Nat) (c:Code) (pre:List α) (W:World),w.heap.size≤D→Sp pre→Ix c pre W→W.heap[D]? =some (.deferred (some []))→c.wpIn F n P Q {a with defers:={target:= .collected D,args:= #[]}::a.defers} W):
  (Code.rangeFunc g ps assign body).wpIn F n P Q a w:=by
 refine wpIn_rangeFunc fun fn hfn=>?_
 rw [hro]
 let rec':LoopState→Option Code→Loop:=fun st pe=>{state:=st,pending:=pe,fn,tmps:=a.tmps,params:=ps,assign,body,defers:=w.heap.size}
 let W1:World:=(w.alloc (.deferred (some []))).alloc (.loop (rec' .ready none))
 have hL:W1.heap[w.heap.size+1]? =some (.loop (rec' .ready none)):=by
  have:=zAC (w.alloc (.deferred (some []))) (.loop (rec' .ready none));rwa [zAG] at this
 have hD:W1.heap[w.heap.size]? =some (.deferred (some [])):=(Below.heap_alloc _ _ _ (by simp)).trans (zAC w _)
 refine ⟨w.heap.size+1,[{target:= .collected w.heap.size,args:= #[]}],W1,{target:= .fn (.func gf) lb,args:= #[.func (.yield (w.heap.size+1)) #[] #[]]},W1,gf,
  #[.func (.yield (w.heap.size+1)) #[] #[]]++lb,W1,run_enterLoop_outer _ _ _ _ _,?_,?_,?_,fun _=>h1,?_⟩
 ·simp only [resolve,hg];simp [go_sem]
 ·intro f' hf';simp [Target.leads] at hf';subst hf';exact hFg
 ·simp [invoke,go_sem,eg]
 have hput:∀{s:List α} {J:List α→World→Prop} {W:World} {r:Loop} (o:Obj),OwnFrom w.heap.size J→J s W→W.heap[w.heap.size+1]? =some (.loop r)→J s (W.putObj (w.heap.size+1) o):=
  fun o hJ hs hl=>hJ.putObj _ hs (zAD _) hl rfl
 have hother:∀(W:World) (o:Obj),(W.putObj (w.heap.size+1) o).heap[w.heap.size]? =W.heap[w.heap.size]? :=fun W o=>zAE (zAH (zAF _))
 refine (hseq (w.heap.size+1)
  (fun W=>W.heap[w.heap.size+1]? =some (.loop (rec' .ready none))∧W.heap[w.heap.size]? =some (.deferred (some [])))
  (fun pre W=>∃c,Ix c pre W∧W.heap[w.heap.size+1]? =some (.loop (rec' .done (some c)))∧W.heap[w.heap.size]? =some (.deferred (some [])))
  W1 (fun A B hK hkeep=>⟨hkeep _ _ hK.1 rfl,hkeep _ _ hK.2 rfl⟩) ?_ (hI.alloc _ (hI.alloc _ h0)) ⟨hL,hD⟩).mono ?_
 ·rintro pre x W hi ⟨hl,hk⟩ hsp
  refine ⟨fn,_,assign,body,run_yield (P:=P) (args:=enc x) hl (hps x),roundIn_of_wpIn hfn (wpIn_mono (hassign _ pre x W hi hsp) ?_)⟩
  rintro e a' W' he
  cases e with
  |normal=>?_
  |_=>exact he.elim
  obtain ⟨hj,hkf⟩:=he
  have hl':=hkf.same _ _ (zAD _) hl rfl
  have hk':=hkf.same _ _ (zAA _) hk rfl
  refine ⟨_,run_beginRound hl' rfl,?_⟩
  have hlt:w.heap.size+1<W'.heap.size:=(Array.getElem?_eq_some_iff.1 hl').1
  have hl2:(W'.putObj (w.heap.size+1) (.loop {rec' .ready none with state:= .busy})).heap[w.heap.size+1]? =some (.loop {rec' .ready none with state:= .busy}):=zAB hlt
  have hk2:=(hother W' (.loop {rec' .ready none with state:= .busy})).trans hk'
  refine wpIn_mono (hbody _ pre x _ _ (hput (J:=fun pre W=>J pre x a' W) _ (hJ x a') hj hl') hsp) ?_
  have fin:∀(jump:Option Code) (W3:World),KeepsFrom w.heap.size (W'.putObj (w.heap.size+1) (.loop {rec' .ready none with state:= .busy})) W3→
    ∃st,st=(if jump.isNone then LoopState.ready else .done)∧(Instr.endRound (w.heap.size+1) jump).run P W3= .ok (.bool jump.isNone) (W3.putObj (w.heap.size+1) (.loop (rec' st jump)))∧
    W3.heap[w.heap.size+1]? =some (.loop {rec' .ready none with state:= .busy})∧
    (W3.putObj (w.heap.size+1) (.loop (rec' st jump))).heap[w.heap.size+1]? =some (.loop (rec' st jump))∧
    (W3.putObj (w.heap.size+1) (.loop (rec' st jump))).heap[w.heap.size]? =some (.deferred (some [])):=fun jump W3 hk3=>by
   have hl3:=hk3.same _ _ (zAD _) hl2 rfl
   exact ⟨_,rfl,run_endRound (P:=P) jump hl3,hl3,zAB (Array.getElem?_eq_some_iff.1 hl3).1,(hother W3 _).trans (hk3.same _ _ (zAA _) hk2 rfl)⟩
  have left:∀(c:Code) (W3:World),KeepsFrom w.heap.size (W'.putObj (w.heap.size+1) (.loop {rec' .ready none with state:= .busy})) W3→Ix c (pre++[x]) W3→
    ∃v w',(Instr.endRound (w.heap.size+1) (some c)).run P W3= .ok v w'∧((Ending.returned v= .returned (.bool true)∧I2 (pre++[x]) w'∧(w'.heap[w.heap.size+1]? =some (.loop (rec' .ready none))∧w'.heap[w.heap.size]? =some (.deferred (some []))))∨
     (Ending.returned v= .returned (.bool false)∧∃c,Ix c (pre++[x]) w'∧w'.heap[w.heap.size+1]? =some (.loop (rec' .done (some c)))∧w'.heap[w.heap.size]? =some (.deferred (some [])))):=fun c W3 hk3 hx3=>by
   obtain ⟨st,rfl,hr,hl3,hl4,hk4⟩:=fin (some c) W3 hk3
   exact ⟨_,_,hr,.inr ⟨rfl,c,hput _ (hIx c) hx3 hl3,hl4,hk4⟩⟩
  rintro e a3 W3 hp
  cases e with
  |normal=>
   obtain ⟨hk3,hkp3,hi3⟩:=hp
   obtain ⟨st,rfl,hr,hl3,hl4,hk4⟩:=fin none W3 hk3
   exact ⟨_,_,hr,.inl ⟨rfl,hput _ hI2 hi3 hl3,hl4,hk4⟩⟩
  |ret=>exact left .ret W3 hp.1 hp.2
  |exit id=>exact left (.exit id) W3 hp.1 hp.2
  |goto t=>exact left (.goto t) W3 hp.1 hp.2
  |panic ch=>exact hp.elim
  |outgrown=>exact hp.elim
 ·rintro e W2 ⟨⟨v,rfl⟩,(⟨xs,hS,hi,hl,hk⟩|⟨pre,hSp,c,hi,hl,hk⟩)⟩
  ·exact ⟨none,_,run_endLoop (P:=P) hl (by simp [rec']),hdone _ xs _ (zAA _) hS (hput _ hI hi hl) ((hother _ _).trans hk)⟩
  ·exact ⟨some c,_,run_endLoop (P:=P) hl (by simp [rec']),hstop _ c pre _ (zAA _) hSp (hput _ (hIx c) hi hl) ((hother _ _).trans hk)⟩
theorem tb {α:Type} {F:Fence} {n:Nat} {P:Program} {g:Operand} {ps:Array Tmp} {assign body:Code} {Q:Exit→Act→World→Prop} {a:Act} {w:World}
  (hro:F.round=none) (h1:1≤n) {gf:Nat} {lb:Array Value} (hg:a.eval g= .func (.func gf) #[] lb) (hFg:F.fn gf) (eg:∀args w,(callFunc gf args).run P w= .ok (.enter gf args) w)
  {enc:α→Array Value} {I I2:List α→World→Prop} {S Sp:List α→Prop} (hseq:ti F (n - 1) P gf lb enc I I2 S Sp) (hps:∀x,(enc x).size=ps.size)
  (Ix:Code→List α→World→Prop) (J:List α→α→Nat→World→Prop) (hI:OwnFrom w.heap.size I) (hI2:OwnFrom w.heap.size I2) (hIx:∀c,OwnFrom w.heap.size (Ix c)) (hJ:∀x k,OwnFrom w.heap.size (fun pre W=>J pre x k W)) (h0:I [] w)
  (hround:∃A:α→Nat→Act,
   (∀(l:Nat) (pre:List α) (x:α) (W:World),I pre W→Sp (pre++[x])→assign.wpIn (F.inRound l) (n - 1 - 1) P (Exit.then (fun a' W'=>(∃k,a'=A x k∧J pre x k W')∧KeepsFrom w.heap.size W W') (fun _ _ _=>False)) {tmps:=(ps.zip (enc x)).foldl (fun t (p,v)=>t.setIfInBounds p v) a.tmps,defers:=[]} W)∧
   (∀(l:Nat) (pre:List α) (x:α) (k:Nat) (W:World),J pre x k W→Sp (pre++[x])→body.wpIn (F.inRound l) (n - 1 - 1) P (ownPostG w.heap.size (fun _ _=>True) I2 Ix (pre++[x]) W) (A x k) W))
  (hdone:∀(D:Nat) (xs:List α) (W:World),w.heap.size≤D→S xs→I xs W→W.heap[D]? =some (.deferred (some []))→Q .normal {a with defers:={target:= .collected D,args:= #[]}::a.defers} W)
  (hstop:∀(D:Nat) (c:Code) (pre:List α) (W:World),w.heap.size≤D→Sp pre→Ix c pre W→W.heap[D]? =some (.deferred (some []))→c.wpIn F n P Q {a with defers:={target:= .collected D,args:= #[]}::a.defers} W):
  (Code.rangeFunc g ps assign body).wpIn F n P Q a w:=by
 obtain ⟨A,ha,hb⟩:=hround
 refine J7 hro h1 hg hFg eg hseq hps Ix (fun pre x a' W=>∃k,a'=A x k∧J pre x k W) hI hI2 hIx (fun x a' s W W' row hs hgr hr=>?_) h0 ha (fun l pre x a' W hj hsp=>?_) hdone hstop
 ·obtain ⟨k,e,hj⟩:=hs
  exact ⟨k,e,hJ x k s W W' row hj hgr hr⟩
 ·obtain ⟨k,rfl,hj⟩:=hj
  exact hb l pre x k W hj hsp
def wj {α:Type} (F:Fence) (n:Nat) (P:Program) (g:Nat) (lb:Array Value) (enc:α→Array Value) (IS I I2 IE:List α→World→Prop) (S Sp:List α→Prop):Prop:=
 ∀(l:Nat) (K:World→Prop) (Jx:List α→World→Prop) (W:World),kT K→
  (∀pre x W1,I pre W1→K W1→Sp (pre++[x])→YieldAt F (n - 1) P l (enc x) W1 fun e W'=>(e= .returned (.bool true)∧I2 (pre++[x]) W'∧K W')∨(e= .returned (.bool false)∧Jx (pre++[x]) W'))→
  IS [] W→K W→CallsIn F n P g (#[.func (.yield l) #[] #[]]++lb) W fun e W'=>(∃v,e= .returned v)∧((∃xs,S xs∧IE xs W'∧K W')∨(∃pre,Sp pre∧Jx pre W'))
theorem J8 {α:Type} {F:Fence} {n:Nat} {P:Program} {g:Operand} {ps:Array Tmp} {assign body:Code} {Q:Exit→Act→World→Prop} {a:Act} {w:World}
  (hro:F.round=none) (h1:1≤n) {gf:Nat} {lb:Array Value} (hg:a.eval g= .func (.func gf) #[] lb) (hFg:F.fn gf) (eg:∀args w,(callFunc gf args).run P w= .ok (.enter gf args) w)
  {enc:α→Array Value} {IS I I2 IE:List α→World→Prop} {S Sp:List α→Prop} (hseq:wj F (n - 1) P gf lb enc IS I I2 IE S Sp) (hps:∀x,(enc x).size=ps.size)
  (Ix:Code→List α→World→Prop) (J:List α→α→Act→World→Prop) (hIS:OwnFrom w.heap.size IS) (hIE:OwnFrom w.heap.size IE) (hI2:OwnFrom w.heap.size I2) (hIx:∀c,OwnFrom w.heap.size (Ix c)) (hJ:∀x a',OwnFrom w.heap.size (fun pre W=>J pre x a' W)) (h0:IS [] w)
  (hassign:∀(l:Nat) (pre:List α) (x:α) (W:World),I pre W→Sp (pre++[x])→assign.wpIn (F.inRound l) (n - 1 - 1) P (Exit.then (fun a' W'=>J pre x a' W'∧KeepsFrom w.heap.size W W') (fun _ _ _=>False)) {tmps:=(ps.zip (enc x)).foldl (fun t (p,v)=>t.setIfInBounds p v) a.tmps,defers:=[]} W)
  (hbody:∀(l:Nat) (pre:List α) (x:α) (a':Act) (W:World),J pre x a' W→Sp (pre++[x])→body.wpIn (F.inRound l) (n - 1 - 1) P (ownPostG w.heap.size (fun _ _=>True) I2 Ix (pre++[x]) W) a' W)
  (hdone:∀(D:Nat) (xs:List α) (W:World),w.heap.size≤D→S xs→IE xs W→W.heap[D]? =some (.deferred (some []))→Q .normal {a with defers:={target:= .collected D,args:= #[]}::a.defers} W)
  (hstop:∀(D:Nat) (c:Code) (pre:List α) (W:World),w.heap.size≤D→Sp pre→Ix c pre W→W.heap[D]? =some (.deferred (some []))→c.wpIn F n P Q {a with defers:={target:= .collected D,args:= #[]}::a.defers} W):
  (Code.rangeFunc g ps assign body).wpIn F n P Q a w:=by
 refine wpIn_rangeFunc fun fn hfn=>?_
 rw [hro]
 let rec':LoopState→Option Code→Loop:=fun st pe=>{state:=st,pending:=pe,fn,tmps:=a.tmps,params:=ps,assign,body,defers:=w.heap.size}
 let W1:World:=(w.alloc (.deferred (some []))).alloc (.loop (rec' .ready none))
 have hL:W1.heap[w.heap.size+1]? =some (.loop (rec' .ready none)):=by
  have:=zAC (w.alloc (.deferred (some []))) (.loop (rec' .ready none));rwa [zAG] at this
 have hD:W1.heap[w.heap.size]? =some (.deferred (some [])):=(Below.heap_alloc _ _ _ (by simp)).trans (zAC w _)
 refine ⟨w.heap.size+1,[{target:= .collected w.heap.size,args:= #[]}],W1,{target:= .fn (.func gf) lb,args:= #[.func (.yield (w.heap.size+1)) #[] #[]]},W1,gf,
  #[.func (.yield (w.heap.size+1)) #[] #[]]++lb,W1,run_enterLoop_outer _ _ _ _ _,?_,?_,?_,fun _=>h1,?_⟩
 ·simp only [resolve,hg];simp [go_sem]
 ·intro f' hf';simp [Target.leads] at hf';subst hf';exact hFg
 ·simp [invoke,go_sem,eg]
 have hput:∀{s:List α} {J:List α→World→Prop} {W:World} {r:Loop} (o:Obj),OwnFrom w.heap.size J→J s W→W.heap[w.heap.size+1]? =some (.loop r)→J s (W.putObj (w.heap.size+1) o):=
  fun o hJ hs hl=>hJ.putObj _ hs (zAD _) hl rfl
 have hother:∀(W:World) (o:Obj),(W.putObj (w.heap.size+1) o).heap[w.heap.size]? =W.heap[w.heap.size]? :=fun W o=>zAE (zAH (zAF _))
 refine (hseq (w.heap.size+1)
  (fun W=>W.heap[w.heap.size+1]? =some (.loop (rec' .ready none))∧W.heap[w.heap.size]? =some (.deferred (some [])))
  (fun pre W=>∃c,Ix c pre W∧W.heap[w.heap.size+1]? =some (.loop (rec' .done (some c)))∧W.heap[w.heap.size]? =some (.deferred (some [])))
  W1 (fun A B hK hkeep=>⟨hkeep _ _ hK.1 rfl,hkeep _ _ hK.2 rfl⟩) ?_ (hIS.alloc _ (hIS.alloc _ h0)) ⟨hL,hD⟩).mono ?_
 ·rintro pre x W hi ⟨hl,hk⟩ hsp
  refine ⟨fn,_,assign,body,run_yield (P:=P) (args:=enc x) hl (hps x),roundIn_of_wpIn hfn (wpIn_mono (hassign _ pre x W hi hsp) ?_)⟩
  rintro e a' W' he
  cases e with
  |normal=>?_
  |_=>exact he.elim
  obtain ⟨hj,hkf⟩:=he
  have hl':=hkf.same _ _ (zAD _) hl rfl
  have hk':=hkf.same _ _ (zAA _) hk rfl
  refine ⟨_,run_beginRound hl' rfl,?_⟩
  have hlt:w.heap.size+1<W'.heap.size:=(Array.getElem?_eq_some_iff.1 hl').1
  have hl2:(W'.putObj (w.heap.size+1) (.loop {rec' .ready none with state:= .busy})).heap[w.heap.size+1]? =some (.loop {rec' .ready none with state:= .busy}):=zAB hlt
  have hk2:=(hother W' (.loop {rec' .ready none with state:= .busy})).trans hk'
  refine wpIn_mono (hbody _ pre x _ _ (hput (J:=fun pre W=>J pre x a' W) _ (hJ x a') hj hl') hsp) ?_
  have fin:∀(jump:Option Code) (W3:World),KeepsFrom w.heap.size (W'.putObj (w.heap.size+1) (.loop {rec' .ready none with state:= .busy})) W3→
    ∃st,st=(if jump.isNone then LoopState.ready else .done)∧(Instr.endRound (w.heap.size+1) jump).run P W3= .ok (.bool jump.isNone) (W3.putObj (w.heap.size+1) (.loop (rec' st jump)))∧
    W3.heap[w.heap.size+1]? =some (.loop {rec' .ready none with state:= .busy})∧
    (W3.putObj (w.heap.size+1) (.loop (rec' st jump))).heap[w.heap.size+1]? =some (.loop (rec' st jump))∧
    (W3.putObj (w.heap.size+1) (.loop (rec' st jump))).heap[w.heap.size]? =some (.deferred (some [])):=fun jump W3 hk3=>by
   have hl3:=hk3.same _ _ (zAD _) hl2 rfl
   exact ⟨_,rfl,run_endRound (P:=P) jump hl3,hl3,zAB (Array.getElem?_eq_some_iff.1 hl3).1,(hother W3 _).trans (hk3.same _ _ (zAA _) hk2 rfl)⟩
  have left:∀(c:Code) (W3:World),KeepsFrom w.heap.size (W'.putObj (w.heap.size+1) (.loop {rec' .ready none with state:= .busy})) W3→Ix c (pre++[x]) W3→
    ∃v w',(Instr.endRound (w.heap.size+1) (some c)).run P W3= .ok v w'∧((Ending.returned v= .returned (.bool true)∧I2 (pre++[x]) w'∧(w'.heap[w.heap.size+1]? =some (.loop (rec' .ready none))∧w'.heap[w.heap.size]? =some (.deferred (some []))))∨
     (Ending.returned v= .returned (.bool false)∧∃c,Ix c (pre++[x]) w'∧w'.heap[w.heap.size+1]? =some (.loop (rec' .done (some c)))∧w'.heap[w.heap.size]? =some (.deferred (some [])))):=fun c W3 hk3 hx3=>by
   obtain ⟨st,rfl,hr,hl3,hl4,hk4⟩:=fin (some c) W3 hk3
   exact ⟨_,_,hr,.inr ⟨rfl,c,hput _ (hIx c) hx3 hl3,hl4,hk4⟩⟩
  rintro e a3 W3 hp
  cases e with
  |normal=>
   obtain ⟨hk3,hkp3,hi3⟩:=hp
   obtain ⟨st,rfl,hr,hl3,hl4,hk4⟩:=fin none W3 hk3
   exact ⟨_,_,hr,.inl ⟨rfl,hput _ hI2 hi3 hl3,hl4,hk4⟩⟩
  |ret=>exact left .ret W3 hp.1 hp.2
  |exit id=>exact left (.exit id) W3 hp.1 hp.2
  |goto t=>exact left (.goto t) W3 hp.1 hp.2
  |panic ch=>exact hp.elim
  |outgrown=>exact hp.elim
 ·rintro e W2 ⟨⟨v,rfl⟩,(⟨xs,hS,hi,hl,hk⟩|⟨pre,hSp,c,hi,hl,hk⟩)⟩
  ·exact ⟨none,_,run_endLoop (P:=P) hl (by simp [rec']),hdone _ xs _ (zAA _) hS (hput _ hIE hi hl) ((hother _ _).trans hk)⟩
  ·exact ⟨some c,_,run_endLoop (P:=P) hl (by simp [rec']),hstop _ c pre _ (zAA _) hSp (hput _ (hIx c) hi hl) ((hother _ _).trans hk)⟩
theorem tc {α:Type} {F:Fence} {n:Nat} {P:Program} {g:Operand} {ps:Array Tmp} {assign body:Code} {Q:Exit→Act→World→Prop} {a:Act} {w:World}
  (hro:F.round=none) (h1:1≤n) {gf:Nat} {lb:Array Value} (hg:a.eval g= .func (.func gf) #[] lb) (hFg:F.fn gf) (eg:∀args w,(callFunc gf args).run P w= .ok (.enter gf args) w)
  {enc:α→Array Value} {IS I I2 IE:List α→World→Prop} {S Sp:List α→Prop} (hseq:wj F (n - 1) P gf lb enc IS I I2 IE S Sp) (hps:∀x,(enc x).size=ps.size)
  (Ix:Code→List α→World→Prop) (J:List α→α→Nat→World→Prop) (hIS:OwnFrom w.heap.size IS) (hIE:OwnFrom w.heap.size IE) (hI2:OwnFrom w.heap.size I2) (hIx:∀c,OwnFrom w.heap.size (Ix c)) (hJ:∀x k,OwnFrom w.heap.size (fun pre W=>J pre x k W)) (h0:IS [] w)
  (hround:∃A:α→Nat→Act,
   (∀(l:Nat) (pre:List α) (x:α) (W:World),I pre W→Sp (pre++[x])→assign.wpIn (F.inRound l) (n - 1 - 1) P (Exit.then (fun a' W'=>(∃k,a'=A x k∧J pre x k W')∧KeepsFrom w.heap.size W W') (fun _ _ _=>False)) {tmps:=(ps.zip (enc x)).foldl (fun t (p,v)=>t.setIfInBounds p v) a.tmps,defers:=[]} W)∧
   (∀(l:Nat) (pre:List α) (x:α) (k:Nat) (W:World),J pre x k W→Sp (pre++[x])→body.wpIn (F.inRound l) (n - 1 - 1) P (ownPostG w.heap.size (fun _ _=>True) I2 Ix (pre++[x]) W) (A x k) W))
  (hdone:∀(D:Nat) (xs:List α) (W:World),w.heap.size≤D→S xs→IE xs W→W.heap[D]? =some (.deferred (some []))→Q .normal {a with defers:={target:= .collected D,args:= #[]}::a.defers} W)
  (hstop:∀(D:Nat) (c:Code) (pre:List α) (W:World),w.heap.size≤D→Sp pre→Ix c pre W→W.heap[D]? =some (.deferred (some []))→c.wpIn F n P Q {a with defers:={target:= .collected D,args:= #[]}::a.defers} W):
  (Code.rangeFunc g ps assign body).wpIn F n P Q a w:=by
 obtain ⟨A,ha,hb⟩:=hround
 refine J8 hro h1 hg hFg eg hseq hps Ix (fun pre x a' W=>∃k,a'=A x k∧J pre x k W) hIS hIE hI2 hIx (fun x a' s W W' row hs hgr hr=>?_) h0 ha (fun l pre x a' W hj hsp=>?_) hdone hstop
 ·obtain ⟨k,e,hj⟩:=hs
  exact ⟨k,e,hJ x k s W W' row hj hgr hr⟩
 ·obtain ⟨k,rfl,hj⟩:=hj
  exact hb l pre x k W hj hsp
def Bs {α:Type} (F:Fence) (n:Nat) (P:Program) (g:Nat) (lb:Array Value) (enc:α→Array Value) (IS:List α→World→Prop) (I:List α→α→World→Prop) (I2 IE:List α→World→Prop) (S Sp:List α→Prop) (St:World→Prop):Prop:=
 ∀(l:Nat) (K:World→Prop) (Jx:List α→World→Prop) (W:World),kT K→(∀pre W,Jx pre W→St W)→
  (∀pre x W1,I pre x W1→K W1→Sp (pre++[x])→YieldAt F (n - 1) P l (enc x) W1 fun e W'=>(e= .returned (.bool true)∧I2 (pre++[x]) W'∧K W')∨(e= .returned (.bool false)∧Jx (pre++[x]) W'))→
  IS [] W→K W→CallsIn F n P g (#[.func (.yield l) #[] #[]]++lb) W fun e W'=>(∃v,e= .returned v)∧((∃xs,S xs∧IE xs W'∧K W')∨(∃pre,Sp pre∧Jx pre W'))
theorem J9 {α:Type} {F:Fence} {n:Nat} {P:Program} {g:Operand} {ps:Array Tmp} {assign body:Code} {Q:Exit→Act→World→Prop} {a:Act} {w:World}
  (hro:F.round=none) (h1:1≤n) {gf:Nat} {lb:Array Value} (hg:a.eval g= .func (.func gf) #[] lb) (hFg:F.fn gf) (eg:∀args w,(callFunc gf args).run P w= .ok (.enter gf args) w)
  {enc:α→Array Value} {IS:List α→World→Prop} {I:List α→α→World→Prop} {I2 IE:List α→World→Prop} {S Sp:List α→Prop} {St:World→Prop} (hseq:Bs F (n - 1) P gf lb enc IS I I2 IE S Sp St) (hps:∀x,(enc x).size=ps.size)
  (Ix:Code→List α→World→Prop) (hSt:∀c pre W,Ix c pre W→St W) (J:List α→α→Act→World→Prop) (hIS:OwnFrom w.heap.size IS) (hIE:OwnFrom w.heap.size IE) (hI2:OwnFrom w.heap.size I2) (hIx:∀c,OwnFrom w.heap.size (Ix c)) (hJ:∀x a',OwnFrom w.heap.size (fun pre W=>J pre x a' W)) (h0:IS [] w)
  (hassign:∀(l:Nat) (pre:List α) (x:α) (W:World),I pre x W→Sp (pre++[x])→assign.wpIn (F.inRound l) (n - 1 - 1) P (Exit.then (fun a' W'=>J pre x a' W'∧KeepsFrom w.heap.size W W') (fun _ _ _=>False)) {tmps:=(ps.zip (enc x)).foldl (fun t (p,v)=>t.setIfInBounds p v) a.tmps,defers:=[]} W)
  (hbody:∀(l:Nat) (pre:List α) (x:α) (a':Act) (W:World),J pre x a' W→Sp (pre++[x])→body.wpIn (F.inRound l) (n - 1 - 1) P (ownPostG w.heap.size (fun _ _=>True) I2 Ix (pre++[x]) W) a' W)
  (hdone:∀(D:Nat) (xs:List α) (W:World),w.heap.size≤D→S xs→IE xs W→W.heap[D]? =some (.deferred (some []))→Q .normal {a with defers:={target:= .collected D,args:= #[]}::a.defers} W)
  (hstop:∀(D:Nat) (c:Code) (pre:List α) (W:World),w.heap.size≤D→Sp pre→Ix c pre W→W.heap[D]? =some (.deferred (some []))→c.wpIn F n P Q {a with defers:={target:= .collected D,args:= #[]}::a.defers} W):
  (Code.rangeFunc g ps assign body).wpIn F n P Q a w:=by
 refine wpIn_rangeFunc fun fn hfn=>?_
 rw [hro]
 let rec':LoopState→Option Code→Loop:=fun st pe=>{state:=st,pending:=pe,fn,tmps:=a.tmps,params:=ps,assign,body,defers:=w.heap.size}
 let W1:World:=(w.alloc (.deferred (some []))).alloc (.loop (rec' .ready none))
 have hL:W1.heap[w.heap.size+1]? =some (.loop (rec' .ready none)):=by
  have:=zAC (w.alloc (.deferred (some []))) (.loop (rec' .ready none));rwa [zAG] at this
 have hD:W1.heap[w.heap.size]? =some (.deferred (some [])):=(Below.heap_alloc _ _ _ (by simp)).trans (zAC w _)
 refine ⟨w.heap.size+1,[{target:= .collected w.heap.size,args:= #[]}],W1,{target:= .fn (.func gf) lb,args:= #[.func (.yield (w.heap.size+1)) #[] #[]]},W1,gf,
  #[.func (.yield (w.heap.size+1)) #[] #[]]++lb,W1,run_enterLoop_outer _ _ _ _ _,?_,?_,?_,fun _=>h1,?_⟩
 ·simp only [resolve,hg];simp [go_sem]
 ·intro f' hf';simp [Target.leads] at hf';subst hf';exact hFg
 ·simp [invoke,go_sem,eg]
 have hput:∀{s:List α} {J:List α→World→Prop} {W:World} {r:Loop} (o:Obj),OwnFrom w.heap.size J→J s W→W.heap[w.heap.size+1]? =some (.loop r)→J s (W.putObj (w.heap.size+1) o):=
  fun o hJ hs hl=>hJ.putObj _ hs (zAD _) hl rfl
 have hother:∀(W:World) (o:Obj),(W.putObj (w.heap.size+1) o).heap[w.heap.size]? =W.heap[w.heap.size]? :=fun W o=>zAE (zAH (zAF _))
 refine (hseq (w.heap.size+1)
  (fun W=>W.heap[w.heap.size+1]? =some (.loop (rec' .ready none))∧W.heap[w.heap.size]? =some (.deferred (some [])))
  (fun pre W=>∃c,Ix c pre W∧W.heap[w.heap.size+1]? =some (.loop (rec' .done (some c)))∧W.heap[w.heap.size]? =some (.deferred (some [])))
  W1 (fun A B hK hkeep=>⟨hkeep _ _ hK.1 rfl,hkeep _ _ hK.2 rfl⟩) (fun pre W ⟨c,hix,_⟩=>hSt c pre W hix) ?_ (hIS.alloc _ (hIS.alloc _ h0)) ⟨hL,hD⟩).mono ?_
 ·rintro pre x W hi ⟨hl,hk⟩ hsp
  refine ⟨fn,_,assign,body,run_yield (P:=P) (args:=enc x) hl (hps x),roundIn_of_wpIn hfn (wpIn_mono (hassign _ pre x W hi hsp) ?_)⟩
  rintro e a' W' he
  cases e with
  |normal=>?_
  |_=>exact he.elim
  obtain ⟨hj,hkf⟩:=he
  have hl':=hkf.same _ _ (zAD _) hl rfl
  have hk':=hkf.same _ _ (zAA _) hk rfl
  refine ⟨_,run_beginRound hl' rfl,?_⟩
  have hlt:w.heap.size+1<W'.heap.size:=(Array.getElem?_eq_some_iff.1 hl').1
  have hl2:(W'.putObj (w.heap.size+1) (.loop {rec' .ready none with state:= .busy})).heap[w.heap.size+1]? =some (.loop {rec' .ready none with state:= .busy}):=zAB hlt
  have hk2:=(hother W' (.loop {rec' .ready none with state:= .busy})).trans hk'
  refine wpIn_mono (hbody _ pre x _ _ (hput (J:=fun pre W=>J pre x a' W) _ (hJ x a') hj hl') hsp) ?_
  have fin:∀(jump:Option Code) (W3:World),KeepsFrom w.heap.size (W'.putObj (w.heap.size+1) (.loop {rec' .ready none with state:= .busy})) W3→
    ∃st,st=(if jump.isNone then LoopState.ready else .done)∧(Instr.endRound (w.heap.size+1) jump).run P W3= .ok (.bool jump.isNone) (W3.putObj (w.heap.size+1) (.loop (rec' st jump)))∧
    W3.heap[w.heap.size+1]? =some (.loop {rec' .ready none with state:= .busy})∧
    (W3.putObj (w.heap.size+1) (.loop (rec' st jump))).heap[w.heap.size+1]? =some (.loop (rec' st jump))∧
    (W3.putObj (w.heap.size+1) (.loop (rec' st jump))).heap[w.heap.size]? =some (.deferred (some [])):=fun jump W3 hk3=>by
   have hl3:=hk3.same _ _ (zAD _) hl2 rfl
   exact ⟨_,rfl,run_endRound (P:=P) jump hl3,hl3,zAB (Array.getElem?_eq_some_iff.1 hl3).1,(hother W3 _).trans (hk3.same _ _ (zAA _) hk2 rfl)⟩
  have left:∀(c:Code) (W3:World),KeepsFrom w.heap.size (W'.putObj (w.heap.size+1) (.loop {rec' .ready none with state:= .busy})) W3→Ix c (pre++[x]) W3→
    ∃v w',(Instr.endRound (w.heap.size+1) (some c)).run P W3= .ok v w'∧((Ending.returned v= .returned (.bool true)∧I2 (pre++[x]) w'∧(w'.heap[w.heap.size+1]? =some (.loop (rec' .ready none))∧w'.heap[w.heap.size]? =some (.deferred (some []))))∨
     (Ending.returned v= .returned (.bool false)∧∃c,Ix c (pre++[x]) w'∧w'.heap[w.heap.size+1]? =some (.loop (rec' .done (some c)))∧w'.heap[w.heap.size]? =some (.deferred (some [])))):=fun c W3 hk3 hx3=>by
   obtain ⟨st,rfl,hr,hl3,hl4,hk4⟩:=fin (some c) W3 hk3
   exact ⟨_,_,hr,.inr ⟨rfl,c,hput _ (hIx c) hx3 hl3,hl4,hk4⟩⟩
  rintro e a3 W3 hp
  cases e with
  |normal=>
   obtain ⟨hk3,hkp3,hi3⟩:=hp
   obtain ⟨st,rfl,hr,hl3,hl4,hk4⟩:=fin none W3 hk3
   exact ⟨_,_,hr,.inl ⟨rfl,hput _ hI2 hi3 hl3,hl4,hk4⟩⟩
  |ret=>exact left .ret W3 hp.1 hp.2
  |exit id=>exact left (.exit id) W3 hp.1 hp.2
  |goto t=>exact left (.goto t) W3 hp.1 hp.2
  |panic ch=>exact hp.elim
  |outgrown=>exact hp.elim
 ·rintro e W2 ⟨⟨v,rfl⟩,(⟨xs,hS,hi,hl,hk⟩|⟨pre,hSp,c,hi,hl,hk⟩)⟩
  ·exact ⟨none,_,run_endLoop (P:=P) hl (by simp [rec']),hdone _ xs _ (zAA _) hS (hput _ hIE hi hl) ((hother _ _).trans hk)⟩
  ·exact ⟨some c,_,run_endLoop (P:=P) hl (by simp [rec']),hstop _ c pre _ (zAA _) hSp (hput _ (hIx c) hi hl) ((hother _ _).trans hk)⟩
theorem JP {α:Type} {F:Fence} {n:Nat} {P:Program} {g:Operand} {ps:Array Tmp} {assign body:Code} {Q:Exit→Act→World→Prop} {a:Act} {w:World}
  (hro:F.round=none) (h1:1≤n) {gf:Nat} {lb:Array Value} (hg:a.eval g= .func (.func gf) #[] lb) (hFg:F.fn gf) (eg:∀args w,(callFunc gf args).run P w= .ok (.enter gf args) w)
  {enc:α→Array Value} {IS:List α→World→Prop} {I:List α→α→World→Prop} {I2 IE:List α→World→Prop} {S Sp:List α→Prop} {St:World→Prop} (hseq:Bs F (n - 1) P gf lb enc IS I I2 IE S Sp St) (hps:∀x,(enc x).size=ps.size)
  (Ix:Code→List α→World→Prop) (hSt:∀c pre W,Ix c pre W→St W) (J:List α→α→Nat→World→Prop) (hIS:OwnFrom w.heap.size IS) (hIE:OwnFrom w.heap.size IE) (hI2:OwnFrom w.heap.size I2) (hIx:∀c,OwnFrom w.heap.size (Ix c)) (hJ:∀x k,OwnFrom w.heap.size (fun pre W=>J pre x k W)) (h0:IS [] w)
  (hround:∃A:α→Nat→Act,
   (∀(l:Nat) (pre:List α) (x:α) (W:World),I pre x W→Sp (pre++[x])→assign.wpIn (F.inRound l) (n - 1 - 1) P (Exit.then (fun a' W'=>(∃k,a'=A x k∧J pre x k W')∧KeepsFrom w.heap.size W W') (fun _ _ _=>False)) {tmps:=(ps.zip (enc x)).foldl (fun t (p,v)=>t.setIfInBounds p v) a.tmps,defers:=[]} W)∧
   (∀(l:Nat) (pre:List α) (x:α) (k:Nat) (W:World),J pre x k W→Sp (pre++[x])→body.wpIn (F.inRound l) (n - 1 - 1) P (ownPostG w.heap.size (fun _ _=>True) I2 Ix (pre++[x]) W) (A x k) W))
  (hdone:∀(D:Nat) (xs:List α) (W:World),w.heap.size≤D→S xs→IE xs W→W.heap[D]? =some (.deferred (some []))→Q .normal {a with defers:={target:= .collected D,args:= #[]}::a.defers} W)
  (hstop:∀(D:Nat) (c:Code) (pre:List α) (W:World),w.heap.size≤D→Sp pre→Ix c pre W→W.heap[D]? =some (.deferred (some []))→c.wpIn F n P Q {a with defers:={target:= .collected D,args:= #[]}::a.defers} W):
  (Code.rangeFunc g ps assign body).wpIn F n P Q a w:=by
 obtain ⟨A,ha,hb⟩:=hround
 refine J9 hro h1 hg hFg eg hseq hps Ix hSt (fun pre x a' W=>∃k,a'=A x k∧J pre x k W) hIS hIE hI2 hIx (fun x a' s W W' row hs hgr hr=>?_) h0 ha (fun l pre x a' W hj hsp=>?_) hdone hstop
 ·obtain ⟨k,e,hj⟩:=hs
  exact ⟨k,e,hJ x k s W W' row hj hgr hr⟩
 ·obtain ⟨k,rfl,hj⟩:=hj
  exact hb l pre x k W hj hsp
end Go.Proofs.YthhijgcfbjcgiaaGreatDoor
