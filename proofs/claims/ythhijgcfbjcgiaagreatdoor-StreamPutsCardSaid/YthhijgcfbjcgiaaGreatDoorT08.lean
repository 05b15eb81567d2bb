/- Final -/
import Derived.Test.YthhijgcfbjcgiaaGreatDoorT01
import Derived.Test.YthhijgcfbjcgiaaGreatDoorRows
import Derived.ProofKit
import Derived.OpenShut
import Derived.Deep.DeepHandedRow
import Derived.Lib.LaidTab
namespace Go.Proofs.YthhijgcfbjcgiaaGreatDoor
open Go Go.ChangeShapes Go.WideShapes Go.ChangeAt Go.RowKit
open List renaming append_nil→O
open Go.Lib renaming TabIs→U
section
variable {H:Type} {enc:TypeId×Value->H} {P:Program}
theorem oU (hl:laidOutB P=true){W G:World}(I:Below W.heap.size W G){sp:Nat->Bool}:∀{ts:List TypeId}{D:List Value}{C:List (DataW H)}{B:List MemPlace},
  (∀t∈ts,P.readableRec t=true/\t<P.types.size)->DataW.TrodAll enc P W 0 (λ_=>true) true ts D C B->(∀x∈B,x.block<W.heap.size)->(∀p∈B,sp p.block=true)->DataW.TrodAll enc P G 0 sp true ts D C B
 |[],[],[],_,_,h,_,_=>h
 |[],_::_,_,_,_,h,_,_=>h.elim
 |[],[],_::_,_,_,h,_,_=>h.elim
 |_::_,[],_,_,_,h,_,_=>h.elim
 |_::_,_::_,[],_,_,h,_,_=>h.elim
 |t::ts,v::D,d::C,B,hr,h,hlt,hs=>by
  obtain⟨p,q,K,h2,rfl⟩:=h;refine⟨p,q,?_,?_,rfl⟩
  ·exact WideElems.Trod_stays hl (hr t (by simp)).1 (hr t (by simp)).2 K (λx j=>I.same (hlt x (by simp[j]))) (λx j=>hs x (by simp[j]))
  ·exact oU hl I (λt ht=>hr t (by simp[ht])) h2 (λx j=>hlt x (by simp[j])) (λx j=>hs x (by simp[j]))
theorem Ev {f:Func}{s:ChangeSpec}{W W':World}{args:Array Value}{N gs:List (DataW H)}{B:List MemPlace}{T:TypeId}
  (I:s.vars=[]) (C:f.resultTypes= #[T]) (hT:P.underlying T=some .bool) (av:s.fn H N={results:=[.lit (.bool true)],args:=N}) (hl:laidOutB P=true)
  (cE:∀t∈f.params.toList,P.readableRec t=true/\t<P.types.size) (hW:DataW.Whole enc P f.params.toList s.vars false W args.toList N gs B) (hb:Below W.heap.size W W'):
  s.post enc P f false true false false W args (.bool true) W':=by
 have aJ:∀p∈B,p.block<W.heap.size:= λp K=>hW.lt p K;have M:∀p∈B,(λb=>decide (b<W.heap.size)) p.block=true:= λp K=>by simpa using aJ p K
 have dy:=hW;obtain⟨p,q,hA,hV,cI,dO,eE⟩:=dy;rw[I] at hV;obtain⟨rfl,rfl⟩:=trodVars_none hV;rw[O] at cI;subst cI
 have D:∀sp:Nat->Bool,(∀p∈B,sp p.block=true)->DataW.TrodAll enc P W' 0 sp true f.params.toList args.toList (s.fn H (N++[])).args B:= λsp fJ=>by
  rw[O,av];exact oU hl hb cE hA aJ fJ
 have G:∀(b:Nat)(sp:Nat->Bool)(hd:Bool),DataW.TrodAll enc P W' b sp hd f.resultTypes.toList ((Value.bool true).resultList f.resultTypes.size) (s.fn H (N++[])).results []:= λb sp hd=>by
  rw[O,av,C];exact trodAll_cons_mk (shut_bool hT _) trodAll_mk0
 have dv:∀sp:Nat->Bool,(∀p∈B,sp p.block=true)->DataW.TrodVars enc P W' sp s.vars (s.fn H (N++[])).vars []:= λsp _=>by
  rw[O,av,I];rfl
 refine⟨N,[],B,[],B,[],hW,G _ _ _,D _ M,dv _ M,World.keptBut_mono (λp K=>⟨K,?_⟩) (hb.frame (·∈B)),λ_=>?_⟩
 ·exact .inr (by simpa using K)
 ·refine⟨?_,_,_,([]++B)++[],⟨[]++B,[],trodAll_append (D _ (λ_ _=>rfl)) (G _ _ _),dv _ (λ_ _=>rfl),rfl,?_,?_⟩,?_⟩
  ·intro j t r hj hr
   rw[C] at hj hr;exact ok_one C rfl (okWide_bool_mk hT _) j t r (by rw[C];exact hj) (by rw[C];exact hr)
  ·intro b off K
   have bM:MemPlace.cell b off∈B:=(by simpa using K);rw[hb.frozen (aJ _ bM)];exact dO b off bM
  ·intro ha
   simpa using eE ha
  ·intro p K _
   simpa using K
theorem qX {W:World}{j:String}{k:IntKind}{zs:List Int}{C:List (String×DataW Unit)}{ps:List MemPlace}{g:Nat}{t e:TypeId}{n:Nat}
  (T:P.globalNamed j=some g) (M:(P.globals[g]?).map (·.type)=some t) (ht:P.underlying t=some (.array n e)) (he:P.underlying e=some (.int k)) (D:P.cellsOf e=1) (G:P.cellsOf t=n)
  (h:DataW.LaidVars P W ((j,Lib.tabData k zs)::C) ps):U P W j k zs:=by
 obtain⟨g',t',cs,N,p,q,I,K,B,hd,_,_⟩:=h;obtain rfl:=Option.some.inj (T.symm.trans I);obtain rfl:=Option.some.inj (M.symm.trans K);unfold U;rw[B,<-Lib.cells_of_tab ht he D G hd]
theorem ir {W:World}{x:String×DataW Unit}{j:List (String×DataW Unit)}{C:List MemPlace}(h:DataW.LaidVars P W (x::j) C):∃q,DataW.LaidVars P W j q:=by
 obtain⟨n,d⟩:=x;obtain⟨_,_,_,_,_,q,_,_,_,_,B,_⟩:=h;exact⟨q,B⟩
end
end Go.Proofs.YthhijgcfbjcgiaaGreatDoor
