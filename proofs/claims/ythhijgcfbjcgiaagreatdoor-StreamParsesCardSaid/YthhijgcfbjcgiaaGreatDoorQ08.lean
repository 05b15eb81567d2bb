/- Final -/
import Derived.Test.YthhijgcfbjcgiaaGreatDoorQ01
import Derived.Test.YthhijgcfbjcgiaaGreatDoorRows
import Derived.ProofKit
import Derived.OpenShut
import Derived.Deep.DeepHandedRow
import Derived.Lib.LaidTab
namespace Go.Proofs.YthhijgcfbjcgiaaGreatDoor
open Go Go.ChangeShapes Go.WideShapes Go.ChangeAt Go.RowKit
open List renaming append_nil→O,getElem?_map→U,length→Z
open Go.Lib renaming TabIs→V
section
variable {H:Type} {enc:TypeId×Value->H} {P:Program}
theorem oZ (hl:laidOutB P=true){W G:World}(I:Below W.heap.size W G){sp:Nat->Bool}:∀{ts:List TypeId}{D:List Value}{C:List (DataW H)}{B:List MemPlace},
  (∀t∈ts,P.readableRec t=true/\t<P.types.size)->DataW.TrodAll enc P W 0 (λ_=>true) true ts D C B->(∀x∈B,x.block<W.heap.size)->(∀p∈B,sp p.block=true)->DataW.TrodAll enc P G 0 sp true ts D C B
 |[],[],[],_,_,h,_,_=>h
 |[],_::_,_,_,_,h,_,_=>h.elim
 |[],[],_::_,_,_,h,_,_=>h.elim
 |_::_,[],_,_,_,h,_,_=>h.elim
 |_::_,_::_,[],_,_,h,_,_=>h.elim
 |t::ts,v::D,d::C,B,hr,h,hlt,hs=>by
  obtain⟨p,q,K,h2,rfl⟩:=h;refine⟨p,q,?_,?_,rfl⟩
  ·exact WideElems.Trod_stays hl (hr t (by simp)).1 (hr t (by simp)).2 K (λx j=>I.same (hlt x (by simp[j]))) (λx j=>hs x (by simp[j]))
  ·exact oZ hl I (λt ht=>hr t (by simp[ht])) h2 (λx j=>hlt x (by simp[j])) (λx j=>hs x (by simp[j]))
theorem EN {f:Func}{s:ChangeSpec}{W W':World}{args:Array Value}{N gs:List (DataW H)}{B:List MemPlace}{T:TypeId}
  (I:s.vars=[]) (C:f.resultTypes= #[T]) (hT:P.underlying T=some .bool) (aB:s.fn H N={results:=[.lit (.bool true)],args:=N}) (hl:laidOutB P=true)
  (cz:∀t∈f.params.toList,P.readableRec t=true/\t<P.types.size) (hW:DataW.Whole enc P f.params.toList s.vars false W args.toList N gs B) (hb:Below W.heap.size W W'):
  s.post enc P f false true false false W args (.bool true) W':=by
 have aC:∀p∈B,p.block<W.heap.size:= λp K=>hW.lt p K;have M:∀p∈B,(λb=>decide (b<W.heap.size)) p.block=true:= λp K=>by simpa using aC p K
 have dE:=hW;obtain⟨p,q,hA,hV,dt,dY,eE⟩:=dE;rw[I] at hV;obtain⟨rfl,rfl⟩:=trodVars_none hV;rw[O] at dt;subst dt
 have D:∀sp:Nat->Bool,(∀p∈B,sp p.block=true)->DataW.TrodAll enc P W' 0 sp true f.params.toList args.toList (s.fn H (N++[])).args B:= λsp fW=>by
  rw[O,aB];exact oZ hl hb cz hA aC fW
 have G:∀(b:Nat)(sp:Nat->Bool)(hd:Bool),DataW.TrodAll enc P W' b sp hd f.resultTypes.toList ((Value.bool true).resultList f.resultTypes.size) (s.fn H (N++[])).results []:= λb sp hd=>by
  rw[O,aB,C];exact trodAll_cons_mk (shut_bool hT _) trodAll_mk0
 have dD:∀sp:Nat->Bool,(∀p∈B,sp p.block=true)->DataW.TrodVars enc P W' sp s.vars (s.fn H (N++[])).vars []:= λsp _=>by
  rw[O,aB,I];rfl
 refine⟨N,[],B,[],B,[],hW,G _ _ _,D _ M,dD _ M,World.keptBut_mono (λp K=>⟨K,?_⟩) (hb.frame (·∈B)),λ_=>?_⟩
 ·exact .inr (by simpa using K)
 ·refine⟨?_,_,_,([]++B)++[],⟨[]++B,[],trodAll_append (D _ (λ_ _=>rfl)) (G _ _ _),dD _ (λ_ _=>rfl),rfl,?_,?_⟩,?_⟩
  ·intro j t r hj hr
   rw[C] at hj hr;exact ok_one C rfl (okWide_bool_mk hT _) j t r (by rw[C];exact hj) (by rw[C];exact hr)
  ·intro b off K
   have bE:MemPlace.cell b off∈B:=(by simpa using K);rw[hb.frozen (aC _ bE)];exact dY b off bE
  ·intro ha
   simpa using eE ha
  ·intro p K _
   simpa using K
theorem Cx {W:World}{r:Reach}{b0:Nat}{t e:TypeId}{v:Value}{d:DataW H}{ps:List MemPlace}(ht:P.underlying t=some (.slice e))(he:P.underlying e=some (.int .u8))(hc:P.cellsOf e=1)(I:Value.okWide P W r b0 t v)
  (h:DataW.Trod enc P W 0 (λ_=>true) true t v d ps):∃(A:Option Addr)(n c:Nat)(l:List UInt8),v=.slice A n c/\Sl W A (l.map af)/\Z l=n/\n<=maxLen:=by
 obtain⟨a0,len,K,rfl⟩:=okWide_slice ht I;obtain⟨bE,hf⟩:=h;rcases open_ints ht he hc hf with⟨B,hx⟩|⟨a,cz,aC,zs,B,_,hl,hm,hz,hx,D,N⟩
 ·simp[Value.cells] at B
  obtain⟨rfl,rfl,rfl⟩:=B;exact⟨none,0,0,[],rfl,Sl.nil _ _,rfl,Nat.zero_le _⟩
 ·simp[Value.cells] at B
  obtain⟨rfl,rfl,rfl⟩:=B;refine⟨some a,len,K,(zs.take len).map λz=>UInt8.ofNat z.toNat,rfl,?_,?_,by omega⟩
  ·intro k u hk
   rw[U,U,Option.map_map] at hk;obtain⟨z,j,T⟩:=Option.map_eq_some_iff.1 hk;rw[List.getElem?_take] at j
   split at j
   ·have M:k<(Z zs):=(List.getElem?_eq_some_iff.1 j).1
    have C:=D k M;have aB:zs.getD k 0=z:=(by simp[List.getD,j]);rw[aB] at C;have G:=World.block_lt_of_cell? W _ C;rw[dN] at G;refine⟨a,rfl,G,?_⟩;rw[C,<-T];have hw:=N z (List.mem_of_getElem? j)
    have hb:0<=z/\z<256:=by
     simp[Lit.wf,IntKind.min,IntKind.max,IntKind.bits,IntKind.signed] at hw;omega
    simp[af,Function.comp];omega
   ·cases j
  ·rw[List.length_map,List.length_take]
   have:len<=(Z zs):=(by rw[hz];split<;>omega);omega
theorem rg {W:World}{j:String}{k:IntKind}{zs:List Int}{C:List (String×DataW Unit)}{ps:List MemPlace}{g:Nat}{t e:TypeId}{n:Nat}
  (T:P.globalNamed j=some g) (M:(P.globals[g]?).map (·.type)=some t) (ht:P.underlying t=some (.array n e)) (he:P.underlying e=some (.int k)) (D:P.cellsOf e=1) (G:P.cellsOf t=n)
  (h:DataW.LaidVars P W ((j,Lib.tabData k zs)::C) ps):V P W j k zs:=by
 obtain⟨g',t',cs,N,p,q,I,K,B,hd,_,_⟩:=h;obtain rfl:=Option.some.inj (T.symm.trans I);obtain rfl:=Option.some.inj (M.symm.trans K);unfold V;rw[B,<-Lib.cells_of_tab ht he D G hd]
theorem iz {W:World}{x:String×DataW Unit}{j:List (String×DataW Unit)}{C:List MemPlace}(h:DataW.LaidVars P W (x::j) C):∃q,DataW.LaidVars P W j q:=by
 obtain⟨n,d⟩:=x;obtain⟨_,_,_,_,_,q,_,_,_,_,B,_⟩:=h;exact⟨q,B⟩
end
end Go.Proofs.YthhijgcfbjcgiaaGreatDoor
