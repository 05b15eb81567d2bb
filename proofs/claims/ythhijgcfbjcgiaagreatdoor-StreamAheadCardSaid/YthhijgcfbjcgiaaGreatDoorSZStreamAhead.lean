/- StreamAhead: for every input the law answers true; no condition. The listed tables are tied to the text by the card. -/
import Derived.Test.YthhijgcfbjcgiaaGreatDoorCards
import Derived.Test.YthhijgcfbjcgiaaGreatDoorTie
import Derived.Test.YthhijgcfbjcgiaaGreatDoorS08
import Derived.Lay
import Derived.Deep.DeepWitnessRowRef
import Derived.Test.YthhijgcfbjcgiaaGreatDoorS20
import Derived.Test.YthhijgcfbjcgiaaGreatDoorS50
import Derived.Test.YthhijgcfbjcgiaaGreatDoorS44
namespace Go.Proofs.YthhijgcfbjcgiaaGreatDoor.streamAhead
open Go Go.ChangeShapes Go.WideShapes Go.ChangeAt Go.RowKit
theorem nN {a b:Bool} (h:a=true) (k:b=true):(a&&b)=true:=by rw [h,k];rfl
theorem eh:ownKnob Tryz.prog.godebug=none:=by kernel_rfl
theorem iE:laidOutB Tryz.prog=true:=by kernel_rfl
set_option maxRecDepth 100000 in
theorem gz (H:Type) (enc:TypeId×Value→H) (W:World) (base:Nat) (args:Array Value) (ds gs:List (DataW H)) (before:List MemPlace)
  (hval:∀(j:Nat) t v,Tryz.f7.params[j]? =some t→args[j]? =some v→Value.okWide Tryz.prog W .any base t v)
  (hW:DataW.Whole enc Tryz.prog Tryz.f7.params.toList Rows.streamAheadSpec.vars false W args.toList ds gs before)
  (_hwt:(DataW.weightsEach Tryz.prog (Tryz.f7.params.toList++(OpenSpec.ofChange Rows.streamAheadSpec).bare.plain.varTypes Tryz.prog) (ds++gs)).all (·≤reachBytes)=true)
  (hL:laidMetH Tryz.prog Rows.streamAheadRow.laid W) (_hsh:W.ShapedOpen Tryz.prog):
  Calls Tryz.prog 7 args W fun e W'=>∃v,e= .returned v∧Rows.streamAheadSpec.post enc Tryz.prog Tryz.f7 false true false false W args v W':=by
 have hT:=iJ hL
 have hW':=hW
 obtain ⟨p,q,hA,hV,hpq,hfz,hnd⟩:=hW'
 have hpar:∀t∈Tryz.f7.params.toList,(Tryz.prog).readableRec t=true∧t<(Tryz.prog).types.size:=by
  have h:(Tryz.f7.params.toList.all fun t=>(Tryz.prog).readableRec t&&decide (t<(Tryz.prog).types.size))=true:=by kernel_rfl
  intro t ht
  simpa using List.all_eq_true.1 h t ht
 rw [Tryz.params7] at hA hval
 obtain ⟨v0,v1,d0,d1,p0,p1,rfl,rfl,rfl,h0,h1⟩:=trodAll_two hA
 obtain ⟨s,rfl,hat,hL2⟩:=D5 (hval 0 35 v0 rfl rfl) h0
 obtain ⟨B,k,c2,l,rfl,hB,hl,_⟩:=ov Tryz.underlying25 Tryz.underlying5 (by kernel_rfl) (hval 1 25 v1 rfl rfl) h1
 refine (zc s B k c2 l W hat hL2 hB hl hT.1 hT.2).mono fun e W' ⟨he,hb⟩=>?_
 subst he
 exact ⟨_,rfl,kE rfl rfl Tryz.underlying4 rfl iE hpar hW hb⟩
noncomputable def cr (os:Os):World:=World.laidAll Tryz.prog os Rows.streamAheadRow.laid
theorem gD (os:Os):laidMet Tryz.prog Rows.streamAheadRow.laid ((cr os).forCall (fun _ _=>0) ⟨#[],#[.agg #[.int .i64 0,.int .i64 0,.slice none 0 0,.slice none 0 0],.slice none 0 0],[]⟩).memory:=
 laidMet_laidAll _ (by kernel_rfl) (by kernel_rfl)
theorem ls (os:Os) {H:Type} (enc:TypeId×Value→H):∃places,DataW.whole enc Tryz.prog ((cr os).forCall (fun _ _=>0) ⟨#[],#[.agg #[.int .i64 0,.int .i64 0,.slice none 0 0,.slice none 0 0],.slice none 0 0],[]⟩).memory Tryz.f7.params.toList Rows.streamAheadSpec.vars false (#[.agg #[.int .i64 0,.int .i64 0,.slice none 0 0,.slice none 0 0],.slice none 0 0]:Array Value).toList 8=some ([.agg [.agg [.lit (.int .i64 0),.lit (.int .i64 0),.nil],.nil],.nil],[],places):=
 ⟨[],by kernel_rfl⟩
set_option maxRecDepth 100000 in
theorem ju (os:Os) (started:os.Started) (H:Type) (enc:TypeId×Value→H) (F:Stop.Interp):
  ReturnsInHanded {} Tryz.checked os 7 .any ((OpenSpec.ofChange Rows.streamAheadSpec).preRow enc Tryz.prog Tryz.f7 Rows.streamAheadRow.domain false Rows.streamAheadRow.laid) (((OpenSpec.ofChange Rows.streamAheadSpec).at F).post enc Tryz.prog Tryz.f7 false true false false):=by
 obtain ⟨places,hx⟩:=ls os enc
 refine returnsInHanded_of_row (C:=Tryz.checked) (s:=OpenSpec.ofChange Rows.streamAheadSpec) eh started (by kernel_rfl) Tryz.func7
  (witness_row_atRef (enc:=enc) (C:=Tryz.checked) false (cr os) #[.agg #[.int .i64 0,.int .i64 0,.slice none 0 0,.slice none 0 0],.slice none 0 0] (World.laidAll_os _ _ _) (by kernel_rfl) (by kernel_rfl) (by kernel_rfl)
   (OpenSpec.preRow_of_cond 8 hx (by kernel_rfl) (fun k hk=>by cases hk) (by kernel_rfl) (gD os))) ?_
 intro W base args ds gs before hval hW _ _ hwt hL hsh _
 exact gz H enc W base args ds gs before hval hW hwt hL hsh
theorem ln:(Tryz.pinned.checked.prog).funcNamed Rows.streamAheadRow.func=some 7:=by kernel_rfl
set_option maxHeartbeats 8000000 in
set_option maxRecDepth 100000 in
theorem jr:joinedFacts Tryz.pinned.checked.prog 7 Tryz.f7 (OpenSpec.ofChange Rows.streamAheadSpec).bare Rows.streamAheadRow=true:=by
 unfold joinedFacts
 repeat' (with_reducible refine nN ?_ ?_)
 all_goals as_aux_lemma=>kernel_rfl
theorem oD:Rows.StreamAheadSaid:=
 OpenClaim.holds_of_cond 7 Tryz.f7 rfl rfl rfl rfl rfl rfl rfl ⟨rfl,rfl,rfl,rfl,rfl⟩ rfl rfl rfl rfl rfl ln Tryz.func7 jr
  (of_decide_eq_true (by kernel_rfl)) (by unfold Func.isWrapper;first|(rw [if_pos (by decide+kernel)];kernel_rfl)|(rw [if_neg (by decide+kernel)];exact ⟨rfl,rfl⟩))
  (fun os started H enc _ F=>by rw [OpenClaim.pre_eq_preRow];exact ju os started H enc F)
theorem plain (f:FuncId) (fn:Func) (hf:Tryz.pinned.checked.prog.funcNamed "praxinoscope/praxinoscopelaw21.StreamAhead" =some f) (hfn:Tryz.pinned.checked.prog.funcs[f]? =some fn):
  true=Tryz.pinned.checked.prog.looks []∧∀(j:Nat) t,fn.params[j]? =some t→Tryz.pinned.checked.prog.wantsStandIn t=false:=by
 obtain rfl:f=7:=Option.some.inj ((show Tryz.prog.funcNamed "praxinoscope/praxinoscopelaw21.StreamAhead" =some 7 by kernel_rfl).symm.trans hf) |>.symm
 obtain rfl:fn=Tryz.f7:=(Option.some.inj (Tryz.func7.symm.trans hfn)).symm
 refine ⟨by kernel_rfl,fun j t ht=>?_⟩
 rw [Tryz.params7] at ht
 have hall:(#[35,25]:Array TypeId).all (fun t=> !Tryz.prog.wantsStandIn t)=true:=by kernel_rfl
 have:=Array.all_eq_true'.1 hall t (Array.mem_of_getElem? ht)
 have h2:Tryz.prog.wantsStandIn t=false:=by simpa using this
 exact h2
theorem Bz:Rows.StreamAheadCardSaid:=
 Claim7.holds_tied_plain_at .later [] _ _ _ _ oD (fun _ h=>by cases h) (by as_aux_lemma=>kernel_rfl) (fun _ h=>by cases h) streamAhead_row_tie rfl ⟨rfl,rfl⟩ (by as_aux_lemma=>kernel_rfl) rfl plain (by as_aux_lemma=>kernel_rfl)
end Go.Proofs.YthhijgcfbjcgiaaGreatDoor.streamAhead
