/- StreamKnown: for every input the law answers true; no condition. The listed tables are tied to the text by the card. -/
import Derived.Test.YthhijgcfbjcgiaaGreatDoorCards
import Derived.Test.YthhijgcfbjcgiaaGreatDoorTie
import Derived.Test.YthhijgcfbjcgiaaGreatDoorS08
import Derived.Lay
import Derived.Deep.DeepWitnessRowRef
import Derived.Test.YthhijgcfbjcgiaaGreatDoorS20
import Derived.Test.YthhijgcfbjcgiaaGreatDoorS42
import Derived.Test.YthhijgcfbjcgiaaGreatDoorS44
namespace Go.Proofs.YthhijgcfbjcgiaaGreatDoor.streamKnown
open Go Go.ChangeShapes Go.WideShapes Go.ChangeAt Go.RowKit
theorem nN {a b:Bool} (h:a=true) (k:b=true):(a&&b)=true:=by rw [h,k];rfl
theorem eh:ownKnob Tryz.prog.godebug=none:=by kernel_rfl
theorem iE:laidOutB Tryz.prog=true:=by kernel_rfl
theorem gz (H:Type) (enc:TypeId×Value→H) (W:World) (base:Nat) (args:Array Value) (ds gs:List (DataW H)) (before:List MemPlace)
  (_hval:∀(j:Nat) t v,Tryz.f5.params[j]? =some t→args[j]? =some v→Value.okWide Tryz.prog W .any base t v)
  (hW:DataW.Whole enc Tryz.prog Tryz.f5.params.toList Rows.streamKnownSpec.vars false W args.toList ds gs before)
  (_hwt:(DataW.weightsEach Tryz.prog (Tryz.f5.params.toList++(OpenSpec.ofChange Rows.streamKnownSpec).bare.plain.varTypes Tryz.prog) (ds++gs)).all (·≤reachBytes)=true)
  (hL:laidMetH Tryz.prog Rows.streamKnownRow.laid W) (_hsh:W.ShapedOpen Tryz.prog):
  Calls Tryz.prog 5 args W fun e W'=>∃v,e= .returned v∧Rows.streamKnownSpec.post enc Tryz.prog Tryz.f5 false true false false W args v W':=by
 have hW':=hW
 obtain ⟨p,q,hA,hV,hpq,hfz,hnd⟩:=hW'
 rw [Tryz.params5] at hA
 obtain ⟨hargs,rfl,rfl⟩:=trodAll_nil hA
 obtain rfl:args= #[]:=by cases args;simp_all
 refine (iT W (iJ hL).1 (iJ hL).2).mono fun e W' ⟨he,hb⟩=>?_
 subst he
 exact ⟨_,rfl,kE rfl rfl Tryz.underlying4 rfl iE (by rw [Tryz.params5];intro t ht;simp at ht) hW hb⟩
noncomputable def cr (os:Os):World:=World.laidAll Tryz.prog os Rows.streamKnownRow.laid
theorem gD (os:Os):laidMet Tryz.prog Rows.streamKnownRow.laid ((cr os).forCall (fun _ _=>0) ⟨#[],#[],[]⟩).memory:=
 laidMet_laidAll _ (by kernel_rfl) (by kernel_rfl)
theorem ls (os:Os) {H:Type} (enc:TypeId×Value→H):∃places,DataW.whole enc Tryz.prog ((cr os).forCall (fun _ _=>0) ⟨#[],#[],[]⟩).memory Tryz.f5.params.toList Rows.streamKnownSpec.vars false (#[]:Array Value).toList 8=some ([],[],places):=
 ⟨[],by kernel_rfl⟩
set_option maxRecDepth 100000 in
theorem ju (os:Os) (started:os.Started) (H:Type) (enc:TypeId×Value→H) (F:Stop.Interp):
  ReturnsInHanded {} Tryz.checked os 5 .any ((OpenSpec.ofChange Rows.streamKnownSpec).preRow enc Tryz.prog Tryz.f5 Rows.streamKnownRow.domain false Rows.streamKnownRow.laid) (((OpenSpec.ofChange Rows.streamKnownSpec).at F).post enc Tryz.prog Tryz.f5 false true false false):=by
 obtain ⟨places,hx⟩:=ls os enc
 refine returnsInHanded_of_row (C:=Tryz.checked) (s:=OpenSpec.ofChange Rows.streamKnownSpec) eh started (by kernel_rfl) Tryz.func5
  (witness_row_atRef (enc:=enc) (C:=Tryz.checked) false (cr os) #[] (World.laidAll_os _ _ _) (by kernel_rfl) (by kernel_rfl) (by kernel_rfl)
   (OpenSpec.preRow_of_cond 8 hx (by kernel_rfl) (fun k hk=>by cases hk) (by kernel_rfl) (gD os))) ?_
 intro W base args ds gs before hval hW _ _ hwt hL hsh _
 exact gz H enc W base args ds gs before hval hW hwt hL hsh
theorem ln:(Tryz.pinned.checked.prog).funcNamed Rows.streamKnownRow.func=some 5:=by kernel_rfl
set_option maxHeartbeats 8000000 in
set_option maxRecDepth 100000 in
theorem jr:joinedFacts Tryz.pinned.checked.prog 5 Tryz.f5 (OpenSpec.ofChange Rows.streamKnownSpec).bare Rows.streamKnownRow=true:=by
 unfold joinedFacts
 repeat' (with_reducible refine nN ?_ ?_)
 all_goals as_aux_lemma=>kernel_rfl
theorem oD:Rows.StreamKnownSaid:=
 OpenClaim.holds_of_cond 5 Tryz.f5 rfl rfl rfl rfl rfl rfl rfl ⟨rfl,rfl,rfl,rfl,rfl⟩ rfl rfl rfl rfl rfl ln Tryz.func5 jr
  (of_decide_eq_true (by kernel_rfl)) (by unfold Func.isWrapper;first|(rw [if_pos (by decide+kernel)];kernel_rfl)|(rw [if_neg (by decide+kernel)];exact ⟨rfl,rfl⟩))
  (fun os started H enc _ F=>by rw [OpenClaim.pre_eq_preRow];exact ju os started H enc F)
theorem plain (f:FuncId) (fn:Func) (hf:Tryz.pinned.checked.prog.funcNamed "praxinoscope/praxinoscopelaw21.StreamKnown" =some f) (hfn:Tryz.pinned.checked.prog.funcs[f]? =some fn):
  true=Tryz.pinned.checked.prog.looks []∧∀(j:Nat) t,fn.params[j]? =some t→Tryz.pinned.checked.prog.wantsStandIn t=false:=by
 obtain rfl:f=5:=Option.some.inj ((show Tryz.prog.funcNamed "praxinoscope/praxinoscopelaw21.StreamKnown" =some 5 by kernel_rfl).symm.trans hf) |>.symm
 obtain rfl:fn=Tryz.f5:=(Option.some.inj (Tryz.func5.symm.trans hfn)).symm
 refine ⟨by kernel_rfl,fun j t ht=>?_⟩
 rw [Tryz.params5] at ht
 simp at ht
theorem Bz:Rows.StreamKnownCardSaid:=
 Claim7.holds_tied_plain_at .later [] _ _ _ _ oD (fun _ h=>by cases h) (by as_aux_lemma=>kernel_rfl) (fun _ h=>by cases h) streamKnown_row_tie rfl ⟨rfl,rfl⟩ (by as_aux_lemma=>kernel_rfl) rfl plain (by as_aux_lemma=>kernel_rfl)
end Go.Proofs.YthhijgcfbjcgiaaGreatDoor.streamKnown
