/- StreamParses: for every input the law answers true; no condition. The listed tables are tied to the text by the card. -/
import Derived.Test.YthhijgcfbjcgiaaGreatDoorCards
import Derived.Test.YthhijgcfbjcgiaaGreatDoorTie
import Derived.Lay
import Derived.Deep.DeepWitnessRowRef
import Derived.Test.YthhijgcfbjcgiaaGreatDoorQ23
import Derived.Test.YthhijgcfbjcgiaaGreatDoorQ51
import Derived.Test.YthhijgcfbjcgiaaGreatDoorQ53
namespace Go.Proofs.YthhijgcfbjcgiaaGreatDoor.streamParses
open Go Go.ChangeShapes Go.WideShapes Go.ChangeAt Go.RowKit
theorem band {a b:Bool}(h:a=true)(k:b=true):(a&&b)=true:=by rw[h,k];rfl
theorem own:ownKnob Tryz.prog.godebug=none:=by kernel_rfl
theorem laidOut:laidOutB Tryz.prog=true:=by kernel_rfl
set_option maxRecDepth 100000 in
theorem contract (H:Type)(enc:TypeId×Value->H)(W:World)(base:Nat)(args:Array Value)(M gs:List (DataW H))(C:List MemPlace)
  (D:∀(j:Nat) t v,Tryz.f4.params[j]? =some t->args[j]? =some v->Value.okWide Tryz.prog W .any base t v)
  (hW:DataW.Whole enc Tryz.prog Tryz.f4.params.toList Rows.streamParsesSpec.vars false W args.toList M gs C)
  (_hwt:(DataW.weightsEach Tryz.prog (Tryz.f4.params.toList++(OpenSpec.ofChange Rows.streamParsesSpec).bare.plain.varTypes Tryz.prog) (M++gs)).all (· <=reachBytes)=true)
  (hL:laidMetH Tryz.prog Rows.streamParsesRow.laid W) (_hsh:W.ShapedOpen Tryz.prog):
  Calls Tryz.prog 4 args W λe K=>∃v,e=.returned v/\Rows.streamParsesSpec.post enc Tryz.prog Tryz.f4 false true false false W args v K:=by
 have T:=DC hL;have I:=hW;obtain⟨p,q,N,hV,bE,aB,aC⟩:=I
 have G:∀t∈Tryz.f4.params.toList,(Tryz.prog).readableRec t=true/\t<(Tryz.prog).types.size:=by
  have h:(Tryz.f4.params.toList.all λt=>(Tryz.prog).readableRec t&&decide (t<(Tryz.prog).types.size))=true:=(by kernel_rfl);intro t ht
  simpa using List.all_eq_true.1 h t ht
 rw[Tryz.params4] at N D;obtain⟨v0,d0,rfl,rfl,h0⟩:=trodAll_one N;obtain⟨B,k,c2,l,rfl,hB,hl,_⟩:=Cx Tryz.underlying25 Tryz.underlying5 (by kernel_rfl) (D 0 25 v0 rfl rfl) h0;refine(xP B k c2 l W hB hl T.1 T.2).mono λe K ⟨he,hb⟩=>?_;subst he;exact⟨_,rfl,EN rfl rfl Tryz.underlying4 rfl laidOut G hW hb⟩
noncomputable def laidWorld (os:Os):World:=World.laidAll Tryz.prog os Rows.streamParsesRow.laid
theorem laid_met (os:Os):laidMet Tryz.prog Rows.streamParsesRow.laid ((laidWorld os).forCall (λ_ _=>0) ⟨#[],#[.slice none 0 0],[]⟩).memory:=
 laidMet_laidAll _ (by kernel_rfl) (by kernel_rfl)
theorem reads (os:Os){B:Type}(enc:TypeId×Value->B):∃j,DataW.whole enc Tryz.prog ((laidWorld os).forCall (λ_ _=>0) ⟨#[],#[.slice none 0 0],[]⟩).memory Tryz.f4.params.toList Rows.streamParsesSpec.vars false (#[.slice none 0 0]:Array Value).toList 8=some ([.nil],[],j):=
 ⟨[],by kernel_rfl⟩
set_option maxRecDepth 100000 in
theorem lifted (os:Os)(j:os.Started)(H:Type)(enc:TypeId×Value->H)(F:Stop.Interp):
  ReturnsInHanded {} Tryz.checked os 4 .any ((OpenSpec.ofChange Rows.streamParsesSpec).preRow enc Tryz.prog Tryz.f4 Rows.streamParsesRow.domain false Rows.streamParsesRow.laid) (((OpenSpec.ofChange Rows.streamParsesSpec).at F).post enc Tryz.prog Tryz.f4 false true false false):=by
 obtain⟨G,hx⟩:=reads os enc
 refine returnsInHanded_of_row (C:=Tryz.checked) (s:=OpenSpec.ofChange Rows.streamParsesSpec) own j (by kernel_rfl) Tryz.func4
  (witness_row_atRef (enc:=enc) (C:=Tryz.checked) false (laidWorld os) #[.slice none 0 0] (World.laidAll_os _ _ _) (by kernel_rfl) (by kernel_rfl) (by kernel_rfl)
   (OpenSpec.preRow_of_cond 8 hx (by kernel_rfl) (λk hk=>by cases hk) (by kernel_rfl) (laid_met os))) ?_
 intro W base args M gs B D T _ _ K N I _;exact contract H enc W base args M gs B D T K N I
theorem named:(Tryz.pinned.checked.prog).funcNamed Rows.streamParsesRow.func=some 4:=by kernel_rfl
set_option maxHeartbeats 8000000 in
set_option maxRecDepth 100000 in
theorem joined:joinedFacts Tryz.pinned.checked.prog 4 Tryz.f4 (OpenSpec.ofChange Rows.streamParsesSpec).bare Rows.streamParsesRow=true:=by
 unfold joinedFacts
 repeat' (with_reducible refine band ?_ ?_)
 all_goals as_aux_lemma=>kernel_rfl
theorem said:Rows.StreamParsesSaid:=
 OpenClaim.holds_of_cond 4 Tryz.f4 rfl rfl rfl rfl rfl rfl rfl ⟨rfl,rfl,rfl,rfl,rfl⟩ rfl rfl rfl rfl rfl named Tryz.func4 joined
  (of_decide_eq_true (by kernel_rfl)) (by unfold Func.isWrapper;first|(rw[if_pos (by decide+kernel)];kernel_rfl)|(rw[if_neg (by decide+kernel)];exact⟨rfl,rfl⟩))
  (λos j B enc _ F=>by rw[OpenClaim.pre_eq_preRow];exact lifted os j B enc F)
theorem plain (f:FuncId)(fn:Func)(D:Tryz.pinned.checked.prog.funcNamed "praxinoscope/praxinoscopelaw21.StreamParses" =some f)(C:Tryz.pinned.checked.prog.funcs[f]? =some fn):
  true=Tryz.pinned.checked.prog.looks []/\∀(j:Nat) t,fn.params[j]? =some t->Tryz.pinned.checked.prog.wantsStandIn t=false:=by
 obtain rfl:f=4:=Option.some.inj ((show Tryz.prog.funcNamed "praxinoscope/praxinoscopelaw21.StreamParses" =some 4 by kernel_rfl).symm.trans D) |>.symm;obtain rfl:fn=Tryz.f4:=(Option.some.inj (Tryz.func4.symm.trans C)).symm;refine⟨by kernel_rfl,λj t ht=>?_⟩;rw[Tryz.params4] at ht;have B:(#[25]:Array TypeId).all (λt=> !Tryz.prog.wantsStandIn t)=true:=by kernel_rfl
 have:=Array.all_eq_true'.1 B t (Array.mem_of_getElem? ht);have h2:Tryz.prog.wantsStandIn t=false:=by simpa using this
 exact h2
theorem card:Rows.StreamParsesCardSaid:=
 Claim7.holds_tied_plain_at .later [] _ _ _ _ said (λ_ h=>by cases h) (by as_aux_lemma=>kernel_rfl) (λ_ h=>by cases h) streamParses_row_tie rfl ⟨rfl,rfl⟩ (by as_aux_lemma=>kernel_rfl) rfl plain (by as_aux_lemma=>kernel_rfl)
end Go.Proofs.YthhijgcfbjcgiaaGreatDoor.streamParses
