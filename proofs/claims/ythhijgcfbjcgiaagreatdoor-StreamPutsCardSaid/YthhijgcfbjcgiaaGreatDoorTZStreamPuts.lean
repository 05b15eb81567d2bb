/- StreamPuts: for every input the law answers true; no condition. The listed tables are tied to the text by the card. -/
import Derived.Test.YthhijgcfbjcgiaaGreatDoorCards
import Derived.Test.YthhijgcfbjcgiaaGreatDoorTie
import Derived.Lay
import Derived.Deep.DeepWitnessRowRef
import Derived.Test.YthhijgcfbjcgiaaGreatDoorT55
namespace Go.Proofs.YthhijgcfbjcgiaaGreatDoor.streamPuts
open Go Go.ChangeShapes Go.WideShapes Go.ChangeAt Go.RowKit
theorem band {a b:Bool}(h:a=true)(k:b=true):(a&&b)=true:=by rw[h,k];rfl
theorem own:ownKnob Tryz.prog.godebug=none:=by kernel_rfl
theorem laidOut:laidOutB Tryz.prog=true:=by kernel_rfl
set_option maxRecDepth 100000 in
theorem contract (H:Type)(enc:TypeId×Value->H)(W:World)(base:Nat)(args:Array Value)(N gs:List (DataW H))(B:List MemPlace)
  (C:∀(j:Nat) t v,Tryz.f3.params[j]? =some t->args[j]? =some v->Value.okWide Tryz.prog W .any base t v)
  (hW:DataW.Whole enc Tryz.prog Tryz.f3.params.toList Rows.streamPutsSpec.vars false W args.toList N gs B)
  (_hwt:(DataW.weightsEach Tryz.prog (Tryz.f3.params.toList++(OpenSpec.ofChange Rows.streamPutsSpec).bare.plain.varTypes Tryz.prog) (N++gs)).all (· <=reachBytes)=true)
  (hL:laidMetH Tryz.prog Rows.streamPutsRow.laid W) (_hsh:W.ShapedOpen Tryz.prog):
  Calls Tryz.prog 3 args W λe M=>∃v,e=.returned v/\Rows.streamPutsSpec.post enc Tryz.prog Tryz.f3 false true false false W args v M:=by
 have hT:=Dm hL;have I:=hW;obtain⟨p,q,T,hV,bM,av,aJ⟩:=I
 have D:∀t∈Tryz.f3.params.toList,(Tryz.prog).readableRec t=true/\t<(Tryz.prog).types.size:=by
  have h:(Tryz.f3.params.toList.all λt=>(Tryz.prog).readableRec t&&decide (t<(Tryz.prog).types.size))=true:=(by kernel_rfl);intro t ht
  simpa using List.all_eq_true.1 h t ht
 rw[Tryz.params3] at T C;obtain⟨v0,d0,rfl,rfl,h0⟩:=trodAll_one T;obtain⟨A,c,ss,rfl,K,G⟩:=Ci (C 0 22 v0 rfl rfl) h0;refine(Cc ss A (List.length ss) c W rfl K G hT.1 hT.2).mono λe M ⟨he,hb⟩=>?_;subst he;exact⟨_,rfl,Ev rfl rfl Tryz.underlying4 rfl laidOut D hW hb⟩
noncomputable def laidWorld (os:Os):World:=World.laidAll Tryz.prog os Rows.streamPutsRow.laid
theorem laid_met (os:Os):laidMet Tryz.prog Rows.streamPutsRow.laid ((laidWorld os).forCall (λ_ _=>0) ⟨#[],#[.slice none 0 0],[]⟩).memory:=
 laidMet_laidAll _ (by kernel_rfl) (by kernel_rfl)
theorem reads (os:Os){B:Type}(enc:TypeId×Value->B):∃j,DataW.whole enc Tryz.prog ((laidWorld os).forCall (λ_ _=>0) ⟨#[],#[.slice none 0 0],[]⟩).memory Tryz.f3.params.toList Rows.streamPutsSpec.vars false (#[.slice none 0 0]:Array Value).toList 8=some ([.nil],[],j):=
 ⟨[],by kernel_rfl⟩
set_option maxRecDepth 100000 in
theorem lifted (os:Os)(j:os.Started)(H:Type)(enc:TypeId×Value->H)(F:Stop.Interp):
  ReturnsInHanded {} Tryz.checked os 3 .any ((OpenSpec.ofChange Rows.streamPutsSpec).preRow enc Tryz.prog Tryz.f3 Rows.streamPutsRow.domain false Rows.streamPutsRow.laid) (((OpenSpec.ofChange Rows.streamPutsSpec).at F).post enc Tryz.prog Tryz.f3 false true false false):=by
 obtain⟨G,hx⟩:=reads os enc
 refine returnsInHanded_of_row (C:=Tryz.checked) (s:=OpenSpec.ofChange Rows.streamPutsSpec) own j (by kernel_rfl) Tryz.func3
  (witness_row_atRef (enc:=enc) (C:=Tryz.checked) false (laidWorld os) #[.slice none 0 0] (World.laidAll_os _ _ _) (by kernel_rfl) (by kernel_rfl) (by kernel_rfl)
   (OpenSpec.preRow_of_cond 8 hx (by kernel_rfl) (λk hk=>by cases hk) (by kernel_rfl) (laid_met os))) ?_
 intro W base args M gs B D T _ _ K N I _;exact contract H enc W base args M gs B D T K N I
theorem named:(Tryz.pinned.checked.prog).funcNamed Rows.streamPutsRow.func=some 3:=by kernel_rfl
set_option maxHeartbeats 8000000 in
set_option maxRecDepth 100000 in
theorem joined:joinedFacts Tryz.pinned.checked.prog 3 Tryz.f3 (OpenSpec.ofChange Rows.streamPutsSpec).bare Rows.streamPutsRow=true:=by
 unfold joinedFacts
 repeat' (with_reducible refine band ?_ ?_)
 all_goals as_aux_lemma=>kernel_rfl
theorem said:Rows.StreamPutsSaid:=
 OpenClaim.holds_of_cond 3 Tryz.f3 rfl rfl rfl rfl rfl rfl rfl ⟨rfl,rfl,rfl,rfl,rfl⟩ rfl rfl rfl rfl rfl named Tryz.func3 joined
  (of_decide_eq_true (by kernel_rfl)) (by unfold Func.isWrapper;first|(rw[if_pos (by decide+kernel)];kernel_rfl)|(rw[if_neg (by decide+kernel)];exact⟨rfl,rfl⟩))
  (λos j B enc _ F=>by rw[OpenClaim.pre_eq_preRow];exact lifted os j B enc F)
theorem plain (f:FuncId)(fn:Func)(D:Tryz.pinned.checked.prog.funcNamed "praxinoscope/praxinoscopelaw21.StreamPuts" =some f)(C:Tryz.pinned.checked.prog.funcs[f]? =some fn):
  true=Tryz.pinned.checked.prog.looks []/\∀(j:Nat) t,fn.params[j]? =some t->Tryz.pinned.checked.prog.wantsStandIn t=false:=by
 obtain rfl:f=3:=Option.some.inj ((show Tryz.prog.funcNamed "praxinoscope/praxinoscopelaw21.StreamPuts" =some 3 by kernel_rfl).symm.trans D) |>.symm;obtain rfl:fn=Tryz.f3:=(Option.some.inj (Tryz.func3.symm.trans C)).symm;refine⟨by kernel_rfl,λj t ht=>?_⟩;rw[Tryz.params3] at ht;have B:(#[22]:Array TypeId).all (λt=> !Tryz.prog.wantsStandIn t)=true:=by kernel_rfl
 have:=Array.all_eq_true'.1 B t (Array.mem_of_getElem? ht);have h2:Tryz.prog.wantsStandIn t=false:=by simpa using this
 exact h2
theorem card:Rows.StreamPutsCardSaid:=
 Claim7.holds_tied_plain_at .later [] _ _ _ _ said (λ_ h=>by cases h) (by as_aux_lemma=>kernel_rfl) (λ_ h=>by cases h) streamPuts_row_tie rfl ⟨rfl,rfl⟩ (by as_aux_lemma=>kernel_rfl) rfl plain (by as_aux_lemma=>kernel_rfl)
end Go.Proofs.YthhijgcfbjcgiaaGreatDoor.streamPuts
