/- Open21 -/
import Derived.Test.YthhijgcfbjcgiaaGreatDoorS43
import Derived.Test.YthhijgcfbjcgiaaGreatDoorS18
import Derived.Test.YthhijgcfbjcgiaaGreatDoorS27
namespace Go.Proofs.YthhijgcfbjcgiaaGreatDoor
open Go Go.ChangeShapes Go.WideShapes Go.ChangeAt Go.RowKit Go.Joins
open List renaming drop_succ_cons→zAA,take_succ_cons→zAB,cons→zAC,drop_zero→zAD,take_zero→zAE
section
variable {H:Type} {enc:TypeId×Value→H}
theorem Gl {P:Program} {w:World} {base:Nat} {spare:Nat→Bool} {held:Bool} {t:TypeId} {f0 f1 f2:Field} {fuel:Nat} {cs:List Value} {x:DataW H×List MemPlace} (ht:P.underlying t=some (.struct #[f0,f1,f2])) (h:DataW.trod enc P w base spare held fuel t cs=some x):
  ∃y0 y1 y2 m,cs.length=P.cellsOf t∧DataW.trod enc P w base spare held m f0.type ((cs.drop f0.offset).take (P.cellsOf f0.type))=some y0∧DataW.trod enc P w base spare held m f1.type ((cs.drop f1.offset).take (P.cellsOf f1.type))=some y1∧DataW.trod enc P w base spare held m f2.type ((cs.drop f2.offset).take (P.cellsOf f2.type))=some y2:=by
 obtain ⟨xs,n,_,rfl,hl,hlen,hf⟩:=DataW.trod_struct ht h
 match xs,hlen with
 |[y0,y1,y2],_=>exact ⟨y0,y1,y2,n,hl,by simpa using hf 0 f0 rfl,by simpa using hf 1 f1 rfl,by simpa using hf 2 f2 rfl⟩
theorem oU {W:World} {fuel:Nat} {cs:List Value} {y:DataW H×List MemPlace} (hf:DataW.trod enc Tryz.prog W 0 (fun _=>true) true fuel 25 cs=some y):∃(A:Option Addr) (c:Nat) (l:List UInt8),cs=[.slice A l.length c]∧Sl W A (l.map af):=by
 obtain ⟨A,n,c,l,q,hl,hS,_⟩:=gV (fun b=>[af b]) 1 (by decide) (fun _=>rfl) (fun _=>True) Tryz.underlying25 (by kernel_rfl) (fun fuel cs y h=>by
  obtain ⟨n,q0,_,hw⟩:=DataW.trod_int Tryz.underlying5 h
  have hb:0≤n∧n<256:=by
   simp [Lit.wf,IntKind.min,IntKind.max,IntKind.bits,IntKind.signed] at hw
   omega
  refine ⟨UInt8.ofNat n.toNat,?_,trivial⟩
  rw [q0]
  simp [af]
  omega) hf
 refine ⟨A,c,l,by rw [q,hl],?_⟩
 rw [J4]
 exact hS
theorem ze {P:Program} {W:World} {t e:TypeId} (ht:P.underlying t=some (.slice e)) {fuel:Nat} {A:Option Addr} {n c:Nat} {y:DataW H×List MemPlace} (h:DataW.trod enc P W 0 (fun _=>true) true fuel t [.slice A n c]=some y):n≤9223372036854775807:=by
 rcases DataW.trod_slice (P:=P) (t:=t) ht h with ⟨hcs,_⟩|⟨a,len,cap,elems,rest,m,_,hcs,_,_,hlc,hcm,_⟩
 ·have h1:=(Value.slice.inj (zAC.inj hcs).1).2.1
  omega
 ·have h1:=(Value.slice.inj (zAC.inj hcs).1).2.1
  unfold maxLen at hcm
  omega
theorem yR {P:Program} {W:World} {t e:TypeId} (ht:P.underlying t=some (.slice e)) {A:Option Addr} {n c:Nat} {d:DataW H} {ps:List MemPlace} (h:DataW.Trod enc P W 0 (fun _=>true) true t (.slice A n c) d ps):n≤c:=by
 obtain ⟨fuel,hf⟩:=h
 rcases DataW.trod_slice (P:=P) (t:=t) ht hf with ⟨hcs,_⟩|⟨a,len,cap,elems,rest,m,_,hcs,_,_,hlc,hcm,_⟩
 ·have h1:=Value.slice.inj (zAC.inj hcs).1
  omega
 ·have h1:=Value.slice.inj (zAC.inj hcs).1
  omega
def rc (s:bh):Prop:=∀g∈s.gs,g.ms.length≤9223372036854775807
theorem vN {W:World} {fuel:Nat} {cs:List Value} {y:DataW H×List MemPlace} (hf:DataW.trod enc Tryz.prog W 0 (fun _=>true) true fuel 55 cs=some y):∃z:ea,cs=eT z∧kU W z:=by
 obtain ⟨y0,y1,y2,y3,y4,y5,y6,m,hlen,h0,h1,h2,h3,h4,h5,h6⟩:=Gm Tryz.underlying55 hf
 rw [show (Tryz.prog).cellsOf 55=7 by kernel_rfl] at hlen
 obtain ⟨c0,c1,c2,c3,c4,c5,c6,rfl⟩:=JD hlen
 have e1:(Tryz.prog).cellsOf 3=1:=by kernel_rfl
 have e2:(Tryz.prog).cellsOf 53=1:=by kernel_rfl
 simp only [e1,e2,zAD,zAA,zAB,zAE] at h0 h1 h2 h3 h4 h5 h6
 obtain ⟨a,q0,_⟩:=DataW.trod_int Tryz.underlying3 h0
 obtain ⟨b,q1,_⟩:=DataW.trod_int Tryz.underlying3 h1
 obtain ⟨e,q2,_⟩:=DataW.trod_int Tryz.underlying3 h2
 obtain ⟨f,q3,_⟩:=DataW.trod_int Tryz.underlying3 h3
 obtain ⟨g,q4,_⟩:=DataW.trod_int Tryz.underlying3 h4
 obtain ⟨i,q5,_⟩:=DataW.trod_int Tryz.underlying3 h5
 obtain ⟨A,n,c,xs,q6,hl,hS,hb⟩:=gV gX 2 (by decide) tp (fun z=>Sl W z.2.1 (av bA z.1.l)) Tryz.underlying53 (by kernel_rfl) (fun fuel cs y h=>vE h) h6
 simp only [zAC.injEq,and_true] at q0 q1 q2 q3 q4 q5 q6
 refine ⟨⟨⟨a,b,e,f,g,i,xs.map (·.1)⟩,xs,A,c⟩,?_,⟨rfl,hS,hb⟩⟩
 rw [q0,q1,q2,q3,q4,q5,q6,←hl]
 rfl
theorem vG {W:World} {fuel:Nat} {cs:List Value} {y:DataW H×List MemPlace} (hf:DataW.trod enc Tryz.prog W 0 (fun _=>true) true fuel 51 cs=some y):∃z:cV,cs=fN z∧jZ W z∧z.ms.length≤9223372036854775807:=by
 obtain ⟨y0,y1,y2,y3,m,hx,hlen,h0,h1,h2,h3⟩:=trod_struct4 Tryz.underlying51 hf
 rw [show (Tryz.prog).cellsOf 51=4 by kernel_rfl] at hlen
 obtain ⟨c0,c1,c2,c3,rfl⟩:=Gx hlen
 have e1:(Tryz.prog).cellsOf 3=1:=by kernel_rfl
 have e2:(Tryz.prog).cellsOf 25=1:=by kernel_rfl
 have e3:(Tryz.prog).cellsOf 49=1:=by kernel_rfl
 simp only [e1,e2,e3,zAD,zAA,zAB,zAE] at h0 h1 h2 h3
 obtain ⟨a,q0,_⟩:=DataW.trod_int Tryz.underlying3 h0
 obtain ⟨b,q1,_⟩:=DataW.trod_int Tryz.underlying3 h1
 obtain ⟨sA,sc,sp,q2,hsp⟩:=oU h2
 obtain ⟨A,n,c,xs,q3,hl,hS,hb⟩:=gV eT 7 (by decide) xr (fun z=>kU W z) Tryz.underlying49 (by kernel_rfl) (fun fuel cs y h=>vN h) h3
 rw [q3] at h3
 have hln:=ze Tryz.underlying49 h3
 simp only [zAC.injEq,and_true] at q0 q1 q2 q3
 refine ⟨⟨a,b,sp,sA,sc,xs,A,c⟩,?_,⟨hsp,hS,hb⟩,by rw [←hl] at hln;exact hln⟩
 rw [q0,q1,q2,q3,←hl]
 rfl
theorem pT {W:World} {fuel:Nat} {cs:List Value} {y:DataW H×List MemPlace} (hf:DataW.trod enc Tryz.prog W 0 (fun _=>true) true fuel 35 cs=some y):∃z:bh,cs=ci z∧ek W z∧rc z:=by
 obtain ⟨y0,y1,m,hlen,h0,h3⟩:=rJ Tryz.underlying35 hf
 rw [show (Tryz.prog).cellsOf 35=4 by kernel_rfl] at hlen
 obtain ⟨c0,c1,c2,c3,rfl⟩:=Gx hlen
 have e1:(Tryz.prog).cellsOf 3=1:=by kernel_rfl
 have e2:(Tryz.prog).cellsOf 25=1:=by kernel_rfl
 have e3:(Tryz.prog).cellsOf 32=3:=by kernel_rfl
 have e4:(Tryz.prog).cellsOf 33=1:=by kernel_rfl
 simp only [e3,e4,zAD,zAA,zAB,zAE] at h0 h3
 obtain ⟨z0,z1,z2,k,_,g0,g1,g2⟩:=Gl Tryz.underlying32 h0
 simp only [e1,e2,zAD,zAA,zAB,zAE] at g0 g1 g2
 obtain ⟨a,q0,_⟩:=DataW.trod_int Tryz.underlying3 g0
 obtain ⟨b,q1,_⟩:=DataW.trod_int Tryz.underlying3 g1
 obtain ⟨sA,sc,sp,q2,hsp⟩:=oU g2
 obtain ⟨A,n,c,xs,q3,hl,hS,hb⟩:=gV fN 4 (by decide) wU (fun z=>jZ W z∧z.ms.length≤9223372036854775807) Tryz.underlying33 (by kernel_rfl) (fun fuel cs y h=>vG h) h3
 simp only [zAC.injEq,and_true] at q0 q1 q2 q3
 refine ⟨⟨a,b,sp,sA,sc,xs,A,c⟩,?_,⟨hsp,hS,fun g hg=>(hb g hg).1⟩,fun g hg=>(hb g hg).2⟩
 rw [q0,q1,q2,q3,←hl]
 rfl
set_option maxRecDepth 100000 in
theorem Cd {W:World} {r:Reach} {b0:Nat} {v:Value} {d:DataW H} {ps:List MemPlace} (hval:Value.okWide Tryz.prog W r b0 22 v) (h:DataW.Trod enc Tryz.prog W 0 (fun _=>true) true 22 v d ps):∃(A:Option Addr) (c:Nat) (ss:List bh),v= .slice A ss.length c∧dR W A ss∧∀s∈ss,rc s:=by
 obtain ⟨a0,len,cap,rfl⟩:=okWide_slice (P:=Tryz.prog) (t:=22) Tryz.underlying22 hval
 obtain ⟨fuel,hf⟩:=h
 obtain ⟨A,n,c,xs,q,hl,hS,hb⟩:=gV ci 4 (by decide) rE (fun z=>ek W z∧rc z) Tryz.underlying22 (by kernel_rfl) (fun fuel cs y h=>pT h) hf
 have e:Value.slice a0 len cap= .slice A n c:=by simpa [Value.cells] using q
 cases e
 exact ⟨a0,cap,xs,by rw [hl],⟨hS,fun s hs=>(hb s hs).1⟩,fun s hs=>(hb s hs).2⟩
set_option maxRecDepth 100000 in
theorem D5 {W:World} {r:Reach} {b0:Nat} {v:Value} {d:DataW H} {ps:List MemPlace} (hval:Value.okWide Tryz.prog W r b0 35 v) (h:DataW.Trod enc Tryz.prog W 0 (fun _=>true) true 35 v d ps):∃s:bh,v=eE s∧ek W s∧rc s:=by
 obtain ⟨cs,rfl,hsz⟩:=okWide_struct (P:=Tryz.prog) (t:=35) Tryz.underlying35 hval
 obtain ⟨fuel,hf⟩:=h
 obtain ⟨z,hz,hs⟩:=pT hf
 refine ⟨z,?_,hs⟩
 unfold eE
 congr 1
 exact Array.toList_inj.1 hz
end
end Go.Proofs.YthhijgcfbjcgiaaGreatDoor
