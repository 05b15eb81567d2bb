/- Open19 -/
import Derived.Test.YthhijgcfbjcgiaaGreatDoorS08
import Derived.Test.YthhijgcfbjcgiaaGreatDoorS18
import Derived.Lib.SmallJoins
namespace Go.Proofs.YthhijgcfbjcgiaaGreatDoor
open Go Go.ChangeShapes Go.WideShapes Go.ChangeAt Go.RowKit Go.Joins
open List renaming getElem?_eq_getElem→zAA,getElem?_eq_some_iff→zAB,drop_succ_cons→zAC,take_succ_cons→zAD,drop_zero→zAE,take_zero→zAF,cons→zAH
open Nat renaming mul_comm→zAG
section
variable {H:Type} {enc:TypeId×Value→H}
theorem AJ {α:Type} (P:Nat→α→Prop):∀n:Nat,(∀i,i<n→∃o,P i o)→∃os:List α,os.length=n∧∀i o,os[i]? =some o→P i o
 |0,_=>⟨[],rfl,fun i o h=>by simp at h⟩
 |n+1,h=>by
  obtain ⟨os,hl,ho⟩:=AJ P n (fun i hi=>h i (by omega))
  obtain ⟨x,hx⟩:=h n (by omega)
  refine ⟨os++[x],by simp [hl],fun i o hi=>?_⟩
  by_cases hin:i<os.length
  ·rw [List.getElem?_append_left hin] at hi
   exact ho i o hi
  ·rw [List.getElem?_append_right (by omega)] at hi
   have hi0:i - os.length=0:=by
    have:=(zAB.1 hi).1
    simp at this;omega
   rw [hi0] at hi
   have hxo:x=o:=by simpa using hi
   subst hxo
   have:i=n:=by omega
   subst this
   exact hx
theorem gV {P:Program} {α:Type} (f:α→List Value) (k:Nat) (hk:0<k) (hf:∀p,(f p).length=k) {W:World} (G:α→Prop) {t e:TypeId} (ht:P.underlying t=some (.slice e)) (hce:P.cellsOf e=k)
  (elem:∀fuel cs (y:DataW H×List MemPlace),DataW.trod enc P W 0 (fun _=>true) true fuel e cs=some y→∃z,cs=f z∧G z) {fuel:Nat} {cs:List Value} {y:DataW H×List MemPlace} (h:DataW.trod enc P W 0 (fun _=>true) true fuel t cs=some y):
  ∃(A:Option Addr) (n c:Nat) (zs:List α),cs=[.slice A n c]∧zs.length=n∧Sl W A (av f zs)∧∀z∈zs,G z:=by
 rcases DataW.trod_slice (P:=P) (t:=t) ht h with ⟨hcs,_⟩|⟨a,len,cap,elems,rest,m,_,hcs,_,_,hlc,hcm,hlen,hel,_,_⟩
 ·exact ⟨none,0,0,[],hcs,rfl,fun i v h=>by simp [av] at h,fun z h=>by cases h⟩
 ·rw [hce] at hel
  obtain ⟨zs,hl,hz⟩:=AJ (fun i (z:α)=>G z∧∀j,j<k→W.cell? (a.add (i*k+j))=(f z)[j]?) len (fun i hi=>by
   have hi2:=hel i hi
   rw [zAA (by omega),Option.bind_eq_some_iff] at hi2
   obtain ⟨cs2,hcs2,hy⟩:=hi2
   obtain ⟨z,rfl,hG⟩:=elem _ _ _ hy
   have hc:=(World.cells?_some hcs2).2.2
   refine ⟨z,hG,fun j hj=>?_⟩
   have q:=hc j hj
   rw [hO] at q
   exact q)
  refine ⟨some a,len,cap,zs,hcs,hl,fun i v hv=>?_,fun z hm=>?_⟩
  ·have hlt:=(zAB.1 hv).1
   rw [xW hf] at hlt
   have hq:i / k<zs.length:=Nat.div_lt_of_lt_mul (by rw [zAG];exact hlt)
   have hr:i % k<k:=Nat.mod_lt _ hk
   have e1:i / k*k+i % k=i:=by rw [zAG];exact Nat.div_add_mod i k
   have h1:=io hf zs (i / k) hq (i % k) hr
   rw [e1,hv] at h1
   have h2:=(hz (i / k) _ (zAA hq)).2 (i % k) hr
   rw [e1] at h2
   have h3:W.cell? (a.add i)=some v:=h2.trans h1.symm
   have hb:=World.block_lt_of_cell? W _ h3
   rw [db] at hb
   exact ⟨a,rfl,hb,h3⟩
  ·obtain ⟨i,hi,rfl⟩:=List.getElem_of_mem hm
   exact (hz i _ (zAA hi)).1
theorem Gw {α:Type} {l:List α} (h:l.length=2):∃a b,l=[a,b]:=by
 match l,h with
 |[a,b],_=>exact ⟨a,b,rfl⟩
theorem Gx {α:Type} {l:List α} (h:l.length=4):∃a b c d,l=[a,b,c,d]:=by
 match l,h with
 |[a,b,c,d],_=>exact ⟨a,b,c,d,rfl⟩
theorem JD {α:Type} {l:List α} (h:l.length=7):∃y0 y1 y2 y3 y4 y5 y6,l=[y0,y1,y2,y3,y4,y5,y6]:=by
 match l,h with
 |[y0,y1,y2,y3,y4,y5,y6],_=>exact ⟨y0,y1,y2,y3,y4,y5,y6,rfl⟩
theorem rJ {P:Program} {w:World} {base:Nat} {spare:Nat→Bool} {held:Bool} {t:TypeId} {f0 f1:Field} {fuel:Nat} {cs:List Value} {x:DataW H×List MemPlace} (ht:P.underlying t=some (.struct #[f0,f1])) (h:DataW.trod enc P w base spare held fuel t cs=some x):
  ∃y0 y1 m,cs.length=P.cellsOf t∧DataW.trod enc P w base spare held m f0.type ((cs.drop f0.offset).take (P.cellsOf f0.type))=some y0∧DataW.trod enc P w base spare held m f1.type ((cs.drop f1.offset).take (P.cellsOf f1.type))=some y1:=by
 obtain ⟨xs,n,_,rfl,hl,hlen,hf⟩:=DataW.trod_struct ht h
 match xs,hlen with
 |[y0,y1],_=>exact ⟨y0,y1,n,hl,by simpa using hf 0 f0 rfl,by simpa using hf 1 f1 rfl⟩
theorem Gm {P:Program} {w:World} {base:Nat} {spare:Nat→Bool} {held:Bool} {t:TypeId} {f0 f1 f2 f3 f4 f5 f6:Field} {fuel:Nat} {cs:List Value} {x:DataW H×List MemPlace} (ht:P.underlying t=some (.struct #[f0,f1,f2,f3,f4,f5,f6])) (h:DataW.trod enc P w base spare held fuel t cs=some x):
  ∃y0 y1 y2 y3 y4 y5 y6 m,cs.length=P.cellsOf t∧DataW.trod enc P w base spare held m f0.type ((cs.drop f0.offset).take (P.cellsOf f0.type))=some y0∧DataW.trod enc P w base spare held m f1.type ((cs.drop f1.offset).take (P.cellsOf f1.type))=some y1∧DataW.trod enc P w base spare held m f2.type ((cs.drop f2.offset).take (P.cellsOf f2.type))=some y2∧DataW.trod enc P w base spare held m f3.type ((cs.drop f3.offset).take (P.cellsOf f3.type))=some y3∧DataW.trod enc P w base spare held m f4.type ((cs.drop f4.offset).take (P.cellsOf f4.type))=some y4∧DataW.trod enc P w base spare held m f5.type ((cs.drop f5.offset).take (P.cellsOf f5.type))=some y5∧DataW.trod enc P w base spare held m f6.type ((cs.drop f6.offset).take (P.cellsOf f6.type))=some y6:=by
 obtain ⟨xs,n,_,rfl,hl,hlen,hf⟩:=DataW.trod_struct ht h
 match xs,hlen with
 |[y0,y1,y2,y3,y4,y5,y6],_=>exact ⟨y0,y1,y2,y3,y4,y5,y6,n,hl,by simpa using hf 0 f0 rfl,by simpa using hf 1 f1 rfl,by simpa using hf 2 f2 rfl,by simpa using hf 3 f3 rfl,by simpa using hf 4 f4 rfl,by simpa using hf 5 f5 rfl,by simpa using hf 6 f6 rfl⟩
theorem xB {W:World} {fuel:Nat} {cs:List Value} {y:DataW H×List MemPlace} (hf:DataW.trod enc Tryz.prog W 0 (fun _=>true) true fuel 189 cs=some y):∃z:Int×Int,cs=bA z:=by
 obtain ⟨y0,y1,m,hlen,h0,h1⟩:=rJ Tryz.underlying189 hf
 rw [show (Tryz.prog).cellsOf 189=2 by kernel_rfl] at hlen
 obtain ⟨c0,c1,rfl⟩:=Gw hlen
 have e1:(Tryz.prog).cellsOf 3=1:=by kernel_rfl
 simp only [e1,zAE,zAC,zAD,zAF] at h0 h1
 obtain ⟨a,q0,_⟩:=DataW.trod_int Tryz.underlying3 h0
 obtain ⟨b,q1,_⟩:=DataW.trod_int Tryz.underlying3 h1
 simp only [zAH.injEq,and_true] at q0 q1
 exact ⟨(a,b),by rw [q0,q1];rfl⟩
theorem vE {W:World} {fuel:Nat} {cs:List Value} {y:DataW H×List MemPlace} (hf:DataW.trod enc Tryz.prog W 0 (fun _=>true) true fuel 93 cs=some y):∃z:dF,cs=gX z∧Sl W z.2.1 (av bA z.1.l):=by
 obtain ⟨y0,y1,m,hlen,h0,h1⟩:=rJ Tryz.underlying93 hf
 rw [show (Tryz.prog).cellsOf 93=2 by kernel_rfl] at hlen
 obtain ⟨c0,c1,rfl⟩:=Gw hlen
 have e1:(Tryz.prog).cellsOf 3=1:=by kernel_rfl
 have e2:(Tryz.prog).cellsOf 91=1:=by kernel_rfl
 simp only [e1,e2,zAE,zAC,zAD,zAF] at h0 h1
 obtain ⟨a,q0,_⟩:=DataW.trod_int Tryz.underlying3 h0
 obtain ⟨B,n,c,l,q1,hl,hS,_⟩:=gV bA 2 (by decide) pG (fun _=>True) Tryz.underlying91 (by kernel_rfl) (fun fuel cs y h=>by obtain ⟨z,hz⟩:=xB h;exact ⟨z,hz,trivial⟩) h1
 simp only [zAH.injEq,and_true] at q0 q1
 refine ⟨(⟨a,l⟩,B,c),?_,hS⟩
 rw [q0,q1]
 show _=[Value.int .i64 a,.slice B l.length c]
 rw [hl]
end
end Go.Proofs.YthhijgcfbjcgiaaGreatDoor
