/- AppZ -/
import Derived.Test.YthhijgcfbjcgiaaGreatDoorS09
import Derived.Lib.AppendZerosOnto
namespace Go.Proofs.YthhijgcfbjcgiaaGreatDoor
open Go Go.RowKit
open List renaming replicate→zAA,length_replicate→zAB,length_append→zAC,append_assoc→zAD,size_toArray→zAE,take_left→zAG
open Go.IntKind renaming i64→zAF
open Nat renaming le_refl→zAH,mul_one→zAI
theorem o4 (x:Value) (k:Nat):Builtin.zeroCells #[x] k=(zAA k x).toArray:=by
 unfold Builtin.zeroCells
 apply Array.ext
 ·simp
 ·intro i h1 h2
  simp [Nat.mod_one]
theorem F8 {P:Program} {w:World} {t tn e:TypeId} {x:Value} {bytes:Nat} (ht:P.underlying t=some (.slice e)) (htn:P.underlying tn=some (.int .i64)) (hi:(P.info? e).map (fun i=>(i.zero,i.size,i.bytes))=some (some x,1,bytes)) (hx:x.cells= #[x]) (hx1:x.oneCell'=true) (hb0:0<bytes) (ty:TypeId) {base n k:Nat} {v:Value} {xs:List Value} (hown:w.ownsRow base e 1 v n xs)
  (hb:(n+k)*bytes≤140737488355328) (hbase:base≤w.heap.size):
  ∃v' w',(Builtin.append_ #[t,tn] ty #[v,.int .i64 k]).run P w= .ok v' w'∧w'.ownsRow base e 1 v' (n+k) (xs++zAA k x)∧w.grownBy w' v.ownBlock:=by
 obtain ⟨i,h0,hz,hsize,hby⟩:=info_parts hi
 have hsm:n+k≤140737488355328:=by
  have:(n+k)*1≤(n+k)*bytes:=Nat.mul_le_mul_left _ hb0
  omega
 have hkb:k*bytes≤(n+k)*bytes:=Nat.mul_le_mul_right _ (by omega)
 have h63:n+k≤maxLen:=by unfold maxLen;omega
 have hlen:(xs++zAA k x).length=(n+k)*1:=by rw [zAC,hown.1,zAB];omega
 have grown:∀(old:Nat),∀(row:Option Nat),
   (w.drew.alloc (.cells (xs.toArray++Builtin.zeroCells x.cells k++Builtin.zeroCells x.cells (grownCap w (n+k) old e - (n+k))) e)).ownsRow base e 1
    (.slice (some ⟨w.heap.size,0,none⟩) (n+k) (grownCap w (n+k) old e)) (n+k) (xs++zAA k x)∧
   w.grownBy (w.drew.alloc (.cells (xs.toArray++Builtin.zeroCells x.cells k++Builtin.zeroCells x.cells (grownCap w (n+k) old e - (n+k))) e)) row:=by
  intro old row
  rw [hx,o4]
  have hge:=grownCap_ge w (n+k) old e
  have hcm:grownCap w (n+k) old e≤maxLen:=grownCap_le_maxLen w (n+k) old e h63
  refine ⟨⟨hlen,.inr ⟨w.heap.size,_,_,rfl,hbase,heap_alloc_new w.drew _,hge,hcm,?_,?_⟩⟩,⟨rfl,rfl,rfl,by simp,fun k2 hk _=>by have h:=Below.heap_alloc w.drew (.cells (xs.toArray++(zAA k x).toArray++Builtin.zeroCells #[x] (grownCap w (n+k) old e - (n+k))) e) k2 hk;exact h⟩⟩
  ·simp only [Array.size_append,zAE,size_zeroCells,hown.1,zAB]
   simp
   omega
  ·simp only [Array.toList_append,zAD]
   rw [←zAD,←hlen]
   exact zAG
 have hw:zAF.wrap (k:Int)=k:=by rw [IntKind.wrap_i64];omega
 have hneg:¬((k:Int)<0):=by omega
 have h48i:¬(281474976710656<(k:Int)*(i.bytes:Int)):=by rw [←Int.natCast_mul,hby];omega
 rcases hown.2 with ⟨rfl,rfl⟩|⟨g,cap,cur,rfl,hbg,hg,hnc,hcm,hcs,htake⟩
 ·have hxs:xs=[]:=List.eq_nil_of_length_eq_zero (by simpa using hown.1)
  subst hxs
  by_cases hk:k=0
  ·subst hk
   refine ⟨.slice none 0 0,w,?_,World.ownsRow_nil w base e 1,⟨rfl,rfl,rfl,zAH _,fun _ _ _=>rfl⟩⟩
   have hw0:zAF.wrap 0=0:=by decide
   simp [Builtin.append_,run_underlying ht,run_underlying htn,sizeOf,typeInfo,h0,asInt,asIntOf,hw0]
  ·have hr:=Go.Lib.run_append_nil_zeros (P:=P) w t tn ty e i x .i64 .i64 ht htn h0 hz k (by omega) (by omega) (by omega) (by rw [hby];omega)
   have hgr:=grown 0 (Value.ownBlock (.slice none 0 0))
   simp only [Nat.zero_add,List.nil_append,Array.empty_append] at hgr⊢
   exact ⟨_,_,hr,hgr.1,hgr.2⟩
 ·by_cases hroom:n+k≤cap
  ·by_cases hk:k=0
   ·subst hk
    refine ⟨.slice (some ⟨g,0,none⟩) n cap,w,?_,by simpa using hown,⟨rfl,rfl,rfl,zAH _,fun _ _ _=>rfl⟩⟩
    have hw0:zAF.wrap 0=0:=by decide
    simp [Builtin.append_,run_underlying ht,run_underlying htn,sizeOf,typeInfo,h0,asInt,asIntOf,hw0,hnc,storeCells]
   ·have hfit:n*1+(zAA k x).length≤cur.size:=by rw [zAB,hcs];omega
    have hst:=run_storeCells_at P g (n*1) e (zAA k x) 0 cur w hg (by simpa using hfit) (fun u hu=>by rw [List.eq_of_mem_replicate hu];exact hx1)
    simp only [Nat.add_zero,zAI] at hst
    have hns:¬(k*1=0):=by omega
    refine ⟨.slice (some ⟨g,0,none⟩) (n+k) cap,w.setRow g (cur.toList.take n++zAA k x++cur.toList.drop (n+(zAA k x).length)).toArray,?_,⟨hlen,.inr ⟨g,cap,_,rfl,hbg,setRow_heap w g cur _ e _ hg,hroom,hcm,?_,?_⟩⟩,⟨rfl,rfl,rfl,by simp,fun k _ hk=>setRow_other w g k _ (fun e=>hk (by simp [Value.ownBlock,e]))⟩⟩
    ·simp [Builtin.append_,run_underlying ht,run_underlying htn,sizeOf,typeInfo,h0,asInt,asIntOf,hw,hneg,h48i,hsize,hk,hroom,zeroValue,hz,hx,o4,Addr.add_lit,hst]
    ·simp only [zAE,zAC,List.length_take,List.length_drop,Array.length_toList,zAB]
     rw [zAB] at hfit
     omega
    ·rw [zAI] at htake
     rw [htake,←hlen]
     exact zAG
  ·have holds:∀j u,xs[j]? =some u→w.cell? ((⟨g,0,none⟩:Addr).add j)=some u:=hown.cells (g:=g) rfl
   have hold:=run_firstCells_some (P:=P) w.drew i.size n ⟨g,0,none⟩ n cap xs (by rw [hsize];exact hown.1) holds
   have hr:=Go.Lib.run_append_grow_zeros (P:=P) w t tn ty e i x .i64 .i64 ht htn h0 hz (some ⟨g,0,none⟩) n cap xs hold k (by omega) (by omega) (by omega) (by omega) (by rw [hby];omega) (by rw [hby];exact growslice_fits (by omega) hb)
   have hgr:=grown cap (Value.ownBlock (.slice (some ⟨g,0,none⟩) n cap))
   exact ⟨_,_,hr,hgr.1,hgr.2⟩
theorem Ad {P:Program} {ops:Array Oper} {Q:Exit→Act→World→Prop} {rest:List Oper} {o:Oper} {a:Act} {w:World} {t tn e:TypeId} {x:Value} {bytes:Nat} (ht:P.underlying t=some (.slice e)) (htn:P.underlying tn=some (.int .i64)) (hi:(P.info? e).map (fun i=>(i.zero,i.size,i.bytes))=some (some x,1,bytes)) (hx:x.cells= #[x]) (hx1:x.oneCell'=true) (hb0:0<bytes) (hgd:o.guard=none) {s y:Operand}
  (ho:o.op= .call {callee:= .builtin .append,args:= #[s,y],argTypes:= #[t,tn]}) {base n k:Nat} {v:Value} {xs:List Value} (hs:a.eval s=v) (hown:w.ownsRow base e 1 v n xs)
  (hy:a.eval y= .int .i64 (k:Int)) (hb:(n+k)*bytes≤140737488355328) (hbase:base≤w.heap.size)
  (h:∀v' w',w'.ownsRow base e 1 v' (n+k) (xs++zAA k x)→w.grownBy w' v.ownBlock→wpList P ops Q rest (a.put o.dst v') w'):wpList P ops Q (o::rest) a w:=by
 obtain ⟨v',w',hrun,h2,h3⟩:=F8 ht htn hi hx hx1 hb0 o.type hown hb hbase
 exact Go.Lib.wpList_append_run w hgd s y t tn ho _ _ hs hy v' w' hrun (h v' w' h2 h3)
end Go.Proofs.YthhijgcfbjcgiaaGreatDoor
