/- App -/
import Derived.Test.YthhijgcfbjcgiaaGreatDoorS01
import Derived.Maps.AppendAt
import Derived.Deep.AppendLies
namespace Go.Proofs.YthhijgcfbjcgiaaGreatDoor
open Go Go.RowKit
structure eG (P:Program) (t e:TypeId) (size bytes:Nat):Prop where
 ht:P.underlying t=some (.slice e)
 ex:∃i z,P.info? e=some i∧i.zero=some z∧i.size=size∧i.bytes=bytes∧z.cells.size=size
 hsz:0<size
 hby:0<bytes
theorem eG.mk' {P:Program} {t e size bytes:Nat} {z:Value} (ht:P.underlying t=some (.slice e)) (hi:(P.info? e).map (fun i=>(i.zero,i.size,i.bytes))=some (some z,size,bytes)) (hz:z.cells.size=size) (hs:0<size) (hb:0<bytes):eG P t e size bytes:=by
 obtain ⟨i,h0,h1,h2,h3⟩:=info_parts hi
 exact ⟨ht,⟨i,z,h0,h1,h2,h3,hz⟩,hs,hb⟩
theorem lI {P:Program} {w:World} {t e size bytes:Nat} (et:eG P t e size bytes) (ty:TypeId) {base n m c:Nat} {v:Value} {xs news:List Value} {A:Option Addr} (hown:w.ownsRow base e size v n xs)
  (hl:news.length=m*size) (hS:Sl w A news) (h1:∀u∈news,u.oneCell'=true) (hb:(n+m)*bytes≤140737488355328) (hbase:base≤w.heap.size):
  ∃v' w',(Builtin.append_ #[t,t] ty #[v,.slice A m c]).run P w= .ok v' w'∧w'.ownsRow base e size v' (n+m) (xs++news)∧w.grownBy w' v.ownBlock∧(v'.ownBlock=v.ownBlock∨v'.ownBlock=some w.heap.size):=by
 obtain ⟨ht,⟨i,z,hi,hz,hsize,hby,hzs⟩,hsz,hb0⟩:=et
 have h63:n+m≤maxLen:=by
  have:(n+m)*1≤(n+m)*bytes:=Nat.mul_le_mul_left _ hb0
  unfold maxLen;omega
 have hnil:∀A':Option Addr,news=[]→m=0→(Builtin.append_ #[t,t] ty #[v,.slice none m c]).run P w= .ok v w:=fun _ hn hm=>by
  subst hm
  rcases hown.2 with ⟨rfl,rfl⟩|⟨g,cap,cur,rfl,_,_,hnc,_⟩
  ·simp [Builtin.append_,run_underlying ht,sizeOf,typeInfo,hi,Builtin.lenOf,Builtin.firstCells]
  ·simp [Builtin.append_,run_underlying ht,sizeOf,typeInfo,hi,Builtin.lenOf,Builtin.firstCells,hnc,storeCells]
 cases A with
 |none=>
  have hn:news=[]:=by
   cases news with
   |nil=>rfl
   |cons x l=>obtain ⟨_,h,_⟩:=hS 0 x (by simp);cases h
  have hm:m=0:=by
   subst hn
   rcases Nat.eq_zero_or_pos m with h0|h0
   ·exact h0
   ·have:=Nat.mul_pos h0 hsz;simp only [List.length_nil] at hl;omega
  refine ⟨v,w,hnil none hn hm,?_,World.grownBy.refl w _,.inl rfl⟩
  subst hn hm
  simpa using hown
 |some ad=>
  obtain ⟨v',w',hrun,h2,h3,_,h5⟩:=run_append_own_at (P:=P) w base t ty e i z size bytes ht hi hz hsize hby hzs hsz v n xs hown ad m c news hl
   (fun j u hu=>by obtain ⟨ad',h,_,hc⟩:=hS j u hu;cases h;exact hc) h1 h63 hb hbase
  exact ⟨v',w',hrun,h2,h3,h5⟩
theorem dK {P:Program} {ops:Array Oper} {Q:Exit→Act→World→Prop} {rest:List Oper} {o:Oper} {a:Act} {w:World} {t e size bytes:Nat} (et:eG P t e size bytes) (hgd:o.guard=none) {s x:Operand}
  (ho:o.op= .call {callee:= .builtin .append,args:= #[s,x],argTypes:= #[t,t]}) {base n m c:Nat} {v:Value} {xs news:List Value} {A:Option Addr} (hs:a.eval s=v) (hown:w.ownsRow base e size v n xs)
  (hx:a.eval x= .slice A m c) (hl:news.length=m*size) (hS:Sl w A news) (h1:∀u∈news,u.oneCell'=true) (hb:(n+m)*bytes≤140737488355328) (hbase:base≤w.heap.size)
  (h:∀v' w',w'.ownsRow base e size v' (n+m) (xs++news)→w.grownBy w' v.ownBlock→(v'.ownBlock=v.ownBlock∨v'.ownBlock=some w.heap.size)→wpList P ops Q rest (a.put o.dst v') w'):wpList P ops Q (o::rest) a w:=by
 obtain ⟨v',w',hrun,h2,h3,h4⟩:=lI et o.type (c:=c) hown hl hS h1 hb hbase
 refine C0 hgd (v:=v') (w':=w') ?_ (h v' w' h2 h3 h4)
 unfold execOp
 simp only [ho,resolve,invoke,builtin,Sem.run_bind,Sem.run_pure,Result.andThen_ok,List.map_toArray,List.map_cons,List.map_nil,hs,hx,hrun]
theorem mD (l:List UInt8):∀u∈l.map af,u.oneCell'=true:=by
 intro u hu
 obtain ⟨b,_,rfl⟩:=List.mem_map.1 hu
 rfl
theorem kt {B base:Nat} {a w w':World} {e size n:Nat} {v:Value} {xs:List Value} (h:Below B a w) (hown:w.ownsRow base e size v n xs) (hg:w.grownBy w' v.ownBlock) (hB:B≤w.heap.size) (hb:B≤base):Below B a w':=
 h.grown hg hB fun k hk=>Nat.le_trans hb (hown.lt k hk).1
theorem Sl.grown {w w':World} {A:Option Addr} {xs:List Value} {row:Option Nat} (h:Sl w A xs) (hg:w.grownBy w' row) (hne:∀ad,A=some ad→row≠some ad.block):Sl w' A xs:=fun k v hk=>by
 obtain ⟨ad,rfl,hl,hc⟩:=h k v hk
 refine ⟨ad,rfl,Nat.lt_of_lt_of_le hl hg.size,?_⟩
 rw [World.cell?_of_block (hg.block (ad.add k).block (by rw [db];exact hl) (fun e=>hne ad rfl (by rw [←e,db])))]
 exact hc
theorem lH {w:World} {base e size n:Nat} {v:Value} {xs:List Value} (h:w.ownsRow base e size v n xs) (hn:0<n):∃g cap,v= .slice (some ⟨g,0,none⟩) n cap∧n≤cap∧cap≤maxLen∧base≤g:=by
 rcases h.2 with ⟨rfl,rfl⟩|⟨g,cap,cur,rfl,hbg,hh,h1,h2,h3,h4⟩
 ·omega
 ·exact ⟨g,cap,rfl,h1,h2,hbg⟩
theorem jc {w:World} {base e n c:Nat} {A:Option Addr} {xs:List Value} (h:w.ownsRow base e 1 (.slice A n c) n xs):Sl w A xs:=by
 obtain ⟨A',c',he,hS⟩:=dg h
 cases he;exact hS
theorem Sl.len {w:World} {A:Option Addr} {xs:List Value} (h:Sl w A xs) (hx:xs≠[]):∃ad,A=some ad∧ad.block<w.heap.size:=by
 cases xs with
 |nil=>exact absurd rfl hx
 |cons x l=>obtain ⟨ad,h1,h2,_⟩:=h 0 x (by simp);exact ⟨ad,h1,h2⟩
theorem jn:eG Tryz.prog 25 5 1 1:= .mk' (z:= .int .u8 0) (by kernel_rfl) (by kernel_rfl) rfl (by decide) (by decide)
theorem mF:eG Tryz.prog 61 3 1 8:= .mk' (z:= .int .i64 0) (by kernel_rfl) (by kernel_rfl) rfl (by decide) (by decide)
theorem lc:eG Tryz.prog 138 9 1 16:= .mk' (z:= .string ⟨#[]⟩) (by kernel_rfl) (by kernel_rfl) rfl (by decide) (by decide)
end Go.Proofs.YthhijgcfbjcgiaaGreatDoor
