/- App -/
import Derived.Test.YthhijgcfbjcgiaaGreatDoorT01
import Derived.Deep.AppendLies
namespace Go.Proofs.YthhijgcfbjcgiaaGreatDoor
open Go Go.RowKit
open List renaming mem_map→O,length→V
open Go.Value renaming slice→U
open Tryz renaming prog→Z
structure eU (P:Program) (t e:TypeId) (size bytes:Nat):Prop where
 ht:P.underlying t=some (.slice e)
 ex:∃i z,P.info? e=some i/\i.zero=some z/\i.size=size/\i.bytes=bytes/\z.cells.size=size
 hsz:0<size
 hby:0<bytes
theorem eU.mk' {P:Program}{t e size bytes:Nat}{z:Value}(ht:P.underlying t=some (.slice e))(G:(P.info? e).map (λi=>(i.zero,i.size,i.bytes))=some (some z,size,bytes))(K:z.cells.size=size)(I:0<size)(D:0<bytes):eU P t e size bytes:=by
 obtain⟨i,j,B,h2,C⟩:=info_parts G;exact⟨ht,⟨i,z,j,B,h2,C,K⟩,I,D⟩
theorem nK {P:Program}{w:World}{t e size bytes:Nat}(et:eU P t e size bytes)(ty:TypeId){base n m c:Nat}{v:Value}{xs news:List Value}{A:Option Addr}(B:w.ownsRow base e size v n xs)
  (hl:V news=m*size) (hS:Sl w A news) (h1:∀u∈news,u.oneCell'=true) (hb:(n+m)*bytes<=140737488355328) (C:base<=w.heap.size):
  ∃G w',(Builtin.append_ #[t,t] ty #[v,U A m c]).run P w= .ok G w'/\w'.ownsRow base e size G (n+m) (xs++news)/\w.grownBy w' v.ownBlock/\(G.ownBlock=v.ownBlock\/G.ownBlock=some w.heap.size):=by
 obtain⟨ht,⟨i,z,hi,hz,D,hby,cE⟩,hsz,aJ⟩:=et
 have av:n+m<=maxLen:=by
  have:(n+m)*1<=(n+m)*bytes:=Nat.mul_le_mul_left _ aJ;unfold maxLen;omega
 have I:∀A':Option Addr,news=[]->m=0->(Builtin.append_ #[t,t] ty #[v,U none m c]).run P w= .ok v w:= λ_ N M=>by
  subst M;rcases B.2 with⟨rfl,rfl⟩|⟨g,dv,dy,rfl,_,_,bM,_⟩
  ·simp[Builtin.append_,run_underlying ht,sizeOf,typeInfo,hi,Builtin.lenOf,Builtin.firstCells]
  ·simp[Builtin.append_,run_underlying ht,sizeOf,typeInfo,hi,Builtin.lenOf,Builtin.firstCells,bM,storeCells]
 cases A with
 |none=>
  have N:news=[]:=by
   cases news with
   |nil=>rfl
   |cons x l=>obtain⟨_,h,_⟩:=hS 0 x (by simp);cases h
  have M:m=0:=by
   subst N;rcases Nat.eq_zero_or_pos m with T|T
   ·exact T
   ·have:=Nat.mul_pos T hsz;simp only[List.length_nil] at hl;omega
  refine⟨v,w,I none N M,?_,World.grownBy.refl w _,.inl rfl⟩;subst N M
  simpa using B
 |some ad=>
  obtain⟨G,w',K,h2,h3,_,h5⟩:=run_append_own_at (P:=P) w base t ty e i z size bytes ht hi hz D hby cE hsz v n xs B ad m c news hl
   (λj u hu=>by obtain⟨cI,h,_,hc⟩:=hS j u hu;cases h;exact hc) h1 av hb C
  exact⟨G,w',K,h2,h3,h5⟩
theorem dA {P:Program}{I:Array Oper}{Q:Exit->Act->World->Prop}{j:List Oper}{o:Oper}{a:Act}{w:World}{t e size bytes:Nat}(M:eU P t e size bytes)(K:o.guard=none){s x:Operand}
  (ho:o.op= .call {callee:= .builtin .append,args:= #[s,x],argTypes:= #[t,t]}) {base n m c:Nat} {v:Value} {xs news:List Value} {A:Option Addr} (hs:a.eval s=v) (D:w.ownsRow base e size v n xs)
  (hx:a.eval x=U A m c) (hl:V news=m*size) (hS:Sl w A news) (N:∀u∈news,u.oneCell'=true) (hb:(n+m)*bytes<=140737488355328) (B:base<=w.heap.size)
  (h:∀C w',w'.ownsRow base e size C (n+m) (xs++news)->w.grownBy w' v.ownBlock->(C.ownBlock=v.ownBlock\/C.ownBlock=some w.heap.size)->wpList P I Q j (a.put o.dst C) w'):wpList P I Q (o::j) a w:=by
 obtain⟨C,w',G,h2,T,h4⟩:=nK M o.type (c:=c) D hl hS N hb B;refine Ds K (v:=C) (w':=w') ?_ (h C w' h2 T h4);unfold execOp;simp only[ho,resolve,invoke,builtin,Sem.run_bind,Sem.run_pure,Result.andThen_ok,List.map_toArray,List.map_cons,List.map_nil,hs,hx,G]
theorem DN (l:List UInt8):∀u∈l.map ag,u.oneCell'=true:=by
 intro u j;obtain⟨b,_,rfl⟩:=O.1 j;rfl
theorem FQ (l:List Int):∀u∈l.map aH,u.oneCell'=true:=by
 intro u j;obtain⟨b,_,rfl⟩:=O.1 j;rfl
theorem GA (l:List (List UInt8)):∀u∈l.map (λc=>Value.string (bs c)),u.oneCell'=true:=by
 intro u j;obtain⟨b,_,rfl⟩:=O.1 j;rfl
theorem kC {B base:Nat}{a w w':World}{e size n:Nat}{v:Value}{xs:List Value}(h:Below B a w)(j:w.ownsRow base e size v n xs)(G:w.grownBy w' v.ownBlock)(C:B<=w.heap.size)(D:B<=base):Below B a w':=
 h.grown G C λk I=>Nat.le_trans D (j.lt k I).1
theorem Sl.grown {w w':World}{A:Option Addr}{xs:List Value}{row:Option Nat}(h:Sl w A xs)(B:w.grownBy w' row)(j:∀ad,A=some ad->row≠some ad.block):Sl w' A xs:= λk v D=>by
 obtain⟨ad,rfl,hl,C⟩:=h k v D;refine⟨ad,rfl,Nat.lt_of_lt_of_le hl B.size,?_⟩;rw[World.cell?_of_block (B.block (ad.add k).block (by rw[dh];exact hl) (λe=>j ad rfl (by rw[<-e,dh])))];exact C
theorem jl {w:World}{base e size n:Nat}{v:Value}{xs:List Value}(h:w.ownsRow base e size v n xs)(M:0<n):∃g j,v=U (some ⟨g,0,none⟩) n j/\n<=j/\j<=maxLen/\base<=g:=by
 rcases h.2 with⟨rfl,rfl⟩|⟨g,j,C,rfl,B,K,D,h2,G,I⟩
 ·omega
 ·exact⟨g,j,rfl,D,h2,B⟩
theorem fG {w:World}{base e n c:Nat}{A:Option Addr}{xs:List Value}(h:w.ownsRow base e 1 (U A n c) n xs):Sl w A xs:=by
 obtain⟨B,C,he,j⟩:=cO h
 cases he;exact j
theorem Sl.len {w:World}{A:Option Addr}{xs:List Value}(h:Sl w A xs)(B:xs≠[]):∃ad,A=some ad/\ad.block<w.heap.size:=by
 cases xs with
 |nil=>exact absurd rfl B
 |cons x l=>obtain⟨ad,j,h2,_⟩:=h 0 x (by simp);exact⟨ad,j,h2⟩
theorem nC:eU Z 25 5 1 1:= .mk' (z:= .int .u8 0) (by kernel_rfl) (by kernel_rfl) rfl (by decide) (by decide)
theorem jx:eU Z 61 3 1 8:= .mk' (z:= .int .i64 0) (by kernel_rfl) (by kernel_rfl) rfl (by decide) (by decide)
theorem jy:eU Z 138 9 1 16:= .mk' (z:=.string ⟨#[]⟩) (by kernel_rfl) (by kernel_rfl) rfl (by decide) (by decide)
end Go.Proofs.YthhijgcfbjcgiaaGreatDoor
