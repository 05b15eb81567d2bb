/- Row -/
import Derived.Test.YthhijgcfbjcgiaaGreatDoorT09
import Derived.Test.YthhijgcfbjcgiaaGreatDoorT05
import Derived.Handy
import Derived.Shelf.Abstract
namespace Go.Proofs.YthhijgcfbjcgiaaGreatDoor
open Go Go.RowKit
open Nat renaming add_mul→O,lt_of_lt_of_le→Z,le_trans→V,zero_add→Y,zero_mul→X
open List renaming length→U
open Go.Value renaming slice→J
def az {α:Type} (f:α->List Value) (xs:List α):List Value:=xs.flatMap f
section
variable {α:Type} {f:α->List Value} {s:Nat}
theorem yd (B:∀x,(f x).length=s) (xs:List α):(az f xs).length=U xs*s:=by
 induction xs with
 |nil=>simp[az]
 |cons x xs ih=>
  have j:az f (x::xs)=f x++az f xs:=rfl;rw[j,List.length_append,B,ih,List.length_cons,O,Nat.one_mul,Nat.add_comm]
theorem gR (xs j:List α):az f (xs++j)=az f xs++az f j:=List.flatMap_append
theorem fX (x:α):az f [x]=f x:=by simp[az]
theorem iz (B:∀x,(f x).length=s) (xs:List α) (k:Nat) (C:k<U xs) (j:Nat) (G:j<s):(az f xs)[k*s+j]? =(f xs[k])[j]? :=by
 induction xs generalizing k with
 |nil=>simp at C
 |cons x xs ih=>
  have D:az f (x::xs)=f x++az f xs:=rfl;rw[D]
  cases k with
  |zero=>rw[X,Y,List.getElem?_append_left (by rw[B];exact G)];rfl
  |succ k=>
   rw[List.getElem?_append_right (by rw[B,O];omega),B];have e:(k+1)*s+j - s=k*s+j:=(by rw[O];omega);rw[e,ih k (by simpa using C)];rfl
theorem Gr (B:∀x,(f x).length=s) (xs:List α) (k:Nat) (C:k<U xs) (j:Nat) (I:j<s) (u:Value) (y:α) (D:f y=(f xs[k]).set j u):(az f xs).set (k*s+j) u=az f (xs.set k y):=by
 induction xs generalizing k with
 |nil=>simp at C
 |cons x xs ih=>
  have G:az f (x::xs)=f x++az f xs:=rfl;rw[G]
  cases k with
  |zero=>
   rw[X,Y,List.set_append_left _ _ (by rw[B];exact I)];have h2:f x=f (x::xs)[0]:=rfl;rw[h2,<-D];rfl
  |succ k=>
   rw[List.set_append_right _ _ (by rw[B,O];omega),B];have e:(k+1)*s+j - s=k*s+j:=(by rw[O];omega);rw[e,ih k (by simpa using C) D];rfl
end
theorem uR {w:World}{base e size n:Nat}{v:Value}{xs:List Value}(h:w.ownsRow base e size v n xs)(T:0<n):∃g j,v=J (some ⟨g,0,none⟩) n j/\base<=g/\g<w.heap.size:=by
 rcases h.2 with⟨rfl,rfl⟩|⟨g,j,I,rfl,B,G,K,h2,M,N⟩
 ·omega
 ·refine⟨g,j,rfl,B,?_⟩
  rcases Nat.lt_or_ge g w.heap.size with D|C
  ·exact D
  ·rw[Array.getElem?_eq_none C] at G;cases G
theorem kg {w:World}{base e g n B:Nat}{s:Nat}{α:Type}{f:α->List Value}(D:∀x,(f x).length=s) {xs:List α} (h:w.ownsRow base e s (J (some ⟨g,0,none⟩) n B) n (az f xs)) (k:Nat) (G:k<U xs) (j:Nat) (K:j<s):w.cell? ⟨g,k*s+j,none⟩=(f xs[k])[j]? :=by
 have hl:n*s=U xs*s:=by rw[<-h.1,yd D]
 have C:k*s+j<U xs*s:=by
  have I:(k+1)*s<=U xs*s:=Nat.mul_le_mul_right s G;rw[O] at I;omega
 rw[h.cellAt _ (by rw[hl];exact C),iz D xs k G j K]
theorem tK {w:World}{base e g n B:Nat}{s:Nat}{α:Type}{f:α->List Value}(C:∀x,(f x).length=s) {xs:List α} (h:w.ownsRow base e s (J (some ⟨g,0,none⟩) n B) n (az f xs)) (k:Nat) (G:k<U xs) (j:Nat) (D:j<s) (u:Value) (y:α) (I:f y=(f xs[k]).set j u):
  (w.setCell ⟨g,k*s+j,none⟩ u).ownsRow base e s (J (some ⟨g,0,none⟩) n B) n (az f (xs.set k y)):=by
 rw[<-Gr C xs k G j D u y I];exact(h.stored _ u).1
structure dE (own:Nat->Prop) (A B:World):Prop where
 os:B.os=A.os
 tape:B.tape=A.tape
 output:B.output=A.output
 size:A.heap.size<=B.heap.size
 block:∀k,k<A.heap.size->¬own k->B.heap[k]? =A.heap[k]?
theorem dE.of_below {own:Nat->Prop}{w w':World}(h:Below w.heap.size w w'):dE own w w':=⟨h.os,h.tape,h.output,h.size,λk j _=>h.block k j⟩
theorem dE.refl (own:Nat->Prop)(w:World):dE own w w:=⟨rfl,rfl,rfl,Nat.le_refl _,λ_ _ _=>rfl⟩
theorem dE.trans {own:Nat->Prop}{a b c:World}(h:dE own a b)(k:dE own b c):dE own a c:=
 ⟨k.os.trans h.os,k.tape.trans h.tape,k.output.trans h.output,V h.size k.size,λi j B=>(k.block i (Z j h.size) B).trans (h.block i j B)⟩
theorem dE.mono {own j:Nat->Prop}{w w':World}(h:dE own w w')(D:∀k,own k->j k):dE j w w':=⟨h.os,h.tape,h.output,h.size,λk B C=>h.block k B (λe=>C (D k e))⟩
theorem dE.set {own:Nat->Prop}{w w':World}(h:dE own w w'){p:Addr}(j:own p.block\/w.heap.size<=p.block)(v:Value):dE own w (w'.setCell p v):=
 ⟨h.os,h.tape,h.output,by simpa using h.size,λk C B=>(Below.heap_setCell w' p v k (λe=>by rcases j with j|j;exact B (e▸j);omega)).trans (h.block k C B)⟩
theorem dE.grown {own:Nat->Prop}{w w' j:World}{row:Option Nat}(h:dE own w w')(g:w'.grownBy j row)(G:∀r,row=some r->own r\/w.heap.size<=r):dE own w j:=
 ⟨g.os.trans h.os,g.tape.trans h.tape,g.output.trans h.output,V h.size g.size,λk C D=>(g.block k (Z C h.size) (λe=>by rcases G k e.symm with B|B;exact D B;omega)).trans (h.block k C D)⟩
theorem dE.blk {own:Nat->Prop}{w w':World}(h:dE own w w'){g:Nat}{t:TypeId}{cs:Array Value}(j:ab w g t cs)(B:¬own g):ab w' g t cs:=(h.block g j.lt B).trans j
theorem dE.sl {own:Nat->Prop}{A B:World}(h:dE own A B){a:Option Addr}{xs:List Value}(G:Sl A a xs)(D:∀ad,a=some ad->¬own ad.block):Sl B a xs:= λk v C=>by
 obtain⟨ad,rfl,hl,j⟩:=G k v C;refine⟨ad,rfl,Z hl h.size,?_⟩;rw[World.cell?_of_block (h.block (ad.add k).block (by rw[dh];exact hl) (by rw[dh];exact D ad rfl))];exact j
end Go.Proofs.YthhijgcfbjcgiaaGreatDoor
