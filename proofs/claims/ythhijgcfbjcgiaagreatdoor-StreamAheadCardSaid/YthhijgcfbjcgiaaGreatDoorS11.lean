/- Row -/
import Derived.Test.YthhijgcfbjcgiaaGreatDoorS09
import Derived.Test.YthhijgcfbjcgiaaGreatDoorS05
import Derived.Handy
import Derived.WalkMore
import Derived.Shelf.Abstract
namespace Go.Proofs.YthhijgcfbjcgiaaGreatDoor
open Go Go.RowKit
open Nat renaming add_mul→zAA,lt_of_lt_of_le→zAB,le_trans→zAC,zero_add→zAD,zero_mul→zAE
def av {α:Type} (f:α→List Value) (xs:List α):List Value:=xs.flatMap f
section
variable {α:Type} {f:α→List Value} {s:Nat}
theorem xW (hf:∀x,(f x).length=s) (xs:List α):(av f xs).length=xs.length*s:=by
 induction xs with
 |nil=>simp [av]
 |cons x xs ih=>
  have h1:av f (x::xs)=f x++av f xs:=rfl
  rw [h1,List.length_append,hf,ih,List.length_cons,zAA,Nat.one_mul,Nat.add_comm]
theorem im (xs ys:List α):av f (xs++ys)=av f xs++av f ys:=List.flatMap_append
theorem gG (x:α):av f [x]=f x:=by simp [av]
theorem io (hf:∀x,(f x).length=s) (xs:List α) (k:Nat) (hk:k<xs.length) (j:Nat) (hj:j<s):(av f xs)[k*s+j]? =(f xs[k])[j]? :=by
 induction xs generalizing k with
 |nil=>simp at hk
 |cons x xs ih=>
  have h1:av f (x::xs)=f x++av f xs:=rfl
  rw [h1]
  cases k with
  |zero=>rw [zAE,zAD,List.getElem?_append_left (by rw [hf];exact hj)];rfl
  |succ k=>
   rw [List.getElem?_append_right (by rw [hf,zAA];omega),hf]
   have e:(k+1)*s+j - s=k*s+j:=by rw [zAA];omega
   rw [e,ih k (by simpa using hk)]
   rfl
theorem F2 (hf:∀x,(f x).length=s) (xs:List α) (k:Nat) (hk:k<xs.length) (j:Nat) (hj:j<s) (u:Value) (y:α) (hy:f y=(f xs[k]).set j u):(av f xs).set (k*s+j) u=av f (xs.set k y):=by
 induction xs generalizing k with
 |nil=>simp at hk
 |cons x xs ih=>
  have h1:av f (x::xs)=f x++av f xs:=rfl
  rw [h1]
  cases k with
  |zero=>
   rw [zAE,zAD,List.set_append_left _ _ (by rw [hf];exact hj)]
   have h2:f x=f (x::xs)[0]:=rfl
   rw [h2,←hy];rfl
  |succ k=>
   rw [List.set_append_right _ _ (by rw [hf,zAA];omega),hf]
   have e:(k+1)*s+j - s=k*s+j:=by rw [zAA];omega
   rw [e,ih k (by simpa using hk) hy]
   rfl
theorem Ek (hf:∀x,(f x).length=s) (xs:List α) (n:Nat):av f (xs.take n)=(av f xs).take (n*s):=by
 induction xs generalizing n with
 |nil=>simp [av]
 |cons x xs ih=>
  have h1:av f (x::xs)=f x++av f xs:=rfl
  cases n with
  |zero=>simp [av]
  |succ n=>
   have h2:av f ((x::xs).take (n+1))=f x++av f (xs.take n):=rfl
   rw [h2,ih,h1,List.take_append,hf,List.take_of_length_le (l:=f x) (by rw [hf,zAA];omega)]
   have e:(n+1)*s - s=n*s:=by rw [zAA];omega
   rw [e]
end
theorem uR {w:World} {base e size n:Nat} {v:Value} {xs:List Value} (h:w.ownsRow base e size v n xs) (hn:0<n):∃g cap,v= .slice (some ⟨g,0,none⟩) n cap∧base≤g∧g<w.heap.size:=by
 rcases h.2 with ⟨rfl,rfl⟩|⟨g,cap,cur,rfl,hbg,hh,h1,h2,h3,h4⟩
 ·omega
 ·refine ⟨g,cap,rfl,hbg,?_⟩
  rcases Nat.lt_or_ge g w.heap.size with hlt|hge
  ·exact hlt
  ·rw [Array.getElem?_eq_none hge] at hh;cases hh
theorem jR {w:World} {base e g n cap:Nat} {s:Nat} {α:Type} {f:α→List Value} (hf:∀x,(f x).length=s) {xs:List α} (h:w.ownsRow base e s (.slice (some ⟨g,0,none⟩) n cap) n (av f xs)) (k:Nat) (hk:k<xs.length) (j:Nat) (hj:j<s):w.cell? ⟨g,k*s+j,none⟩=(f xs[k])[j]? :=by
 have hl:n*s=xs.length*s:=by rw [←h.1,xW hf]
 have hlt:k*s+j<xs.length*s:=by
  have h1:(k+1)*s≤xs.length*s:=Nat.mul_le_mul_right s hk
  rw [zAA] at h1
  omega
 rw [h.cellAt _ (by rw [hl];exact hlt),io hf xs k hk j hj]
theorem tM {w:World} {base e g n cap:Nat} {s:Nat} {α:Type} {f:α→List Value} (hf:∀x,(f x).length=s) {xs:List α} (h:w.ownsRow base e s (.slice (some ⟨g,0,none⟩) n cap) n (av f xs)) (k:Nat) (hk:k<xs.length) (j:Nat) (hj:j<s) (u:Value) (y:α) (hy:f y=(f xs[k]).set j u):
  (w.setCell ⟨g,k*s+j,none⟩ u).ownsRow base e s (.slice (some ⟨g,0,none⟩) n cap) n (av f (xs.set k y)):=by
 rw [←F2 hf xs k hk j hj u y hy]
 exact (h.stored _ u).1
structure dD (eh:Nat→Prop) (A B:World):Prop where
 os:B.os=A.os
 tape:B.tape=A.tape
 output:B.output=A.output
 size:A.heap.size≤B.heap.size
 block:∀k,k<A.heap.size→¬eh k→B.heap[k]? =A.heap[k]?
theorem dD.of_below {eh:Nat→Prop} {w w':World} (h:Below w.heap.size w w'):dD eh w w':=⟨h.os,h.tape,h.output,h.size,fun k hk _=>h.block k hk⟩
theorem dD.refl (eh:Nat→Prop) (w:World):dD eh w w:=⟨rfl,rfl,rfl,Nat.le_refl _,fun _ _ _=>rfl⟩
theorem dD.trans {eh:Nat→Prop} {a b c:World} (h:dD eh a b) (k:dD eh b c):dD eh a c:=
 ⟨k.os.trans h.os,k.tape.trans h.tape,k.output.trans h.output,zAC h.size k.size,fun i hi hn=>(k.block i (zAB hi h.size) hn).trans (h.block i hi hn)⟩
theorem dD.mono {eh own':Nat→Prop} {w w':World} (h:dD eh w w') (hs:∀k,eh k→own' k):dD own' w w':=⟨h.os,h.tape,h.output,h.size,fun k hk hn=>h.block k hk (fun e=>hn (hs k e))⟩
theorem dD.set {eh:Nat→Prop} {w w':World} (h:dD eh w w') {p:Addr} (hp:eh p.block∨w.heap.size≤p.block) (v:Value):dD eh w (w'.setCell p v):=
 ⟨h.os,h.tape,h.output,by simpa using h.size,fun k hk hn=>(Below.heap_setCell w' p v k (fun e=>by rcases hp with hp|hp;exact hn (e▸hp);omega)).trans (h.block k hk hn)⟩
theorem dD.grown {eh:Nat→Prop} {w w' w'':World} {row:Option Nat} (h:dD eh w w') (g:w'.grownBy w'' row) (hr:∀r,row=some r→eh r∨w.heap.size≤r):dD eh w w'':=
 ⟨g.os.trans h.os,g.tape.trans h.tape,g.output.trans h.output,zAC h.size g.size,fun k hk hn=>(g.block k (zAB hk h.size) (fun e=>by rcases hr k e.symm with h1|h1;exact hn h1;omega)).trans (h.block k hk hn)⟩
theorem dD.blk {eh:Nat→Prop} {w w':World} (h:dD eh w w') {g:Nat} {t:TypeId} {cs:Array Value} (hb:ab w g t cs) (hg:¬eh g):ab w' g t cs:=(h.block g hb.lt hg).trans hb
theorem dD.sl {eh:Nat→Prop} {A B:World} (h:dD eh A B) {a:Option Addr} {xs:List Value} (hs:Sl A a xs) (hn:∀ad,a=some ad→¬eh ad.block):Sl B a xs:=fun k v hk=>by
 obtain ⟨ad,rfl,hl,hc⟩:=hs k v hk
 refine ⟨ad,rfl,zAB hl h.size,?_⟩
 rw [World.cell?_of_block (h.block (ad.add k).block (by rw [db];exact hl) (by rw [db];exact hn ad rfl))]
 exact hc
end Go.Proofs.YthhijgcfbjcgiaaGreatDoor
