/- PMap, Tells -/
import Derived.Test.YthhijgcfbjcgiaaGreatDoorQ01
import Derived.Maps.OwnIn
import Derived.Lib.SlKeysI
namespace Go.Proofs.YthhijgcfbjcgiaaGreatDoor
open Go Go.RowKit Go.Maps
open List renaming range→O,length→U
def gR (v:Value):Option (DataW Value×List MemPlace):=some (.held v,[])
def i9 (k:Int):Lit:= .int .i64 k
section
variable {α:Type} {g:α->Option Value}
end
abbrev fE (c:List UInt8):Value:=.agg #[.string (bs c)]
def nU (D:DataW Value) (n:Int) (c:List UInt8):DataW Value:=if Maps.has D (i9 n) then D else D.put (i9 n) (.held (fE c))
def tK:DataW Value->List (List UInt8)->List Int->DataW Value
 |D,c::cs,n::ns=>tK (nU D n c) cs ns
 |D,_,_=>D
def kl (D:DataW Value) (f:Int->Option (List UInt8)):Prop:=IsMap D/\∀k,Maps.has D (i9 k)=(f k).isSome/\∀z,D.atKey (i9 k) z=((f k).map λc=>DataW.held (fE c)).getD z
theorem Il {a b:Int}(h:a≠b):i9 a≠i9 b:= λe=>h (by unfold i9 at e;injection e)
theorem ti:kl (.map []) (λ_=>none):=⟨isMap_empty,λ_=>⟨rfl,λ_=>rfl⟩⟩
theorem vL {D:DataW Value}{f:Int->Option (List UInt8)}(h:kl D f)(n:Int)(c:List UInt8):kl (nU D n c) (λk=>if k=n then some ((f n).getD c) else f k):=by
 unfold nU
 cases G:f n with
 |some c'=>
  have C:Maps.has D (i9 n)=true:=(by rw[(h.2 n).1,G];rfl);rw[if_pos C];refine⟨h.1,λk=>?_⟩
  by_cases j:k=n
  ·subst j
   have:=h.2 k;rw[G] at this
   simpa using this
  ·simpa [j] using h.2 k
 |none=>
  have C:Maps.has D (i9 n)=false:=(by rw[(h.2 n).1,G];rfl);rw[if_neg (by rw[C];simp)];refine⟨h.1.put _ _,λk=>?_⟩
  by_cases j:k=n
  ·subst j
   refine⟨?_,λz=>?_⟩
   ·rw[has_put_same h.1 (by simp[i9,WideAt.IsKeyLit])];simp
   ·rw[atKey_put_same h.1 (by simp[i9,WideAt.IsKeyLit])];simp
  ·have B:=Il j
   refine⟨?_,λz=>?_⟩
   ·rw[has_put_other B,(h.2 k).1];simp[j]
   ·rw[atKey_put_other B,(h.2 k).2];simp[j]
def ei:List (List UInt8)->List Int->Int->Option (List UInt8)
 |c::cs,n::ns,k=>if k=n then some c else ei cs ns k
 |_,_,_=>none
theorem vM:∀(cs:List (List UInt8))(ns:List Int)(D:DataW Value)(f:Int->Option (List UInt8)),kl D f->kl (tK D cs ns) (λk=>(f k).or (ei cs ns k))
 |[],ns,D,f,h=>by
  have e:(λk=>(f k).or (ei [] ns k))=f:=(by funext k;cases f k<;>simp[ei]);rw[e];exact h
 |c::cs,[],D,f,h=>by
  have e:(λk=>(f k).or (ei (c::cs) [] k))=f:=(by funext k;cases f k<;>simp[ei]);rw[e];exact h
 |c::cs,n::ns,D,f,h=>by
  have B:=vM cs ns _ _ (vL h n c)
  have e:(λk=>(f k).or (ei (c::cs) (n::ns) k))= λk=>(if k=n then some ((f n).getD c) else f k).or (ei cs ns k):=by
   funext k
   by_cases j:k=n
   ·subst j;cases f k<;>simp[ei]
   ·simp[ei,j]
  rw[e];exact B
def pG (cs:List (List UInt8)) (ns:List Int):DataW Value:=tK (.map []) cs ns
theorem Fl (cs:List (List UInt8))(ns:List Int):kl (pG cs ns) (ei cs ns):=by
 have h:=vM cs ns _ _ ti;have e:(λk=>Option.or none (ei cs ns k))=ei cs ns:=by funext k;simp
 rw[e] at h;exact h
theorem pg:∀(cs:List (List UInt8))(lo k:Int),ei cs ((O (U cs)).map λi:Nat=>lo+(i:Int)) k=if k<lo then none else cs[(k - lo).toNat]?
 |[],lo,k=>by simp[ei]
 |c::cs,lo,k=>by
  have C:=pg cs (lo+1) k
  have e:(O (c::cs).length).map (λi:Nat=>lo+(i:Int))=lo::(O (U cs)).map λi:Nat=>lo+1+(i:Int):=by
   rw[List.length_cons,List.range_succ_eq_map,List.map_cons,List.map_map];congr 1
   ·simp
   ·apply List.map_congr_left;intro i _;show lo+((i+1:Nat):Int)=_;omega
  rw[e,ei,C]
  by_cases j:k=lo
  ·subst j;simp
  ·rw[if_neg j]
   by_cases h2:k<lo
   ·rw[if_pos (by omega),if_pos h2]
   ·rw[if_neg (by omega),if_neg h2]
    have B:(k - lo).toNat=(k - (lo+1)).toNat+1:=(by omega);rw[B,List.getElem?_cons_succ]
end Go.Proofs.YthhijgcfbjcgiaaGreatDoor
