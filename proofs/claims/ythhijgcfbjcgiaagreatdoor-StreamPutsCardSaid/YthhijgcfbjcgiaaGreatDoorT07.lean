/- PMap, Tells -/
import Derived.Test.YthhijgcfbjcgiaaGreatDoorT01
import Derived.Maps.OwnIn
import Derived.Lib.SlKeysI
namespace Go.Proofs.YthhijgcfbjcgiaaGreatDoor
open Go Go.RowKit Go.Maps
open List renaming range→O,length→U
def gO (v:Value):Option (DataW Value×List MemPlace):=some (.held v,[])
def jf (k:Int):Lit:= .int .i64 k
section
variable {α:Type} {g:α->Option Value}
end
abbrev fu (c:List UInt8):Value:=.agg #[.string (bs c)]
def nO (D:DataW Value) (n:Int) (c:List UInt8):DataW Value:=if Maps.has D (jf n) then D else D.put (jf n) (.held (fu c))
def tf:DataW Value->List (List UInt8)->List Int->DataW Value
 |D,c::cs,n::ns=>tf (nO D n c) cs ns
 |D,_,_=>D
def kp (D:DataW Value) (f:Int->Option (List UInt8)):Prop:=IsMap D/\∀k,Maps.has D (jf k)=(f k).isSome/\∀z,D.atKey (jf k) z=((f k).map λc=>DataW.held (fu c)).getD z
theorem Hh {a b:Int}(h:a≠b):jf a≠jf b:= λe=>h (by unfold jf at e;injection e)
theorem sL:kp (.map []) (λ_=>none):=⟨isMap_empty,λ_=>⟨rfl,λ_=>rfl⟩⟩
theorem vb {D:DataW Value}{f:Int->Option (List UInt8)}(h:kp D f)(n:Int)(c:List UInt8):kp (nO D n c) (λk=>if k=n then some ((f n).getD c) else f k):=by
 unfold nO
 cases G:f n with
 |some c'=>
  have C:Maps.has D (jf n)=true:=(by rw[(h.2 n).1,G];rfl);rw[if_pos C];refine⟨h.1,λk=>?_⟩
  by_cases j:k=n
  ·subst j
   have:=h.2 k;rw[G] at this
   simpa using this
  ·simpa [j] using h.2 k
 |none=>
  have C:Maps.has D (jf n)=false:=(by rw[(h.2 n).1,G];rfl);rw[if_neg (by rw[C];simp)];refine⟨h.1.put _ _,λk=>?_⟩
  by_cases j:k=n
  ·subst j
   refine⟨?_,λz=>?_⟩
   ·rw[has_put_same h.1 (by simp[jf,WideAt.IsKeyLit])];simp
   ·rw[atKey_put_same h.1 (by simp[jf,WideAt.IsKeyLit])];simp
  ·have B:=Hh j
   refine⟨?_,λz=>?_⟩
   ·rw[has_put_other B,(h.2 k).1];simp[j]
   ·rw[atKey_put_other B,(h.2 k).2];simp[j]
def cK:List (List UInt8)->List Int->Int->Option (List UInt8)
 |c::cs,n::ns,k=>if k=n then some c else cK cs ns k
 |_,_,_=>none
theorem vc:∀(cs:List (List UInt8))(ns:List Int)(D:DataW Value)(f:Int->Option (List UInt8)),kp D f->kp (tf D cs ns) (λk=>(f k).or (cK cs ns k))
 |[],ns,D,f,h=>by
  have e:(λk=>(f k).or (cK [] ns k))=f:=(by funext k;cases f k<;>simp[cK]);rw[e];exact h
 |c::cs,[],D,f,h=>by
  have e:(λk=>(f k).or (cK (c::cs) [] k))=f:=(by funext k;cases f k<;>simp[cK]);rw[e];exact h
 |c::cs,n::ns,D,f,h=>by
  have B:=vc cs ns _ _ (vb h n c)
  have e:(λk=>(f k).or (cK (c::cs) (n::ns) k))= λk=>(if k=n then some ((f n).getD c) else f k).or (cK cs ns k):=by
   funext k
   by_cases j:k=n
   ·subst j;cases f k<;>simp[cK]
   ·simp[cK,j]
  rw[e];exact B
def pu (cs:List (List UInt8)) (ns:List Int):DataW Value:=tf (.map []) cs ns
theorem E4 (cs:List (List UInt8))(ns:List Int):kp (pu cs ns) (cK cs ns):=by
 have h:=vc cs ns _ _ sL;have e:(λk=>Option.or none (cK cs ns k))=cK cs ns:=by funext k;simp
 rw[e] at h;exact h
theorem o8:∀(cs:List (List UInt8))(lo k:Int),cK cs ((O (U cs)).map λi:Nat=>lo+(i:Int)) k=if k<lo then none else cs[(k - lo).toNat]?
 |[],lo,k=>by simp[cK]
 |c::cs,lo,k=>by
  have C:=o8 cs (lo+1) k
  have e:(O (c::cs).length).map (λi:Nat=>lo+(i:Int))=lo::(O (U cs)).map λi:Nat=>lo+1+(i:Int):=by
   rw[List.length_cons,List.range_succ_eq_map,List.map_cons,List.map_map];congr 1
   ·simp
   ·apply List.map_congr_left;intro i _;show lo+((i+1:Nat):Int)=_;omega
  rw[e,cK,C]
  by_cases j:k=lo
  ·subst j;simp
  ·rw[if_neg j]
   by_cases h2:k<lo
   ·rw[if_pos (by omega),if_pos h2]
   ·rw[if_neg (by omega),if_neg h2]
    have B:(k - lo).toNat=(k - (lo+1)).toNat+1:=(by omega);rw[B,List.getElem?_cons_succ]
end Go.Proofs.YthhijgcfbjcgiaaGreatDoor
