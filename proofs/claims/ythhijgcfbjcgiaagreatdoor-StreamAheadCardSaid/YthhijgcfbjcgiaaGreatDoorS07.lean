/- PMap, Tells -/
import Derived.Test.YthhijgcfbjcgiaaGreatDoorS01
import Derived.Maps.OwnIn
import Derived.Lib.SlKeysI
import Derived.Maps.Views
namespace Go.Proofs.YthhijgcfbjcgiaaGreatDoor
open Go Go.RowKit Go.Maps
open List renaming range→zAA
def gB (v:Value):Option (DataW Value×List MemPlace):=some (.held v,[])
def i5 (k:Int):Lit:= .int .i64 k
section
variable {α:Type} {g:α→Option Value}
end
abbrev fu (c:List UInt8):Value:= .agg #[.string (bs c)]
def nL (D:DataW Value) (n:Int) (c:List UInt8):DataW Value:=if Maps.has D (i5 n) then D else D.put (i5 n) (.held (fu c))
def tk:DataW Value→List (List UInt8)→List Int→DataW Value
 |D,c::cs,n::ns=>tk (nL D n c) cs ns
 |D,_,_=>D
def j9 (D:DataW Value) (f:Int→Option (List UInt8)):Prop:=IsMap D∧∀k,Maps.has D (i5 k)=(f k).isSome∧∀z,D.atKey (i5 k) z=((f k).map fun c=>DataW.held (fu c)).getD z
theorem GX {a b:Int} (h:a≠b):i5 a≠i5 b:=fun e=>h (by unfold i5 at e;injection e)
theorem sS:j9 (.map []) (fun _=>none):=⟨isMap_empty,fun _=>⟨rfl,fun _=>rfl⟩⟩
theorem vc {D:DataW Value} {f:Int→Option (List UInt8)} (h:j9 D f) (n:Int) (c:List UInt8):j9 (nL D n c) (fun k=>if k=n then some ((f n).getD c) else f k):=by
 unfold nL
 cases hf:f n with
 |some c'=>
  have h1:Maps.has D (i5 n)=true:=by rw [(h.2 n).1,hf];rfl
  rw [if_pos h1]
  refine ⟨h.1,fun k=>?_⟩
  by_cases hk:k=n
  ·subst hk
   have:=h.2 k
   rw [hf] at this
   simpa using this
  ·simpa [hk] using h.2 k
 |none=>
  have h1:Maps.has D (i5 n)=false:=by rw [(h.2 n).1,hf];rfl
  rw [if_neg (by rw [h1];simp)]
  refine ⟨h.1.put _ _,fun k=>?_⟩
  by_cases hk:k=n
  ·subst hk
   refine ⟨?_,fun z=>?_⟩
   ·rw [has_put_same h.1 (by simp [i5,WideAt.IsKeyLit])];simp
   ·rw [atKey_put_same h.1 (by simp [i5,WideAt.IsKeyLit])];simp
  ·have hne:=GX hk
   refine ⟨?_,fun z=>?_⟩
   ·rw [has_put_other hne,(h.2 k).1];simp [hk]
   ·rw [atKey_put_other hne,(h.2 k).2];simp [hk]
def dS:List (List UInt8)→List Int→Int→Option (List UInt8)
 |c::cs,n::ns,k=>if k=n then some c else dS cs ns k
 |_,_,_=>none
theorem vd:∀(cs:List (List UInt8)) (ns:List Int) (D:DataW Value) (f:Int→Option (List UInt8)),j9 D f→j9 (tk D cs ns) (fun k=>(f k).or (dS cs ns k))
 |[],ns,D,f,h=>by
  have e:(fun k=>(f k).or (dS [] ns k))=f:=by funext k;cases f k<;>simp [dS]
  rw [e];exact h
 |c::cs,[],D,f,h=>by
  have e:(fun k=>(f k).or (dS (c::cs) [] k))=f:=by funext k;cases f k<;>simp [dS]
  rw [e];exact h
 |c::cs,n::ns,D,f,h=>by
  have ih:=vd cs ns _ _ (vc h n c)
  have e:(fun k=>(f k).or (dS (c::cs) (n::ns) k))=fun k=>(if k=n then some ((f n).getD c) else f k).or (dS cs ns k):=by
   funext k
   by_cases hk:k=n
   ·subst hk;cases f k<;>simp [dS]
   ·simp [dS,hk]
  rw [e];exact ih
def pA (cs:List (List UInt8)) (ns:List Int):DataW Value:=tk (.map []) cs ns
theorem EG (cs:List (List UInt8)) (ns:List Int):j9 (pA cs ns) (dS cs ns):=by
 have h:=vd cs ns _ _ sS
 have e:(fun k=>Option.or none (dS cs ns k))=dS cs ns:=by funext k;simp
 rw [e] at h;exact h
theorem ph:∀(cs:List (List UInt8)) (lo k:Int),dS cs ((zAA cs.length).map fun i:Nat=>lo+(i:Int)) k=if k<lo then none else cs[(k - lo).toNat]?
 |[],lo,k=>by simp [dS]
 |c::cs,lo,k=>by
  have ih:=ph cs (lo+1) k
  have e:(zAA (c::cs).length).map (fun i:Nat=>lo+(i:Int))=lo::(zAA cs.length).map fun i:Nat=>lo+1+(i:Int):=by
   rw [List.length_cons,List.range_succ_eq_map,List.map_cons,List.map_map]
   congr 1
   ·simp
   ·apply List.map_congr_left;intro i _;show lo+((i+1:Nat):Int)=_;omega
  rw [e,dS,ih]
  by_cases h1:k=lo
  ·subst h1;simp
  ·rw [if_neg h1]
   by_cases h2:k<lo
   ·rw [if_pos (by omega),if_pos h2]
   ·rw [if_neg (by omega),if_neg h2]
    have e2:(k - lo).toNat=(k - (lo+1)).toNat+1:=by omega
    rw [e2,List.getElem?_cons_succ]
end Go.Proofs.YthhijgcfbjcgiaaGreatDoor
