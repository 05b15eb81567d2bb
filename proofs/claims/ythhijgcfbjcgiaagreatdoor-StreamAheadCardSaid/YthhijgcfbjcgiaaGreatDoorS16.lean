/- PfxT, Apps, Vec, PatC -/
import Derived.Test.YthhijgcfbjcgiaaGreatDoorS15
import Derived.Test.YthhijgcfbjcgiaaGreatDoorS13
import Derived.Test.YthhijgcfbjcgiaaGreatDoorS02
import Derived.Test.YthhijgcfbjcgiaaGreatDoorS10
import Derived.Test.YthhijgcfbjcgiaaGreatDoorS14
namespace Go.Proofs.YthhijgcfbjcgiaaGreatDoor
open Go Go.RowKit Go.Maps
theorem aK {a:ByteArray} {l:List UInt8} (h:a=bs l):Ending.returned (.string a)= .returned (.string (bs l)):=by rw [h]
structure lC (cs:List (List UInt8)) (ns:List Int):Prop where
 ok:oV 24 (fw cs ns) 0 (cs.zip ns)=true
 wf:Bn (fw cs ns)=true
 put:(fF [bT] cs ns).isSome=true
 code:cs.all dr=true
 len:ns.length=cs.length
 pos:1≤cs.length
 le:cs.length≤300
 num:ns.all (fun k=>(Lit.int .i64 k).wf)=true
 has:0<(fw cs ns).length
theorem oh:lC aA aM:=⟨GZ,G0,Fu,kA,by kernel_rfl,by decide,by decide,by kernel_rfl,of_decide_eq_true (by kernel_rfl)⟩
theorem vr:lC aj aq:=⟨Jl,Jm,Iu,Go.Proofs.YthhijgcfbjcgiaaGreatDoor.vec_code,by kernel_rfl,by decide,by decide,by kernel_rfl,of_decide_eq_true (by kernel_rfl)⟩
theorem pH:lC bH cf:=⟨Jd,Je,Hw,oy,by kernel_rfl,by decide,by decide,by kernel_rfl,of_decide_eq_true (by kernel_rfl)⟩
def rf (cs:List (List UInt8)) (ns:List Int) (w:World) (e:Ending) (w':World):Prop:=∃base T,e= .returned (.pointer (some ⟨T,0,none⟩))∧ej w' base T (fw cs ns) (pA cs ns) cs.length∧Below w.heap.size w w'
theorem pw {cs:List (List UInt8)} {ns:List Int} (h:lC cs ns) (A B:Option Addr) (c d:Nat) (w:World) (hA:Sl w A (cs.map bE)) (hB:Sl w B (ns.map aY)):Calls Tryz.prog 201 #[.slice A cs.length c,.slice B cs.length d] w (Db cs ns w):=
 zu A B cs.length c d cs ns w hA hB rfl h.len h.pos h.le h.code h.put h.num
theorem rp {cs:List (List UInt8)} {ns:List Int} (h:lC cs ns) (w:World) (base T:Nat) (hT:ej w base T (fw cs ns) (pA cs ns) cs.length) (A:Option Addr) (n c:Nat) (l:List UInt8) (i:Int) (hA:Sl w A (l.map af)) (hn:l.length=n) (hsz:n≤2 ^ 47) (hi: -9223372036854775808≤i∧i≤9223372036854775807):
  Calls Tryz.prog 275 #[.pointer (some ⟨T,0,none⟩),.slice A n c,.int .i64 i] w fun e w'=>e= .returned (.tuple #[.int .i64 (ac cs ns l i).1,.int .i64 (ac cs ns l i).2.1,.int .i64 (ac cs ns l i).2.2])∧Below w.heap.size w w':=by
 have hr:(if i<0 then ((0,0,3):Int×Int×Int) else fI (fw cs ns) 0 (aC l i.toNat (8*n - i.toNat)) 0)=ac cs ns l i:=by
  by_cases h1:i<0
  ·unfold ac;rw [if_pos h1,if_pos h1]
  ·obtain ⟨k,rfl⟩:=Int.eq_ofNat_of_zero_le (by omega:0≤i)
   rw [if_neg h1,←hn,Int.toNat_natCast]
   exact EM _ _ _ h.ok h.len.symm l k
 have:=Cm w base T _ _ _ hT (by have:=h.pos;omega) h.wf h.has A n c l i hA hn hsz hi
 rw [hr] at this
 exact this
theorem xS {cs:List (List UInt8)} {ns:List Int} (h:lC cs ns) (w:World) (base T:Nat) (hT:ej w base T (fw cs ns) (pA cs ns) cs.length) (num:Int) (hnum:(Lit.int .i64 num).wf=true):
  Calls Tryz.prog 158 #[.pointer (some ⟨T,0,none⟩),.int .i64 num] w fun e w'=>e= .returned (.tuple #[.string (bs ((dS cs ns num).getD [])),.int .i64 (if (dS cs ns num).isSome then 0 else 18)])∧Below w.heap.size w w':=
 Cn w base T _ _ _ _ hT (by have:=h.pos;omega) (EG cs ns) num hnum
def nl (w:World) (cs:List (List UInt8)) (ns:List Int) (v1 v2:Value) (W:World):Prop:=ay w [] [⟨w.heap.size,9,1,v1,cs.length,cs.map bE⟩,⟨w.heap.size,3,1,v2,ns.length,ns.map aY⟩] W
theorem EJ (w:World):nl w [] [] (.slice none 0 0) (.slice none 0 0) w:=iR (iR (nY w) _ _ _) _ _ _
theorem mS (c:List UInt8):∀u∈[bE c],u.oneCell'=true:=by intro u hu;simp at hu;subst hu;rfl
theorem ob (k:Int):∀u∈[aY k],u.oneCell'=true:=by intro u hu;simp at hu;subst hu;rfl
theorem Bj {w W:World} {cs:List (List UInt8)} {ns:List Int} {v1 v2:Value} (h:nl w cs ns v1 v2 W) (h1:0<cs.length) (h2:ns.length=cs.length):∃A B c d,v1= .slice A cs.length c∧v2= .slice B cs.length d∧Sl W A (cs.map bE)∧Sl W B (ns.map aY)∧Below w.heap.size w W:=by
 obtain ⟨g1,c1,e1,_⟩:=lH h.2.2.head h1
 obtain ⟨g2,c2,e2,_⟩:=lH h.2.2.tail.head (show 0<ns.length by omega)
 dsimp only at e1 e2
 subst e1 e2
 exact ⟨_,_,_,_,rfl,by rw [h2],jc h.2.2.head,jc h.2.2.tail.head,h.1⟩
end Go.Proofs.YthhijgcfbjcgiaaGreatDoor
namespace Go.Proofs.YthhijgcfbjcgiaaGreatDoor
open Go Go.RowKit
open Go.Lib renaming hid→zAA
open Nat renaming le_refl→zAB
open Int renaming eq_ofNat_of_zero_le→zAC,toNat_natCast→zAD
open List renaming length_take→zAE,map_append→zAF,map_cons→zAG,map_nil→zAH
theorem pj {w W W':World} {L:List aI} {R:List a9} {base e size n m:Nat} {v v':Value} {xs ys:List Value} (hc:ay w L (⟨base,e,size,v,n,xs⟩::R) W) (hg:W.grownBy W' v.ownBlock) (ho:W'.ownsRow base e size v' m ys)
  (hb:w.heap.size≤base) (hL:∀p∈L,p.2.1≠e∨p.1<base) (hR:∀r∈R,r.e≠e):ay w L (⟨base,e,size,v',m,ys⟩::R) W'∧∀g t cs,ab W g t cs→t≠e→ab W' g t cs:=
 ⟨nX hc hg ho hb hL hR,fun _ _ _ h ht=>h.grown hg (bg hc.2.2.head h (Ne.symm ht))⟩
section
variable {P:Program} {t e size bytes:Nat} {w W:World} {L:List aI} {R:List a9} {base n:Nat} {m:Nat} {v:Value} {xs news:List Value} {nb c:Nat}
theorem jg (et:eG P t e size bytes) {dsts:List (Option Tmp)} {E:Act→World→Prop} {S:World→Prop} {r:eP} {tmps:Array Value} {defers:List Deferred} {o:Oper} {d:Nat} {s x:Operand} (hd:o.dst=some d) (hw:bw o dsts tmps=true)
  (ho:o.op= .call {callee:= .builtin .append,args:= #[s,x],argTypes:= #[t,t]}) (hs:Act.eval ⟨tmps,defers⟩ s=v) (hc:ay w L (⟨base,e,size,v,n,xs⟩::R) W) (hx:Act.eval ⟨tmps,defers⟩ x= .slice (some ⟨nb,0,none⟩) m c) (hnb:ab W nb e news.toArray)
  (hl:news.length=m*size) (h1:∀u∈news,u.oneCell'=true) (hb:(n+m)*bytes≤140737488355328) (hbase:w.heap.size≤base∧base≤W.heap.size) (hL:∀p∈L,p.2.1≠e∨p.1<base) (hR:∀r∈R,r.e≠e)
  (h:∀v' W',ay w L (⟨base,e,size,v',n+m,xs++news⟩::R) W'→(∀g t cs,ab W g t cs→t≠e→ab W' g t cs)→(∀B,KeepsFrom B W W')→S W'∧co P dsts E r S ⟨tmps.setIfInBounds d v',defers⟩ W'):
  j8 P dsts o (fun a' w'=>∃S':World→Prop,(∀w,S' w→S w)∧S' w'∧co P dsts E r S' a' w') ⟨tmps,defers⟩ W:=by
 obtain ⟨v',w',hrun,h2,h3,h4⟩:=lI et o.type (c:=c) hc.2.2.head hl (by have:=ab.sl hnb 0;simpa using this) h1 hb hbase.2
 obtain ⟨h5,h6⟩:=pj hc h3 h2 hbase.1 hL hR
 obtain ⟨h7,h8⟩:=h v' w' h5 h6 (fun B=>ie (KeepsFrom.refl B W) h3 (gw hc.2.2.head))
 refine aw (v:=v') (w':=w') hd hw ?_ h7 h8
 unfold execOp
 simp only [ho,resolve,invoke,builtin,Sem.run_bind,Sem.run_pure,Result.andThen_ok,List.map_toArray,zAG,zAH,hs,hx,hrun]
theorem gW (et:eG P t e size bytes) {ops:Array Oper} {Q:Exit→Act→World→Prop} {rest:List Oper} {o:Oper} {a:Act} (hgd:o.guard=none) {s x:Operand}
  (ho:o.op= .call {callee:= .builtin .append,args:= #[s,x],argTypes:= #[t,t]}) (hs:a.eval s=v) (hc:ay w L (⟨base,e,size,v,n,xs⟩::R) W) (hx:a.eval x= .slice (some ⟨nb,0,none⟩) m c) (hnb:ab W nb e news.toArray)
  (hl:news.length=m*size) (h1:∀u∈news,u.oneCell'=true) (hb:(n+m)*bytes≤140737488355328) (hbase:w.heap.size≤base∧base≤W.heap.size) (hL:∀p∈L,p.2.1≠e∨p.1<base) (hR:∀r∈R,r.e≠e)
  (h:∀v' W',ay w L (⟨base,e,size,v',n+m,xs++news⟩::R) W'→(∀g t cs,ab W g t cs→t≠e→ab W' g t cs)→(∀B,KeepsFrom B W W')→wpList P ops Q rest (a.put o.dst v') W'):wpList P ops Q (o::rest) a W:=by
 refine dK et hgd ho hs hc.2.2.head hx hl (by have:=ab.sl hnb 0;simpa using this) h1 hb hbase.2 (fun v' W' h2 h3 _=>?_)
 obtain ⟨h5,h6⟩:=pj hc h3 h2 hbase.1 hL hR
 exact h v' W' h5 h6 (fun B=>ie (KeepsFrom.refl B W) h3 (gw hc.2.2.head))
end
theorem iB {w W:World} {p q:aI} {L:List aI} {R:List a9} (hc:ay w (p::q::L) R W):ay w (q::p::L) R W:=
 ⟨hc.1,fun r hr=>hc.2.1 r (by simp at hr⊢;rcases hr with h|h|h;exact .inr (.inl h);exact .inl h;exact .inr (.inr h)),hc.2.2⟩
theorem di {B:Nat} {A W W':World} (h:KeepsFrom B A W) (k:KeepsFrom B W W'):KeepsFrom B A W':=h.trans k
def mT (h:Nat) (v1 v2:Value):List aI:=[(h,138,#[v1]),(h+1,61,#[v2])]
def mU (h:Nat) (cs:List (List UInt8)) (ns:List Int) (j:Nat) (v1 v2:Value):List a9:=[⟨h,9,1,v1,j,(cs.take j).map bE⟩,⟨h,3,1,v2,j,(ns.take j).map aY⟩]
def Bi (v:Value):Prop:=∃A n c,v= .slice A n c
theorem oM {w W W9:World} {cs:List (List UInt8)} {ns:List Int} {j n1 n2 c1 c2:Nat} {c:List UInt8} {k:Int} {A1 A2:Option Addr} {o1 o2:Value} {R:List a9}
  (hc:ay w [(w.heap.size,138,#[o1]),(w.heap.size+1,61,#[o2])] (⟨w.heap.size,3,1,.slice A2 n2 c2,j+1,(ns.take j).map aY++[aY k]⟩::⟨w.heap.size,9,1,.slice A1 n1 c1,j+1,(cs.take j).map bE++[bE c]⟩::R) W9) (hk:∀B,KeepsFrom B W W9) (B:Nat)
  (h1:cs.take (j+1)=cs.take j++[c]) (h2:ns.take (j+1)=ns.take j++[k]) (hR:R=[]):
  KeepsFrom B W ((W9.setCell ⟨w.heap.size,0,none⟩ (.slice A1 n1 c1)).setCell ⟨w.heap.size+1,0,none⟩ (.slice A2 n2 c2))∧
  ay w (mT w.heap.size (.slice A1 n1 c1) (.slice A2 n2 c2)) (mU w.heap.size cs ns (j+1) (.slice A1 n1 c1) (.slice A2 n2 c2)) ((W9.setCell ⟨w.heap.size,0,none⟩ (.slice A1 n1 c1)).setCell ⟨w.heap.size+1,0,none⟩ (.slice A2 n2 c2)):=by
 subst hR
 refine ⟨ak (ak (hk B) _ _) _ _,?_⟩
 unfold mT mU
 rw [h1,h2,zAF,zAF]
 exact eV (iB (iY (iB (iY hc (zAB _) 0 (.slice A1 n1 c1) (by simp) (by simp))) (Nat.le_succ _) 0 (.slice A2 n2 c2) (by simp) (by simp)))
theorem Gp {w W:World} {L:List aI} {b1 b2:Nat} {cs:List (List UInt8)} {ns:List Int} {v1 v2:Value} (h:ay w L [⟨b1,9,1,v1,cs.length,cs.map bE⟩,⟨b2,3,1,v2,cs.length,ns.map aY⟩] W) (h1:0<cs.length):∃A B c d,v1= .slice A cs.length c∧v2= .slice B cs.length d∧Sl W A (cs.map bE)∧Sl W B (ns.map aY)∧Below w.heap.size w W:=by
 obtain ⟨g1,c1,e1,_⟩:=lH h.2.2.head h1
 obtain ⟨g2,c2,e2,_⟩:=lH h.2.2.tail.head h1
 dsimp only at e1 e2
 subst e1 e2
 exact ⟨_,_,_,_,rfl,rfl,jc h.2.2.head,jc h.2.2.tail.head,h.1⟩
set_option maxRecDepth 100000 in
theorem vg (w:World):Calls Tryz.prog 241 #[.int .i64 1] w fun e w'=>e= .returned (.string (bs [48,49]))∧w=w':=by
 go_enter Tryz.func241,Tryz.ntmps241
 go_wp2
 go_ret
 exact ⟨aK (by kernel_rfl),rfl⟩
set_option maxRecDepth 100000 in
theorem vh (w:World):Calls Tryz.prog 241 #[.int .i64 2] w fun e w'=>e= .returned (.string (bs [48,48,49]))∧w=w':=by
 go_enter Tryz.func241,Tryz.ntmps241
 go_wp2
 go_ret
 exact ⟨aK (by kernel_rfl),rfl⟩
set_option maxRecDepth 100000 in
theorem vj (w:World):Calls Tryz.prog 241 #[.int .i64 3] w fun e w'=>e= .returned (.string (bs [48,48,48,49]))∧w=w':=by
 go_enter Tryz.func241,Tryz.ntmps241
 go_wp2
 go_ret
 exact ⟨aK (by kernel_rfl),rfl⟩
set_option maxRecDepth 100000 in
theorem vk (w:World):Calls Tryz.prog 241 #[.int .i64 4] w fun e w'=>e= .returned (.string (bs [48,48,48,48,49,49]))∧w=w':=by
 go_enter Tryz.func241,Tryz.ntmps241
 go_wp2
 go_ret
 exact ⟨aK (by kernel_rfl),rfl⟩
set_option maxRecDepth 100000 in
theorem vl (w:World):Calls Tryz.prog 241 #[.int .i64 5] w fun e w'=>e= .returned (.string (bs [48,48,48,48,49,48,49]))∧w=w':=by
 have ix:∀W:World,(Instr.index 289 (.agg #[.string ⟨#[49,48,49]⟩,.string ⟨#[49,48,48]⟩,.string ⟨#[48,49,49]⟩]) (.int .i64 0)).run Tryz.prog W= .ok (.string ⟨#[49,48,49]⟩) W:=fun _=>by kernel_rfl
 go_enter Tryz.func241,Tryz.ntmps241
 go_wp2
 go_ret
 exact ⟨aK (by kernel_rfl),rfl⟩
set_option maxRecDepth 100000 in
theorem vm (w:World):Calls Tryz.prog 241 #[.int .i64 6] w fun e w'=>e= .returned (.string (bs [48,48,48,48,49,48,48]))∧w=w':=by
 have ix:∀W:World,(Instr.index 289 (.agg #[.string ⟨#[49,48,49]⟩,.string ⟨#[49,48,48]⟩,.string ⟨#[48,49,49]⟩]) (.int .i64 1)).run Tryz.prog W= .ok (.string ⟨#[49,48,48]⟩) W:=fun _=>by kernel_rfl
 go_enter Tryz.func241,Tryz.ntmps241
 go_wp2
 go_ret
 exact ⟨aK (by kernel_rfl),rfl⟩
set_option maxRecDepth 100000 in
theorem vo (w:World):Calls Tryz.prog 241 #[.int .i64 7] w fun e w'=>e= .returned (.string (bs [48,48,48,48,48,49,49]))∧w=w':=by
 have ix:∀W:World,(Instr.index 289 (.agg #[.string ⟨#[49,48,49]⟩,.string ⟨#[49,48,48]⟩,.string ⟨#[48,49,49]⟩]) (.int .i64 2)).run Tryz.prog W= .ok (.string ⟨#[48,49,49]⟩) W:=fun _=>by kernel_rfl
 go_enter Tryz.func241,Tryz.ntmps241
 go_wp2
 go_ret
 exact ⟨aK (by kernel_rfl),rfl⟩
set_option maxRecDepth 100000 in
theorem vp (w:World):Calls Tryz.prog 241 #[.int .i64 8] w fun e w'=>e= .returned (.string (bs [48,48,48,48,48,49,48,49,49]))∧w=w':=by
 have ix:∀W:World,(Instr.index 289 (.agg #[.string ⟨#[49,48,49,49]⟩,.string ⟨#[49,48,49,48]⟩,.string ⟨#[49,48,48,49]⟩]) (.int .i64 0)).run Tryz.prog W= .ok (.string ⟨#[49,48,49,49]⟩) W:=fun _=>by kernel_rfl
 go_enter Tryz.func241,Tryz.ntmps241
 go_wp2
 go_ret
 exact ⟨aK (by kernel_rfl),rfl⟩
set_option maxRecDepth 100000 in
theorem vq (w:World):Calls Tryz.prog 241 #[.int .i64 9] w fun e w'=>e= .returned (.string (bs [48,48,48,48,48,49,48,49,48]))∧w=w':=by
 have ix:∀W:World,(Instr.index 289 (.agg #[.string ⟨#[49,48,49,49]⟩,.string ⟨#[49,48,49,48]⟩,.string ⟨#[49,48,48,49]⟩]) (.int .i64 1)).run Tryz.prog W= .ok (.string ⟨#[49,48,49,48]⟩) W:=fun _=>by kernel_rfl
 go_enter Tryz.func241,Tryz.ntmps241
 go_wp2
 go_ret
 exact ⟨aK (by kernel_rfl),rfl⟩
set_option maxRecDepth 100000 in
theorem sU (w:World):Calls Tryz.prog 241 #[.int .i64 10] w fun e w'=>e= .returned (.string (bs [48,48,48,48,48,49,48,48,49]))∧w=w':=by
 have ix:∀W:World,(Instr.index 289 (.agg #[.string ⟨#[49,48,49,49]⟩,.string ⟨#[49,48,49,48]⟩,.string ⟨#[49,48,48,49]⟩]) (.int .i64 2)).run Tryz.prog W= .ok (.string ⟨#[49,48,48,49]⟩) W:=fun _=>by kernel_rfl
 go_enter Tryz.func241,Tryz.ntmps241
 go_wp2
 go_ret
 exact ⟨aK (by kernel_rfl),rfl⟩
set_option maxRecDepth 100000 in
theorem sV (w:World):Calls Tryz.prog 241 #[.int .i64 11] w fun e w'=>e= .returned (.string (bs [48,48,48,48,48,49,48,48,48,49]))∧w=w':=by
 have ix:∀W:World,(Instr.index 291 (.agg #[.string ⟨#[48,49]⟩,.string ⟨#[48,48]⟩]) (.int .i64 0)).run Tryz.prog W= .ok (.string ⟨#[48,49]⟩) W:=fun _=>by kernel_rfl
 go_enter Tryz.func241,Tryz.ntmps241
 go_wp2
 go_ret
 exact ⟨aK (by kernel_rfl),rfl⟩
set_option maxRecDepth 100000 in
theorem sW (w:World):Calls Tryz.prog 241 #[.int .i64 12] w fun e w'=>e= .returned (.string (bs [48,48,48,48,48,49,48,48,48,48]))∧w=w':=by
 have ix:∀W:World,(Instr.index 291 (.agg #[.string ⟨#[48,49]⟩,.string ⟨#[48,48]⟩]) (.int .i64 1)).run Tryz.prog W= .ok (.string ⟨#[48,48]⟩) W:=fun _=>by kernel_rfl
 go_enter Tryz.func241,Tryz.ntmps241
 go_wp2
 go_ret
 exact ⟨aK (by kernel_rfl),rfl⟩
set_option maxRecDepth 100000 in
theorem sX (w:World):Calls Tryz.prog 241 #[.int .i64 13] w fun e w'=>e= .returned (.string (bs [48,48,48,48,48,48,49,49,49,49]))∧w=w':=by
 have ix:∀W:World,(Instr.index 290 (.agg #[.string ⟨#[49,49,49]⟩,.string ⟨#[49,49,48]⟩,.string ⟨#[49,48,49]⟩,.string ⟨#[49,48,48]⟩]) (.int .i64 0)).run Tryz.prog W= .ok (.string ⟨#[49,49,49]⟩) W:=fun _=>by kernel_rfl
 go_enter Tryz.func241,Tryz.ntmps241
 go_wp2
 go_ret
 exact ⟨aK (by kernel_rfl),rfl⟩
set_option maxRecDepth 100000 in
theorem sY (w:World):Calls Tryz.prog 241 #[.int .i64 14] w fun e w'=>e= .returned (.string (bs [48,48,48,48,48,48,49,49,49,48]))∧w=w':=by
 have ix:∀W:World,(Instr.index 290 (.agg #[.string ⟨#[49,49,49]⟩,.string ⟨#[49,49,48]⟩,.string ⟨#[49,48,49]⟩,.string ⟨#[49,48,48]⟩]) (.int .i64 1)).run Tryz.prog W= .ok (.string ⟨#[49,49,48]⟩) W:=fun _=>by kernel_rfl
 go_enter Tryz.func241,Tryz.ntmps241
 go_wp2
 go_ret
 exact ⟨aK (by kernel_rfl),rfl⟩
set_option maxRecDepth 100000 in
theorem sZ (w:World):Calls Tryz.prog 241 #[.int .i64 15] w fun e w'=>e= .returned (.string (bs [48,48,48,48,48,48,49,49,48,49]))∧w=w':=by
 have ix:∀W:World,(Instr.index 290 (.agg #[.string ⟨#[49,49,49]⟩,.string ⟨#[49,49,48]⟩,.string ⟨#[49,48,49]⟩,.string ⟨#[49,48,48]⟩]) (.int .i64 2)).run Tryz.prog W= .ok (.string ⟨#[49,48,49]⟩) W:=fun _=>by kernel_rfl
 go_enter Tryz.func241,Tryz.ntmps241
 go_wp2
 go_ret
 exact ⟨aK (by kernel_rfl),rfl⟩
set_option maxRecDepth 100000 in
theorem CV (w:World):Calls Tryz.prog 241 #[.int .i64 16] w fun e w'=>e= .returned (.string (bs [48,48,48,48,48,48,49,49,48,48]))∧w=w':=by
 have ix:∀W:World,(Instr.index 290 (.agg #[.string ⟨#[49,49,49]⟩,.string ⟨#[49,49,48]⟩,.string ⟨#[49,48,49]⟩,.string ⟨#[49,48,48]⟩]) (.int .i64 3)).run Tryz.prog W= .ok (.string ⟨#[49,48,48]⟩) W:=fun _=>by kernel_rfl
 go_enter Tryz.func241,Tryz.ntmps241
 go_wp2
 go_ret
 exact ⟨aK (by kernel_rfl),rfl⟩
theorem yz (w:World):Calls Tryz.prog 205 #[.int .i64 (-16)] w fun e w'=>e= .returned (.string (bs [48,48,48,48,48,48,49,49,48,48,49]))∧w=w':=by
 go_enter Tryz.func205,Tryz.ntmps205
 go_wp2_with (go_at_call 241;refine (CV _).mono ?_;rintro e w' ⟨rfl,rfl⟩)
 go_ret
 exact ⟨aK (by kernel_rfl),rfl⟩
theorem yy (w:World):Calls Tryz.prog 205 #[.int .i64 (-15)] w fun e w'=>e= .returned (.string (bs [48,48,48,48,48,48,49,49,48,49,49]))∧w=w':=by
 go_enter Tryz.func205,Tryz.ntmps205
 go_wp2_with (go_at_call 241;refine (sZ _).mono ?_;rintro e w' ⟨rfl,rfl⟩)
 go_ret
 exact ⟨aK (by kernel_rfl),rfl⟩
theorem yx (w:World):Calls Tryz.prog 205 #[.int .i64 (-14)] w fun e w'=>e= .returned (.string (bs [48,48,48,48,48,48,49,49,49,48,49]))∧w=w':=by
 go_enter Tryz.func205,Tryz.ntmps205
 go_wp2_with (go_at_call 241;refine (sY _).mono ?_;rintro e w' ⟨rfl,rfl⟩)
 go_ret
 exact ⟨aK (by kernel_rfl),rfl⟩
theorem yw (w:World):Calls Tryz.prog 205 #[.int .i64 (-13)] w fun e w'=>e= .returned (.string (bs [48,48,48,48,48,48,49,49,49,49,49]))∧w=w':=by
 go_enter Tryz.func205,Tryz.ntmps205
 go_wp2_with (go_at_call 241;refine (sX _).mono ?_;rintro e w' ⟨rfl,rfl⟩)
 go_ret
 exact ⟨aK (by kernel_rfl),rfl⟩
theorem yv (w:World):Calls Tryz.prog 205 #[.int .i64 (-12)] w fun e w'=>e= .returned (.string (bs [48,48,48,48,48,49,48,48,48,48,49]))∧w=w':=by
 go_enter Tryz.func205,Tryz.ntmps205
 go_wp2_with (go_at_call 241;refine (sW _).mono ?_;rintro e w' ⟨rfl,rfl⟩)
 go_ret
 exact ⟨aK (by kernel_rfl),rfl⟩
theorem yu (w:World):Calls Tryz.prog 205 #[.int .i64 (-11)] w fun e w'=>e= .returned (.string (bs [48,48,48,48,48,49,48,48,48,49,49]))∧w=w':=by
 go_enter Tryz.func205,Tryz.ntmps205
 go_wp2_with (go_at_call 241;refine (sV _).mono ?_;rintro e w' ⟨rfl,rfl⟩)
 go_ret
 exact ⟨aK (by kernel_rfl),rfl⟩
theorem yt (w:World):Calls Tryz.prog 205 #[.int .i64 (-10)] w fun e w'=>e= .returned (.string (bs [48,48,48,48,48,49,48,48,49,49]))∧w=w':=by
 go_enter Tryz.func205,Tryz.ntmps205
 go_wp2_with (go_at_call 241;refine (sU _).mono ?_;rintro e w' ⟨rfl,rfl⟩)
 go_ret
 exact ⟨aK (by kernel_rfl),rfl⟩
theorem zO (w:World):Calls Tryz.prog 205 #[.int .i64 (-9)] w fun e w'=>e= .returned (.string (bs [48,48,48,48,48,49,48,49,48,49]))∧w=w':=by
 go_enter Tryz.func205,Tryz.ntmps205
 go_wp2_with (go_at_call 241;refine (vq _).mono ?_;rintro e w' ⟨rfl,rfl⟩)
 go_ret
 exact ⟨aK (by kernel_rfl),rfl⟩
theorem zN (w:World):Calls Tryz.prog 205 #[.int .i64 (-8)] w fun e w'=>e= .returned (.string (bs [48,48,48,48,48,49,48,49,49,49]))∧w=w':=by
 go_enter Tryz.func205,Tryz.ntmps205
 go_wp2_with (go_at_call 241;refine (vp _).mono ?_;rintro e w' ⟨rfl,rfl⟩)
 go_ret
 exact ⟨aK (by kernel_rfl),rfl⟩
theorem zM (w:World):Calls Tryz.prog 205 #[.int .i64 (-7)] w fun e w'=>e= .returned (.string (bs [48,48,48,48,48,49,49,49]))∧w=w':=by
 go_enter Tryz.func205,Tryz.ntmps205
 go_wp2_with (go_at_call 241;refine (vo _).mono ?_;rintro e w' ⟨rfl,rfl⟩)
 go_ret
 exact ⟨aK (by kernel_rfl),rfl⟩
theorem zL (w:World):Calls Tryz.prog 205 #[.int .i64 (-6)] w fun e w'=>e= .returned (.string (bs [48,48,48,48,49,48,48,49]))∧w=w':=by
 go_enter Tryz.func205,Tryz.ntmps205
 go_wp2_with (go_at_call 241;refine (vm _).mono ?_;rintro e w' ⟨rfl,rfl⟩)
 go_ret
 exact ⟨aK (by kernel_rfl),rfl⟩
theorem zK (w:World):Calls Tryz.prog 205 #[.int .i64 (-5)] w fun e w'=>e= .returned (.string (bs [48,48,48,48,49,48,49,49]))∧w=w':=by
 go_enter Tryz.func205,Tryz.ntmps205
 go_wp2_with (go_at_call 241;refine (vl _).mono ?_;rintro e w' ⟨rfl,rfl⟩)
 go_ret
 exact ⟨aK (by kernel_rfl),rfl⟩
theorem zJ (w:World):Calls Tryz.prog 205 #[.int .i64 (-4)] w fun e w'=>e= .returned (.string (bs [48,48,48,48,49,49,49]))∧w=w':=by
 go_enter Tryz.func205,Tryz.ntmps205
 go_wp2_with (go_at_call 241;refine (vk _).mono ?_;rintro e w' ⟨rfl,rfl⟩)
 go_ret
 exact ⟨aK (by kernel_rfl),rfl⟩
theorem zI (w:World):Calls Tryz.prog 205 #[.int .i64 (-3)] w fun e w'=>e= .returned (.string (bs [48,48,48,49,49]))∧w=w':=by
 go_enter Tryz.func205,Tryz.ntmps205
 go_wp2_with (go_at_call 241;refine (vj _).mono ?_;rintro e w' ⟨rfl,rfl⟩)
 go_ret
 exact ⟨aK (by kernel_rfl),rfl⟩
theorem zH (w:World):Calls Tryz.prog 205 #[.int .i64 (-2)] w fun e w'=>e= .returned (.string (bs [48,48,49,49]))∧w=w':=by
 go_enter Tryz.func205,Tryz.ntmps205
 go_wp2_with (go_at_call 241;refine (vh _).mono ?_;rintro e w' ⟨rfl,rfl⟩)
 go_ret
 exact ⟨aK (by kernel_rfl),rfl⟩
theorem zG (w:World):Calls Tryz.prog 205 #[.int .i64 (-1)] w fun e w'=>e= .returned (.string (bs [48,49,49]))∧w=w':=by
 go_enter Tryz.func205,Tryz.ntmps205
 go_wp2_with (go_at_call 241;refine (vg _).mono ?_;rintro e w' ⟨rfl,rfl⟩)
 go_ret
 exact ⟨aK (by kernel_rfl),rfl⟩
theorem zP (w:World):Calls Tryz.prog 205 #[.int .i64 0] w fun e w'=>e= .returned (.string (bs [49]))∧w=w':=by
 go_enter Tryz.func205,Tryz.ntmps205
 go_wp2_with fail
 go_ret
 exact ⟨aK (by kernel_rfl),rfl⟩
theorem zQ (w:World):Calls Tryz.prog 205 #[.int .i64 1] w fun e w'=>e= .returned (.string (bs [48,49,48]))∧w=w':=by
 go_enter Tryz.func205,Tryz.ntmps205
 go_wp2_with (go_at_call 241;refine (vg _).mono ?_;rintro e w' ⟨rfl,rfl⟩)
 go_ret
 exact ⟨aK (by kernel_rfl),rfl⟩
theorem zR (w:World):Calls Tryz.prog 205 #[.int .i64 2] w fun e w'=>e= .returned (.string (bs [48,48,49,48]))∧w=w':=by
 go_enter Tryz.func205,Tryz.ntmps205
 go_wp2_with (go_at_call 241;refine (vh _).mono ?_;rintro e w' ⟨rfl,rfl⟩)
 go_ret
 exact ⟨aK (by kernel_rfl),rfl⟩
theorem zS (w:World):Calls Tryz.prog 205 #[.int .i64 3] w fun e w'=>e= .returned (.string (bs [48,48,48,49,48]))∧w=w':=by
 go_enter Tryz.func205,Tryz.ntmps205
 go_wp2_with (go_at_call 241;refine (vj _).mono ?_;rintro e w' ⟨rfl,rfl⟩)
 go_ret
 exact ⟨aK (by kernel_rfl),rfl⟩
theorem zT (w:World):Calls Tryz.prog 205 #[.int .i64 4] w fun e w'=>e= .returned (.string (bs [48,48,48,48,49,49,48]))∧w=w':=by
 go_enter Tryz.func205,Tryz.ntmps205
 go_wp2_with (go_at_call 241;refine (vk _).mono ?_;rintro e w' ⟨rfl,rfl⟩)
 go_ret
 exact ⟨aK (by kernel_rfl),rfl⟩
theorem zU (w:World):Calls Tryz.prog 205 #[.int .i64 5] w fun e w'=>e= .returned (.string (bs [48,48,48,48,49,48,49,48]))∧w=w':=by
 go_enter Tryz.func205,Tryz.ntmps205
 go_wp2_with (go_at_call 241;refine (vl _).mono ?_;rintro e w' ⟨rfl,rfl⟩)
 go_ret
 exact ⟨aK (by kernel_rfl),rfl⟩
theorem zV (w:World):Calls Tryz.prog 205 #[.int .i64 6] w fun e w'=>e= .returned (.string (bs [48,48,48,48,49,48,48,48]))∧w=w':=by
 go_enter Tryz.func205,Tryz.ntmps205
 go_wp2_with (go_at_call 241;refine (vm _).mono ?_;rintro e w' ⟨rfl,rfl⟩)
 go_ret
 exact ⟨aK (by kernel_rfl),rfl⟩
theorem zW (w:World):Calls Tryz.prog 205 #[.int .i64 7] w fun e w'=>e= .returned (.string (bs [48,48,48,48,48,49,49,48]))∧w=w':=by
 go_enter Tryz.func205,Tryz.ntmps205
 go_wp2_with (go_at_call 241;refine (vo _).mono ?_;rintro e w' ⟨rfl,rfl⟩)
 go_ret
 exact ⟨aK (by kernel_rfl),rfl⟩
theorem zX (w:World):Calls Tryz.prog 205 #[.int .i64 8] w fun e w'=>e= .returned (.string (bs [48,48,48,48,48,49,48,49,49,48]))∧w=w':=by
 go_enter Tryz.func205,Tryz.ntmps205
 go_wp2_with (go_at_call 241;refine (vp _).mono ?_;rintro e w' ⟨rfl,rfl⟩)
 go_ret
 exact ⟨aK (by kernel_rfl),rfl⟩
theorem zY (w:World):Calls Tryz.prog 205 #[.int .i64 9] w fun e w'=>e= .returned (.string (bs [48,48,48,48,48,49,48,49,48,48]))∧w=w':=by
 go_enter Tryz.func205,Tryz.ntmps205
 go_wp2_with (go_at_call 241;refine (vq _).mono ?_;rintro e w' ⟨rfl,rfl⟩)
 go_ret
 exact ⟨aK (by kernel_rfl),rfl⟩
theorem yA (w:World):Calls Tryz.prog 205 #[.int .i64 10] w fun e w'=>e= .returned (.string (bs [48,48,48,48,48,49,48,48,49,48]))∧w=w':=by
 go_enter Tryz.func205,Tryz.ntmps205
 go_wp2_with (go_at_call 241;refine (sU _).mono ?_;rintro e w' ⟨rfl,rfl⟩)
 go_ret
 exact ⟨aK (by kernel_rfl),rfl⟩
theorem yB (w:World):Calls Tryz.prog 205 #[.int .i64 11] w fun e w'=>e= .returned (.string (bs [48,48,48,48,48,49,48,48,48,49,48]))∧w=w':=by
 go_enter Tryz.func205,Tryz.ntmps205
 go_wp2_with (go_at_call 241;refine (sV _).mono ?_;rintro e w' ⟨rfl,rfl⟩)
 go_ret
 exact ⟨aK (by kernel_rfl),rfl⟩
theorem yC (w:World):Calls Tryz.prog 205 #[.int .i64 12] w fun e w'=>e= .returned (.string (bs [48,48,48,48,48,49,48,48,48,48,48]))∧w=w':=by
 go_enter Tryz.func205,Tryz.ntmps205
 go_wp2_with (go_at_call 241;refine (sW _).mono ?_;rintro e w' ⟨rfl,rfl⟩)
 go_ret
 exact ⟨aK (by kernel_rfl),rfl⟩
theorem yD (w:World):Calls Tryz.prog 205 #[.int .i64 13] w fun e w'=>e= .returned (.string (bs [48,48,48,48,48,48,49,49,49,49,48]))∧w=w':=by
 go_enter Tryz.func205,Tryz.ntmps205
 go_wp2_with (go_at_call 241;refine (sX _).mono ?_;rintro e w' ⟨rfl,rfl⟩)
 go_ret
 exact ⟨aK (by kernel_rfl),rfl⟩
theorem yE (w:World):Calls Tryz.prog 205 #[.int .i64 14] w fun e w'=>e= .returned (.string (bs [48,48,48,48,48,48,49,49,49,48,48]))∧w=w':=by
 go_enter Tryz.func205,Tryz.ntmps205
 go_wp2_with (go_at_call 241;refine (sY _).mono ?_;rintro e w' ⟨rfl,rfl⟩)
 go_ret
 exact ⟨aK (by kernel_rfl),rfl⟩
theorem yF (w:World):Calls Tryz.prog 205 #[.int .i64 15] w fun e w'=>e= .returned (.string (bs [48,48,48,48,48,48,49,49,48,49,48]))∧w=w':=by
 go_enter Tryz.func205,Tryz.ntmps205
 go_wp2_with (go_at_call 241;refine (sZ _).mono ?_;rintro e w' ⟨rfl,rfl⟩)
 go_ret
 exact ⟨aK (by kernel_rfl),rfl⟩
theorem qZ (d:Int) (h1: -16≤d) (h2:d≤15) (w:World):Calls Tryz.prog 205 #[.int .i64 d] w fun e w'=>e= .returned (.string (bs (cy d)))∧w=w':=by
 have h:d=(-16)∨d=(-15)∨d=(-14)∨d=(-13)∨d=(-12)∨d=(-11)∨d=(-10)∨d=(-9)∨d=(-8)∨d=(-7)∨d=(-6)∨d=(-5)∨d=(-4)∨d=(-3)∨d=(-2)∨d=(-1)∨d=0∨d=1∨d=2∨d=3∨d=4∨d=5∨d=6∨d=7∨d=8∨d=9∨d=10∨d=11∨d=12∨d=13∨d=14∨d=15:=by omega
 rcases h with rfl|rfl|rfl|rfl|rfl|rfl|rfl|rfl|rfl|rfl|rfl|rfl|rfl|rfl|rfl|rfl|rfl|rfl|rfl|rfl|rfl|rfl|rfl|rfl|rfl|rfl|rfl|rfl|rfl|rfl|rfl|rfl
 ·rw [show cy (-16)=[48,48,48,48,48,48,49,49,48,48,49] by kernel_rfl];exact yz w
 ·rw [show cy (-15)=[48,48,48,48,48,48,49,49,48,49,49] by kernel_rfl];exact yy w
 ·rw [show cy (-14)=[48,48,48,48,48,48,49,49,49,48,49] by kernel_rfl];exact yx w
 ·rw [show cy (-13)=[48,48,48,48,48,48,49,49,49,49,49] by kernel_rfl];exact yw w
 ·rw [show cy (-12)=[48,48,48,48,48,49,48,48,48,48,49] by kernel_rfl];exact yv w
 ·rw [show cy (-11)=[48,48,48,48,48,49,48,48,48,49,49] by kernel_rfl];exact yu w
 ·rw [show cy (-10)=[48,48,48,48,48,49,48,48,49,49] by kernel_rfl];exact yt w
 ·rw [show cy (-9)=[48,48,48,48,48,49,48,49,48,49] by kernel_rfl];exact zO w
 ·rw [show cy (-8)=[48,48,48,48,48,49,48,49,49,49] by kernel_rfl];exact zN w
 ·rw [show cy (-7)=[48,48,48,48,48,49,49,49] by kernel_rfl];exact zM w
 ·rw [show cy (-6)=[48,48,48,48,49,48,48,49] by kernel_rfl];exact zL w
 ·rw [show cy (-5)=[48,48,48,48,49,48,49,49] by kernel_rfl];exact zK w
 ·rw [show cy (-4)=[48,48,48,48,49,49,49] by kernel_rfl];exact zJ w
 ·rw [show cy (-3)=[48,48,48,49,49] by kernel_rfl];exact zI w
 ·rw [show cy (-2)=[48,48,49,49] by kernel_rfl];exact zH w
 ·rw [show cy (-1)=[48,49,49] by kernel_rfl];exact zG w
 ·rw [show cy 0=[49] by kernel_rfl];exact zP w
 ·rw [show cy 1=[48,49,48] by kernel_rfl];exact zQ w
 ·rw [show cy 2=[48,48,49,48] by kernel_rfl];exact zR w
 ·rw [show cy 3=[48,48,48,49,48] by kernel_rfl];exact zS w
 ·rw [show cy 4=[48,48,48,48,49,49,48] by kernel_rfl];exact zT w
 ·rw [show cy 5=[48,48,48,48,49,48,49,48] by kernel_rfl];exact zU w
 ·rw [show cy 6=[48,48,48,48,49,48,48,48] by kernel_rfl];exact zV w
 ·rw [show cy 7=[48,48,48,48,48,49,49,48] by kernel_rfl];exact zW w
 ·rw [show cy 8=[48,48,48,48,48,49,48,49,49,48] by kernel_rfl];exact zX w
 ·rw [show cy 9=[48,48,48,48,48,49,48,49,48,48] by kernel_rfl];exact zY w
 ·rw [show cy 10=[48,48,48,48,48,49,48,48,49,48] by kernel_rfl];exact yA w
 ·rw [show cy 11=[48,48,48,48,48,49,48,48,48,49,48] by kernel_rfl];exact yB w
 ·rw [show cy 12=[48,48,48,48,48,49,48,48,48,48,48] by kernel_rfl];exact yC w
 ·rw [show cy 13=[48,48,48,48,48,48,49,49,49,49,48] by kernel_rfl];exact yD w
 ·rw [show cy 14=[48,48,48,48,48,48,49,49,49,48,48] by kernel_rfl];exact yE w
 ·rw [show cy 15=[48,48,48,48,48,48,49,49,48,49,48] by kernel_rfl];exact yF w
theorem eX (n:Int) (w:World):Calls Tryz.prog 204 #[.int .i64 n] w fun e w'=>e= .returned (.bool (aH n))∧w=w':=by
 by_cases a: -15≤n
 ·have a1:decide (-15≤n)=true:=decide_eq_true a
  by_cases b:n≤15
  ·have b1:decide (n≤15)=true:=decide_eq_true b
   have hv:aH n=true:=by simp [aH,a,b]
   rw [hv];clear hv
   go_enter Tryz.func204,Tryz.ntmps204
   go_wp2
   go_ret
   exact ⟨rfl,rfl⟩
  ·have b1:decide (n≤15)=false:=decide_eq_false b
   have hv:aH n=false:=by simp [aH];omega
   rw [hv];clear hv
   go_enter Tryz.func204,Tryz.ntmps204
   go_wp2
   go_ret
   exact ⟨rfl,rfl⟩
 ·have a1:decide (-15≤n)=false:=decide_eq_false a
  have hv:aH n=false:=by simp [aH];omega
  rw [hv];clear hv
  go_enter Tryz.func204,Tryz.ntmps204
  go_wp2
  go_ret
  exact ⟨rfl,rfl⟩
theorem zZ (fr to:Int) (w:World) (h1:aH fr=true) (h2:aH to=true):Calls Tryz.prog 161 #[.int .i64 fr,.int .i64 to] w fun e w'=>e= .returned (.tuple #[.int .i64 (el fr to),.int .i64 0])∧w=w':=by
 have ⟨a1,a2⟩: -15≤fr∧fr≤15:=by simpa [aH] using h1
 have ⟨b1,b2⟩: -15≤to∧to≤15:=by simpa [aH] using h2
 have hp:0≤to - fr+16+64:=by omega
 have hd:=zAA (show el fr to=(to - fr+80) % 32 - 16 from rfl)
 go_enter Tryz.func161,Tryz.ntmps161
 go_wp2_with (go_at_call 204;refine (eX _ _).mono ?_;rintro e w' ⟨rfl,rfl⟩)
 go_ret2
 rw [hd.out,show to - fr+80=to - fr+16+64 by omega]
 exact ⟨rfl,rfl⟩
theorem tQ (ad d:Int) (had:Bool) (x y:Int) (w:World):Calls Tryz.prog 159 #[.int .i64 ad,.int .i64 d,.bool had,.int .i64 x,.int .i64 y] w fun e w'=>e= .returned (.tuple #[.int .i64 (dy ad d had x y).1,.int .i64 (dy ad d had x y).2])∧w=w':=by
 unfold dy
 obtain ⟨b,hb⟩:∃b,FD ad d had=b:=⟨_,rfl⟩
 rw [hb]
 unfold FD at hb
 cases had with
 |false=>
  simp at hb;subst hb
  go_enter Tryz.func159,Tryz.ntmps159
  go_wp2
  go_ret2
  exact ⟨rfl,rfl⟩
 |true=>
  by_cases h1:d=1
  ·subst h1
   by_cases h2:ad=1
   ·subst h2
    simp at hb;subst hb
    go_enter Tryz.func159,Tryz.ntmps159
    go_wp2
    go_ret2
    exact ⟨rfl,rfl⟩
   ·have h2b:(ad==1)=false:=beq_eq_false_iff_ne.2 h2
    by_cases h3:ad=12
    ·subst h3
     simp at hb;subst hb
     go_enter Tryz.func159,Tryz.ntmps159
     go_wp2
     go_ret2
     exact ⟨rfl,rfl⟩
    ·have h3b:(ad==12)=false:=beq_eq_false_iff_ne.2 h3
     by_cases h4:ad=23
     ·subst h4
      simp at hb;subst hb
      go_enter Tryz.func159,Tryz.ntmps159
      go_wp2
      go_ret2
      exact ⟨rfl,rfl⟩
     ·have h4b:(ad==23)=false:=beq_eq_false_iff_ne.2 h4
      simp [h2b,h3b,h4b] at hb;subst hb
      clear h2 h3 h4
      go_enter Tryz.func159,Tryz.ntmps159
      go_wp2
      go_ret2
      exact ⟨rfl,rfl⟩
  ·have h1b:(d !=1)=true:=bne_iff_ne.2 h1
   simp [h1b] at hb;subst hb
   clear h1
   go_enter Tryz.func159,Tryz.ntmps159
   go_wp2
   go_ret2
   exact ⟨rfl,rfl⟩
set_option maxRecDepth 100000 in
theorem CX (d:Int) (w:World) (h1: -16≤d) (h2:d≤15):Calls Tryz.prog 162 #[.int .i64 d] w fun e w'=>e= .returned (.tuple #[.string (bs (cy d)),.int .i64 0])∧w=w':=by
 have C:=zAA (fun W=>qZ d h1 h2 W)
 have a1:decide (d< -16)=false:=decide_eq_false (by omega)
 have a2:decide (15<d)=false:=decide_eq_false (by omega)
 go_enter Tryz.func162,Tryz.ntmps162
 go_wp2_with (go_at_call 205;refine (C.out _).mono ?_;rintro e w' ⟨rfl,rfl⟩)
 go_ret2
 exact ⟨rfl,rfl⟩
theorem Is {pr d:Int} (h1:aH pr=true) (h2: -16≤d) (h3:d≤15):bf pr d=if aH (pr+d) then (pr+d,0) else if aH (pr+d+32) then (pr+d+32,0) else if aH (pr+d - 32) then (pr+d - 32,0) else (0,12):=by
 unfold bf
 rw [h1]
 simp [decide_eq_false (show ¬d< -16 by omega),decide_eq_false (show ¬15<d by omega)]
set_option maxRecDepth 100000 in
set_option maxHeartbeats 1000000 in
theorem qY (pr d:Int) (w:World) (h1:aH pr=true) (h2: -16≤d) (h3:d≤15):Calls Tryz.prog 257 #[.int .i64 pr,.int .i64 d] w fun e w'=>e= .returned (.tuple #[.int .i64 (bf pr d).1,.int .i64 (bf pr d).2])∧w=w':=by
 have HT:=zAA (Is h1 h2 h3)
 have P1:=zAA (fun W=>eX pr W)
 rw [h1] at P1
 have hpr: -15≤pr∧pr≤15:=by simpa [aH] using h1
 obtain ⟨a1,a2⟩:=hpr
 have b1:decide (d< -16)=false:=decide_eq_false (by omega)
 have b2:decide (15<d)=false:=decide_eq_false (by omega)
 have i0:∀W:World,(Instr.index 299 (.agg #[.int .i64 0,.int .i64 32,.int .i64 (-32)]) (.int .i64 0)).run Tryz.prog W= .ok (.int .i64 0) W:=fun _=>by kernel_rfl
 have i1:∀W:World,(Instr.index 299 (.agg #[.int .i64 0,.int .i64 32,.int .i64 (-32)]) (.int .i64 1)).run Tryz.prog W= .ok (.int .i64 32) W:=fun _=>by kernel_rfl
 have i2:∀W:World,(Instr.index 299 (.agg #[.int .i64 0,.int .i64 32,.int .i64 (-32)]) (.int .i64 2)).run Tryz.prog W= .ok (.int .i64 (-32)) W:=fun _=>by kernel_rfl
 clear h1
 go_enter Tryz.func257,Tryz.ntmps257
 go_wp2_with (go_at_call 204;refine (P1.out _).mono ?_;rintro e w' ⟨rfl,rfl⟩)
 go_step3
 go_wp2_with (go_at_call 204;refine (P1.out _).mono ?_;rintro e w' ⟨rfl,rfl⟩)
 go_step3
 go_wp2_with fail
 go_loopg [6,7,23] 3 (fun g x e i=>fun wr=>∃j:Nat,j+g=3∧x= .int .i64 0∧e= .int .i64 12∧i= .int .i64 (j:Int)∧w=wr∧Hid ((1≤j→aH (pr+d)=false)∧(2≤j→aH (pr+d+32)=false)∧(3≤j→aH (pr+d+(-32))=false)))
 case atStart=>exact ⟨0,by omega,rfl,rfl,rfl,rfl,zAA ⟨by omega,by omega,by omega⟩⟩
 case round=>
  obtain ⟨j,hj,rfl,rfl,rfl,rfl,HJ⟩:=hrel
  rw [show pr+d - 32=pr+d+(-32) by omega] at HT
  have hj4:j=0∨j=1∨j=2∨j=3:=by omega
  rcases hj4 with rfl|rfl|rfl|rfl
  ·by_cases hp:aH (pr+d)=true
   ·go_wp2_with (go_at_call 204;refine (eX _ _).mono ?_;rintro e w' ⟨rfl,rfl⟩)
    rw [Exit.noGoto_ret]
    go_ret2
    rw [HT.out,if_pos hp]
    exact ⟨rfl,rfl⟩
   ·have hp:aH (pr+d)=false:=by simpa using hp
    go_wp2_with (go_at_call 204;refine (eX _ _).mono ?_;rintro e w' ⟨rfl,rfl⟩)
    go_roundg 2
    case measure=>omega
    case rel=>exact ⟨1,by omega,rfl,rfl,rfl,rfl,zAA ⟨fun _=>hp,by omega,by omega⟩⟩
  ·by_cases hp:aH (pr+d+32)=true
   ·go_wp2_with (go_at_call 204;refine (eX _ _).mono ?_;rintro e w' ⟨rfl,rfl⟩)
    rw [Exit.noGoto_ret]
    go_ret2
    rw [HT.out,if_neg (by rw [HJ.out.1 (by omega)];decide),if_pos hp]
    exact ⟨rfl,rfl⟩
   ·have hp:aH (pr+d+32)=false:=by simpa using hp
    go_wp2_with (go_at_call 204;refine (eX _ _).mono ?_;rintro e w' ⟨rfl,rfl⟩)
    go_roundg 1
    case measure=>omega
    case rel=>exact ⟨2,by omega,rfl,rfl,rfl,rfl,zAA ⟨fun _=>HJ.out.1 (by omega),fun _=>hp,by omega⟩⟩
  ·by_cases hp:aH (pr+d+(-32))=true
   ·go_wp2_with (go_at_call 204;refine (eX _ _).mono ?_;rintro e w' ⟨rfl,rfl⟩)
    rw [Exit.noGoto_ret]
    go_ret2
    rw [HT.out,if_neg (by rw [HJ.out.1 (by omega)];decide),if_neg (by rw [HJ.out.2.1 (by omega)];decide),if_pos hp]
    exact ⟨rfl,rfl⟩
   ·have hp:aH (pr+d+(-32))=false:=by simpa using hp
    go_wp2_with (go_at_call 204;refine (eX _ _).mono ?_;rintro e w' ⟨rfl,rfl⟩)
    go_roundg 0
    case measure=>omega
    case rel=>exact ⟨3,by omega,rfl,rfl,rfl,rfl,zAA ⟨fun _=>HJ.out.1 (by omega),fun _=>HJ.out.2.1 (by omega),fun _=>hp⟩⟩
  ·go_wp2_with fail
   rw [Exit.noGoto_ret]
   go_ret2
   rw [HT.out,if_neg (by rw [HJ.out.1 (by omega)];decide),if_neg (by rw [HJ.out.2.1 (by omega)];decide),if_neg (by rw [HJ.out.2.2 (by omega)];decide)]
   exact ⟨rfl,rfl⟩
set_option maxRecDepth 100000 in
set_option maxHeartbeats 2000000 in
theorem Aa (w:World):Calls Tryz.prog 276 #[] w (rf aj aq w):=by
 have hc:∀j (h:j<32),aj.take (j+1)=aj.take j++[cy ((j:Int) - 16)]:=by decide+kernel
 have hn:∀j (h:j<32),aq.take (j+1)=aq.take j++[(j:Int) - 16]:=by decide+kernel
 have HC:=zAA hc;have HN:=zAA hn
 clear hc hn
 go_enter Tryz.func276,Tryz.ntmps276
 go_wp2_with fail
 go_loopg [1,2,3] 32 (fun g v1 v2 i=>fun wr=>∃j:Nat,j+g=32∧i= .int .i64 ((j:Int) - 16)∧Hid (nl w (aj.take j) (aq.take j) v1 v2 wr))
 case atStart=>exact ⟨0,by omega,rfl,zAA (EJ w)⟩
 case round=>
  obtain ⟨j,hj,rfl,HR⟩:=hrel
  cases gk with
  |succ g=>
   have hlt:((j:Int) - 16)<16:=by omega
   have hl1:(aj.take j).length=j:=by rw [zAE,gJ];omega
   have hl2:(aq.take j).length=j:=by rw [zAE,show aq.length=32 by kernel_rfl];omega
   have hr:=HR.out
   unfold nl at hr
   rw [hl1,hl2] at hr
   obtain ⟨A1,c1,e1,_⟩:=dg hr.2.2.head
   obtain ⟨A2,c2,e2,_⟩:=dg hr.2.2.tail.head
   dsimp only at e1 e2
   subst e1 e2
   have HR1:=zAA hr
   have hj32:j≤31:=by omega
   have HHJ:=zAA hj
   have tok:True:=trivial
   clear hl1 hl2 hr hj
   obtain ⟨d,hd⟩:∃d,d=(j:Int) - 16:=⟨_,rfl⟩
   have hd1: -16≤d:=by omega
   have hd2:d≤15:=by omega
   rw [←hd] at hlt⊢
   have HDD:=zAA hd
   clear hd
   go_wp2_with (first
    |(go_at_call 205;refine (qZ d hd1 hd2 _).mono ?_;rintro e w' ⟨rfl,rfl⟩)
    |(at_builtin;have _t:=tok;refine iV lc rfl rfl 1 [bE (cy d)] rfl HR1.out rfl rfl (mS _) (by omega) ⟨zAB _,HR1.out.1.size⟩ (by simp) (by simp) ?_;clear tok;intro v1 W1 hc1;have HC1:=zAA hc1;clear hc1)
    |(at_builtin;refine iV mF rfl rfl 1 [aY d] rfl (eV HC1.out) rfl rfl (ob _) (by omega) ⟨zAB _,HC1.out.1.size⟩ (by simp) (by simp) ?_;intro v2 W2 hc2;have HC2:=zAA hc2;clear hc2))
   go_roundg g
   case measure=>omega
   case rel=>
    refine ⟨j+1,by have:=HHJ.out;omega,?_,zAA ?_⟩
    ·rw [HDD.out];congr 1;omega
    ·unfold nl
     rw [HC.out j (by omega),HN.out j (by omega),←HDD.out]
     simp only [List.length_append,zAF,zAE,gJ,show aq.length=32 by kernel_rfl,Nat.min_eq_left (show j≤32 by omega),List.length_cons,List.length_nil,zAG,zAH]
     exact eV HC2.out
  |zero=>
   obtain rfl:j=32:=by omega
   have hr:=HR.out
   rw [show aj.take 32=aj by kernel_rfl,show aq.take 32=aq by kernel_rfl] at hr
   obtain ⟨A,B,c,d,rfl,rfl,hA,hB,hb⟩:=Bj hr (by rw [gJ];decide) (by kernel_rfl)
   have CM:=zAA (pw vr A B c d wr hA hB)
   have HB:=zAA hb
   rw [gJ] at CM⊢
   clear hr hA hB hb
   go_wp2_with (go_at_call 201;refine CM.out.mono ?_;rintro e w' ⟨T,rfl,hpt⟩;have HPT:=zAA hpt;clear hpt)
   go_ret
   exact ⟨_,T,rfl,HPT.out.1,HB.out.trans (HPT.out.2.mono HB.out.size)⟩
theorem s8 (A:Option Addr) (n c:Nat) (l:List UInt8) (i:Int) (w:World) (hA:Sl w A (l.map af)) (hn:l.length=n) (hsz:n≤2 ^ 47) (hi: -9223372036854775808≤i∧i≤9223372036854775807):
  Calls Tryz.prog 256 #[.slice A n c,.int .i64 i] w fun e w'=>e= .returned (.tuple #[.int .i64 (ac aj aq l i).1,.int .i64 (ac aj aq l i).2.1,.int .i64 (ac aj aq l i).2.2])∧Below w.heap.size w w':=by
 have HA:=zAA hA;have Hn:=zAA hn
 clear hA hn
 go_enter Tryz.func256,Tryz.ntmps256
 go_wp2_with (first
  |(go_at_call 276;refine (Aa _).mono ?_;rintro e w1 ⟨base,T,rfl,hpt,hb1⟩;have HPT:=zAA hpt;have HB1:=zAA hb1;clear hpt hb1)
  |(go_at_call 275;refine (rp vr _ base T HPT.out A n c l i (HA.out.below HB1.out) Hn.out hsz hi).mono ?_;rintro e w2 ⟨rfl,hb2⟩;have HB2:=zAA hb2;clear hb2))
 go_ret3
 exact ⟨rfl,HB1.out.trans (HB2.out.mono HB1.out.size)⟩
def fZ (p:Int) (k:Nat):Bool:=decide (1≤p)&&decide (p≤63)&&(p.toNat / 2 ^ (6 - k) % 2==1)
theorem lD:∀n:Nat,n<64→(bits .and .i64 (n:Int) 32=if n / 32 % 2=1 then 32 else 0)∧(bits .and .i64 (n:Int) 16=if n / 16 % 2=1 then 16 else 0)∧(bits .and .i64 (n:Int) 8=if n / 8 % 2=1 then 8 else 0)∧
  (bits .and .i64 (n:Int) 4=if n / 4 % 2=1 then 4 else 0)∧(bits .and .i64 (n:Int) 2=if n / 2 % 2=1 then 2 else 0)∧(bits .and .i64 (n:Int) 1=if n / 1 % 2=1 then 1 else 0):=by decide+kernel
def mZ (p:Int):Nat→Nat
 |0=>0
 |j+1=>mZ p j+(if fZ p (j+1) then 1 else 0)
theorem IQ (p:Int):mZ p 6=cI p:=by
 unfold cI
 by_cases h:1≤p∧p≤63
 ·rw [if_pos h]
  simp only [mZ,fZ,decide_eq_true h.1,decide_eq_true h.2,Bool.true_and,Nat.reduceSub,Nat.reducePow,Nat.reduceAdd,beq_iff_eq,Nat.div_one]
  have e:∀q:Nat,(if q % 2=1 then 1 else 0)=q % 2:=fun q=>by split<;>omega
  simp only [e]
  omega
 ·rw [if_neg h]
  have e:∀k,fZ p k=false:=fun k=>by
   unfold fZ
   by_cases h1:1≤p
   ·rw [decide_eq_false (show ¬p≤63 by omega)];simp
   ·rw [decide_eq_false h1];simp
  simp [mZ,e]
theorem xG (p:Int) (w:World):Calls Tryz.prog 174 #[.int .i64 p,.int .i64 1] w fun e w'=>e= .returned (.bool (fZ p 1))∧Below w.heap.size w w':=by
 unfold fZ
 by_cases h1:1≤p
 ·have d1:decide (1≤p)=true:=decide_eq_true h1
  by_cases h2:p≤63
  ·have d2:decide (p≤63)=true:=decide_eq_true h2
   obtain ⟨n,rfl⟩:=zAC (by omega:0≤p)
   have hb:=(lD n (by omega)).1
   rw [d1,d2,zAD,show 2 ^ (6 - 1)=32 by rfl]
   by_cases hq:n / 32 % 2=1
   ·rw [if_pos hq] at hb
    have HQ:=zAA hq
    clear hq h1 h2
    go_enter Tryz.func174,Tryz.ntmps174
    go_wp2
    go_ret
    rw [HQ.out]
    exact ⟨rfl,(Below.refl _ _).alloc (zAB _) _⟩
   ·rw [if_neg hq] at hb
    have HQ:=zAA (show (n / 32 % 2==1)=false by simpa using hq)
    clear hq h1 h2
    go_enter Tryz.func174,Tryz.ntmps174
    go_wp2
    go_ret
    rw [HQ.out]
    exact ⟨rfl,(Below.refl _ _).alloc (zAB _) _⟩
  ·have d2:decide (p≤63)=false:=decide_eq_false h2
   rw [d1,d2]
   clear h1 h2
   go_enter Tryz.func174,Tryz.ntmps174
   go_wp2
   go_ret
   exact ⟨rfl,(Below.refl _ _).alloc (zAB _) _⟩
 ·have d1:decide (1≤p)=false:=decide_eq_false h1
  rw [d1]
  clear h1
  go_enter Tryz.func174,Tryz.ntmps174
  go_wp2
  go_ret
  exact ⟨rfl,(Below.refl _ _).alloc (zAB _) _⟩
theorem xH (p:Int) (w:World):Calls Tryz.prog 174 #[.int .i64 p,.int .i64 2] w fun e w'=>e= .returned (.bool (fZ p 2))∧Below w.heap.size w w':=by
 unfold fZ
 by_cases h1:1≤p
 ·have d1:decide (1≤p)=true:=decide_eq_true h1
  by_cases h2:p≤63
  ·have d2:decide (p≤63)=true:=decide_eq_true h2
   obtain ⟨n,rfl⟩:=zAC (by omega:0≤p)
   have hb:=(lD n (by omega)).2.1
   rw [d1,d2,zAD,show 2 ^ (6 - 2)=16 by rfl]
   by_cases hq:n / 16 % 2=1
   ·rw [if_pos hq] at hb
    have HQ:=zAA hq
    clear hq h1 h2
    go_enter Tryz.func174,Tryz.ntmps174
    go_wp2
    go_ret
    rw [HQ.out]
    exact ⟨rfl,(Below.refl _ _).alloc (zAB _) _⟩
   ·rw [if_neg hq] at hb
    have HQ:=zAA (show (n / 16 % 2==1)=false by simpa using hq)
    clear hq h1 h2
    go_enter Tryz.func174,Tryz.ntmps174
    go_wp2
    go_ret
    rw [HQ.out]
    exact ⟨rfl,(Below.refl _ _).alloc (zAB _) _⟩
  ·have d2:decide (p≤63)=false:=decide_eq_false h2
   rw [d1,d2]
   clear h1 h2
   go_enter Tryz.func174,Tryz.ntmps174
   go_wp2
   go_ret
   exact ⟨rfl,(Below.refl _ _).alloc (zAB _) _⟩
 ·have d1:decide (1≤p)=false:=decide_eq_false h1
  rw [d1]
  clear h1
  go_enter Tryz.func174,Tryz.ntmps174
  go_wp2
  go_ret
  exact ⟨rfl,(Below.refl _ _).alloc (zAB _) _⟩
theorem xI (p:Int) (w:World):Calls Tryz.prog 174 #[.int .i64 p,.int .i64 3] w fun e w'=>e= .returned (.bool (fZ p 3))∧Below w.heap.size w w':=by
 unfold fZ
 by_cases h1:1≤p
 ·have d1:decide (1≤p)=true:=decide_eq_true h1
  by_cases h2:p≤63
  ·have d2:decide (p≤63)=true:=decide_eq_true h2
   obtain ⟨n,rfl⟩:=zAC (by omega:0≤p)
   have hb:=(lD n (by omega)).2.2.1
   rw [d1,d2,zAD,show 2 ^ (6 - 3)=8 by rfl]
   by_cases hq:n / 8 % 2=1
   ·rw [if_pos hq] at hb
    have HQ:=zAA hq
    clear hq h1 h2
    go_enter Tryz.func174,Tryz.ntmps174
    go_wp2
    go_ret
    rw [HQ.out]
    exact ⟨rfl,(Below.refl _ _).alloc (zAB _) _⟩
   ·rw [if_neg hq] at hb
    have HQ:=zAA (show (n / 8 % 2==1)=false by simpa using hq)
    clear hq h1 h2
    go_enter Tryz.func174,Tryz.ntmps174
    go_wp2
    go_ret
    rw [HQ.out]
    exact ⟨rfl,(Below.refl _ _).alloc (zAB _) _⟩
  ·have d2:decide (p≤63)=false:=decide_eq_false h2
   rw [d1,d2]
   clear h1 h2
   go_enter Tryz.func174,Tryz.ntmps174
   go_wp2
   go_ret
   exact ⟨rfl,(Below.refl _ _).alloc (zAB _) _⟩
 ·have d1:decide (1≤p)=false:=decide_eq_false h1
  rw [d1]
  clear h1
  go_enter Tryz.func174,Tryz.ntmps174
  go_wp2
  go_ret
  exact ⟨rfl,(Below.refl _ _).alloc (zAB _) _⟩
theorem xJ (p:Int) (w:World):Calls Tryz.prog 174 #[.int .i64 p,.int .i64 4] w fun e w'=>e= .returned (.bool (fZ p 4))∧Below w.heap.size w w':=by
 unfold fZ
 by_cases h1:1≤p
 ·have d1:decide (1≤p)=true:=decide_eq_true h1
  by_cases h2:p≤63
  ·have d2:decide (p≤63)=true:=decide_eq_true h2
   obtain ⟨n,rfl⟩:=zAC (by omega:0≤p)
   have hb:=(lD n (by omega)).2.2.2.1
   rw [d1,d2,zAD,show 2 ^ (6 - 4)=4 by rfl]
   by_cases hq:n / 4 % 2=1
   ·rw [if_pos hq] at hb
    have HQ:=zAA hq
    clear hq h1 h2
    go_enter Tryz.func174,Tryz.ntmps174
    go_wp2
    go_ret
    rw [HQ.out]
    exact ⟨rfl,(Below.refl _ _).alloc (zAB _) _⟩
   ·rw [if_neg hq] at hb
    have HQ:=zAA (show (n / 4 % 2==1)=false by simpa using hq)
    clear hq h1 h2
    go_enter Tryz.func174,Tryz.ntmps174
    go_wp2
    go_ret
    rw [HQ.out]
    exact ⟨rfl,(Below.refl _ _).alloc (zAB _) _⟩
  ·have d2:decide (p≤63)=false:=decide_eq_false h2
   rw [d1,d2]
   clear h1 h2
   go_enter Tryz.func174,Tryz.ntmps174
   go_wp2
   go_ret
   exact ⟨rfl,(Below.refl _ _).alloc (zAB _) _⟩
 ·have d1:decide (1≤p)=false:=decide_eq_false h1
  rw [d1]
  clear h1
  go_enter Tryz.func174,Tryz.ntmps174
  go_wp2
  go_ret
  exact ⟨rfl,(Below.refl _ _).alloc (zAB _) _⟩
theorem xK (p:Int) (w:World):Calls Tryz.prog 174 #[.int .i64 p,.int .i64 5] w fun e w'=>e= .returned (.bool (fZ p 5))∧Below w.heap.size w w':=by
 unfold fZ
 by_cases h1:1≤p
 ·have d1:decide (1≤p)=true:=decide_eq_true h1
  by_cases h2:p≤63
  ·have d2:decide (p≤63)=true:=decide_eq_true h2
   obtain ⟨n,rfl⟩:=zAC (by omega:0≤p)
   have hb:=(lD n (by omega)).2.2.2.2.1
   rw [d1,d2,zAD,show 2 ^ (6 - 5)=2 by rfl]
   by_cases hq:n / 2 % 2=1
   ·rw [if_pos hq] at hb
    have HQ:=zAA hq
    clear hq h1 h2
    go_enter Tryz.func174,Tryz.ntmps174
    go_wp2
    go_ret
    rw [HQ.out]
    exact ⟨rfl,(Below.refl _ _).alloc (zAB _) _⟩
   ·rw [if_neg hq] at hb
    have HQ:=zAA (show (n / 2 % 2==1)=false by simpa using hq)
    clear hq h1 h2
    go_enter Tryz.func174,Tryz.ntmps174
    go_wp2
    go_ret
    rw [HQ.out]
    exact ⟨rfl,(Below.refl _ _).alloc (zAB _) _⟩
  ·have d2:decide (p≤63)=false:=decide_eq_false h2
   rw [d1,d2]
   clear h1 h2
   go_enter Tryz.func174,Tryz.ntmps174
   go_wp2
   go_ret
   exact ⟨rfl,(Below.refl _ _).alloc (zAB _) _⟩
 ·have d1:decide (1≤p)=false:=decide_eq_false h1
  rw [d1]
  clear h1
  go_enter Tryz.func174,Tryz.ntmps174
  go_wp2
  go_ret
  exact ⟨rfl,(Below.refl _ _).alloc (zAB _) _⟩
theorem xL (p:Int) (w:World):Calls Tryz.prog 174 #[.int .i64 p,.int .i64 6] w fun e w'=>e= .returned (.bool (fZ p 6))∧Below w.heap.size w w':=by
 unfold fZ
 by_cases h1:1≤p
 ·have d1:decide (1≤p)=true:=decide_eq_true h1
  by_cases h2:p≤63
  ·have d2:decide (p≤63)=true:=decide_eq_true h2
   obtain ⟨n,rfl⟩:=zAC (by omega:0≤p)
   have hb:=(lD n (by omega)).2.2.2.2.2
   rw [d1,d2,zAD,show 2 ^ (6 - 6)=1 by rfl]
   by_cases hq:n / 1 % 2=1
   ·rw [if_pos hq] at hb
    have HQ:=zAA hq
    clear hq h1 h2
    go_enter Tryz.func174,Tryz.ntmps174
    go_wp2
    go_ret
    rw [HQ.out]
    exact ⟨rfl,(Below.refl _ _).alloc (zAB _) _⟩
   ·rw [if_neg hq] at hb
    have HQ:=zAA (show (n / 1 % 2==1)=false by simpa using hq)
    clear hq h1 h2
    go_enter Tryz.func174,Tryz.ntmps174
    go_wp2
    go_ret
    rw [HQ.out]
    exact ⟨rfl,(Below.refl _ _).alloc (zAB _) _⟩
  ·have d2:decide (p≤63)=false:=decide_eq_false h2
   rw [d1,d2]
   clear h1 h2
   go_enter Tryz.func174,Tryz.ntmps174
   go_wp2
   go_ret
   exact ⟨rfl,(Below.refl _ _).alloc (zAB _) _⟩
 ·have d1:decide (1≤p)=false:=decide_eq_false h1
  rw [d1]
  clear h1
  go_enter Tryz.func174,Tryz.ntmps174
  go_wp2
  go_ret
  exact ⟨rfl,(Below.refl _ _).alloc (zAB _) _⟩
theorem zp (p:Int) (j:Nat) (hj:j<6) (w:World):Calls Tryz.prog 174 #[.int .i64 p,.int .i64 ((j:Int)+1)] w fun e w'=>e= .returned (.bool (fZ p (j+1)))∧Below w.heap.size w w':=by
 have h:j=0∨j=1∨j=2∨j=3∨j=4∨j=5:=by omega
 rcases h with rfl|rfl|rfl|rfl|rfl|rfl
 ·exact xG p w
 ·exact xH p w
 ·exact xI p w
 ·exact xJ p w
 ·exact xK p w
 ·exact xL p w
theorem oW (p:Int) (w:World):Calls Tryz.prog 127 #[.int .i64 p] w fun e w'=>e= .returned (.int .i64 (cI p:Nat))∧Below w.heap.size w w':=by
 rw [←IQ]
 go_enter Tryz.func127,Tryz.ntmps127
 go_wp2_with fail
 go_loopg [2,4] 6 (fun g v2 v4=>fun wr=>∃j:Nat,j+g=6∧v2= .int .i64 (mZ p j:Nat)∧v4= .int .i64 (j:Int)∧mZ p j≤j∧Below w.heap.size w wr)
 case atStart=>exact ⟨0,by omega,rfl,rfl,by simp [mZ],Below.refl _ _⟩
 case round=>
  obtain ⟨j,hj,rfl,rfl,hle,hb⟩:=hrel
  cases gk with
  |zero=>
   obtain rfl:j=6:=by omega
   have hlt:¬(((6:Nat):Int)<6):=by omega
   go_wp2_with fail
   go_ret
   exact ⟨rfl,hb⟩
  |succ g=>
   have hlt:((j:Int)<6):=by omega
   have hj6:j<6:=by omega
   have CH:=zAA (zp p j hj6 wr)
   have hs:mZ p (j+1)=mZ p j+(if fZ p (j+1) then 1 else 0):=rfl
   have HB:=zAA hb
   obtain ⟨q,hq⟩:∃q,mZ p j=q:=⟨_,rfl⟩
   rw [hq] at hs hle⊢
   clear hb hq
   by_cases hh:fZ p (j+1)=true
   ·rw [hh] at CH hs
    have HSS:=zAA hs
    clear hs hh
    go_wp2_with (go_at_call 174;refine CH.out.mono ?_;rintro e w2 ⟨rfl,hb2⟩;have HB2:=zAA hb2;clear hb2)
    go_roundg g
    case measure=>omega
    case rel=>exact ⟨j+1,by omega,by rw [HSS.out];simp,by simp,by rw [HSS.out];simp;omega,HB.out.trans (HB2.out.mono HB.out.size)⟩
   ·have hh:fZ p (j+1)=false:=by simpa using hh
    rw [hh] at CH hs
    have HSS:=zAA hs
    clear hs hh
    go_wp2_with (go_at_call 174;refine CH.out.mono ?_;rintro e w2 ⟨rfl,hb2⟩;have HB2:=zAA hb2;clear hb2)
    go_roundg g
    case measure=>omega
    case rel=>exact ⟨j+1,by omega,by rw [HSS.out];simp,by simp,by rw [HSS.out];simp;omega,HB.out.trans (HB2.out.mono HB.out.size)⟩
end Go.Proofs.YthhijgcfbjcgiaaGreatDoor
