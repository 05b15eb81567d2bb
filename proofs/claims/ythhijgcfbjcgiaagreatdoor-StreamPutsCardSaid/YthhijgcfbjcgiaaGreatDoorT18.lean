/- PfxT, Apps, Vec, PatC -/
import Derived.Test.YthhijgcfbjcgiaaGreatDoorT17
import Derived.Test.YthhijgcfbjcgiaaGreatDoorT02
namespace Go.Proofs.YthhijgcfbjcgiaaGreatDoor
section
open Go Go.RowKit Go.Maps
open List renaming length→O
open Go.Value renaming slice→U,pointer→X,string→J
open Go.Ending renaming returned→Z
open Go.IntKind renaming i64→V
open Tryz renaming prog→Y
theorem aO {a:ByteArray}{l:List UInt8}(h:a=bs l):Ending.returned (J a)=Z (J (bs l)):=by rw[h]
structure lK (cs:List (List UInt8)) (ns:List Int):Prop where
 ok:oS 24 (fw cs ns) 0 (cs.zip ns)=true
 wf:Bx (fw cs ns)=true
 put:(fK [b9] cs ns).isSome=true
 code:cs.all cM=true
 len:O ns=O cs
 pos:1<=O cs
 le:O cs<=300
 num:ns.all (λk=>(Lit.int V k).wf)=true
 has:0<(fw cs ns).length
theorem ob:lK aD aN:=⟨Hi,Hj,FV,mL,by kernel_rfl,by decide,by decide,by kernel_rfl,of_decide_eq_true (by kernel_rfl)⟩
theorem vp:lK ao au:=⟨JG,JH,IR,Go.Proofs.YthhijgcfbjcgiaaGreatDoor.vec_code,by kernel_rfl,by decide,by decide,by kernel_rfl,of_decide_eq_true (by kernel_rfl)⟩
theorem pG:lK bm bO:=⟨Jz,JA,Ii,ru,by kernel_rfl,by decide,by decide,by kernel_rfl,of_decide_eq_true (by kernel_rfl)⟩
def rc (cs:List (List UInt8)) (ns:List Int) (w:World) (e:Ending) (w':World):Prop:=∃base T,e=Z (X (some ⟨T,0,none⟩))/\ey w' base T (fw cs ns) (pu cs ns) (O cs)/\Below w.heap.size w w'
theorem pq {cs:List (List UInt8)}{ns:List Int}(h:lK cs ns)(A B:Option Addr)(c d:Nat)(w:World)(j:Sl w A (cs.map aR))(C:Sl w B (ns.map aH)):Calls Y 201 #[U A (O cs) c,U B (O cs) d] w (Dz cs ns w):=
 zA A B (O cs) c d cs ns w j C rfl h.len h.pos h.le h.code h.put h.num
theorem ri {cs:List (List UInt8)}{ns:List Int}(h:lK cs ns)(w:World)(base T:Nat)(D:ey w base T (fw cs ns) (pu cs ns) (O cs))(A:Option Addr)(n c:Nat)(l:List UInt8)(i:Int)(C:Sl w A (l.map ag))(B:O l=n)(hsz:n<=2 ^ 47)(G: -9223372036854775808<=i/\i<=9223372036854775807):
  Calls Y 275 #[X (some ⟨T,0,none⟩),U A n c,.int V i] w λe w'=>e=Z (.tuple #[.int V (ac cs ns l i).1,.int V (ac cs ns l i).2.1,.int V (ac cs ns l i).2.2])/\Below w.heap.size w w':=by
 have I:(if i<0 then((0,0,3):Int×Int×Int) else fO (fw cs ns) 0 (aI l i.toNat (8*n - i.toNat)) 0)=ac cs ns l i:=by
  by_cases j:i<0
  ·unfold ac;rw[if_pos j,if_pos j]
  ·obtain⟨k,rfl⟩:=Int.eq_ofNat_of_zero_le (by omega:0<=i)
   rw[if_neg j,<-B,Int.toNat_natCast];exact Fa _ _ _ h.ok h.len.symm l k
 have:=Ct w base T _ _ _ D (by have:=h.pos;omega) h.wf h.has A n c l i C B hsz G;rw[I] at this;exact this
theorem xV {cs:List (List UInt8)}{ns:List Int}(h:lK cs ns)(w:World)(base T:Nat)(B:ey w base T (fw cs ns) (pu cs ns) (O cs))(num:Int)(j:(Lit.int V num).wf=true):
  Calls Y 158 #[X (some ⟨T,0,none⟩),.int V num] w λe w'=>e=Z (.tuple #[J (bs ((cK cs ns num).getD [])),.int V (if (cK cs ns num).isSome then 0 else 18)])/\Below w.heap.size w w':=
 Cu w base T _ _ _ _ B (by have:=h.pos;omega) (E4 cs ns) num j
def nz (w:World) (cs:List (List UInt8)) (ns:List Int) (j B:Value) (W:World):Prop:=ay w [] [⟨w.heap.size,9,1,j,O cs,cs.map aR⟩,⟨w.heap.size,3,1,B,O ns,ns.map aH⟩] W
theorem E7 (w:World):nz w [] [] (U none 0 0) (U none 0 0) w:=fT (fT (lz w) _ _ _) _ _ _
theorem mY (c:List UInt8):∀u∈[aR c],u.oneCell'=true:=by intro u j;simp at j;subst j;rfl
theorem n8 (k:Int):∀u∈[aH k],u.oneCell'=true:=by intro u j;simp at j;subst j;rfl
theorem Bw {w W:World}{cs:List (List UInt8)}{ns:List Int}{D G:Value}(h:nz w cs ns D G W)(I:0<O cs)(h2:O ns=O cs):∃A B c d,D=U A (O cs) c/\G=U B (O cs) d/\Sl W A (cs.map aR)/\Sl W B (ns.map aH)/\Below w.heap.size w W:=by
 obtain⟨K,c1,j,_⟩:=jl h.2.2.head I;obtain⟨M,c2,C,_⟩:=jl h.2.2.tail.head (show 0<(O ns) by omega);dsimp only at j C;subst j C;exact⟨_,_,_,_,rfl,by rw[h2],fG h.2.2.head,fG h.2.2.tail.head,h.1⟩
end
open Go Go.RowKit
set_option maxHeartbeats 16000000
set_option maxRecDepth 100000
open Tryz renaming prog→O,ntmps205→X,func205→J,ntmps174→OA,func174→OD,ntmps241→OE,func241→OF,ntmps159→OJ,func159→OK,ntmps204→OQ,func204→OR
open Go.Value renaming string→U,int→Y,slice→OH,agg→OM,bool→OP,tuple→OS
open Go.Ending renaming returned→Z
open Go.IntKind renaming i64→V
open Go.Lib renaming hid→OB
open Nat renaming le_refl→OC
open Int renaming eq_ofNat_of_zero_le→OG,toNat_natCast→OI
open List renaming length→OL,length_take→ON,map_append→OO,map_cons→OT,map_nil→OU
theorem pf {w W j:World}{L:List aM}{R:List a9}{base e size n m:Nat}{v D:Value}{xs G:List Value}(B:ay w L (⟨base,e,size,v,n,xs⟩::R) W)(C:W.grownBy j v.ownBlock)(N:j.ownsRow base e size D m G)
  (M:w.heap.size<=base) (I:∀p∈L,p.2.1≠e\/p.1<base) (K:∀r∈R,r.e≠e):ay w L (⟨base,e,size,D,m,G⟩::R) j/\∀g t cs,ab W g t cs->t≠e->ab j g t cs:=
 ⟨nU B C N M I K,λ_ _ _ h ht=>h.grown C (ba B.2.2.head h (Ne.symm ht))⟩
section
variable {P:Program} {t e size bytes:Nat} {w W:World} {L:List aM} {R:List a9} {base n:Nat} {m:Nat} {v:Value} {xs news:List Value} {nb c:Nat}
theorem jo (et:eU P t e size bytes){j:List (Option Tmp)}{E:Act->World->Prop}{S:World->Prop}{r:eP}{tmps:Array Value}{defers:List Deferred}{o:Oper}{d:Nat}{s x:Operand}(hd:o.dst=some d)(hw:bu o j tmps=true)
  (ho:o.op= .call {callee:= .builtin .append,args:= #[s,x],argTypes:= #[t,t]}) (hs:Act.eval ⟨tmps,defers⟩ s=v) (M:ay w L (⟨base,e,size,v,n,xs⟩::R) W) (hx:Act.eval ⟨tmps,defers⟩ x=OH (some ⟨nb,0,none⟩) m c) (N:ab W nb e news.toArray)
  (hl:OL news=m*size) (h1:∀u∈news,u.oneCell'=true) (hb:(n+m)*bytes<=140737488355328) (C:w.heap.size<=base/\base<=W.heap.size) (hL:∀p∈L,p.2.1≠e\/p.1<base) (hR:∀r∈R,r.e≠e)
  (h:∀I D,ay w L (⟨base,e,size,I,n+m,xs++news⟩::R) D->(∀g t cs,ab W g t cs->t≠e->ab D g t cs)->(∀B,KeepsFrom B W D)->S D/\cg P j E r S ⟨tmps.setIfInBounds d I,defers⟩ D):
  ko P j o (λa' w'=>∃K:World->Prop,(∀w,K w->S w)/\K w'/\cg P j E r K a' w') ⟨tmps,defers⟩ W:=by
 obtain⟨I,w',G,h2,T,h4⟩:=nK et o.type (c:=c) M.2.2.head hl (by have:=ab.sl N 0;simpa using this) h1 hb C.2;obtain⟨h5,h6⟩:=pf M T h2 C.1 hL hR;obtain⟨h7,h8⟩:=h I w' h5 h6 (λB=>iq (KeepsFrom.refl B W) T (gH M.2.2.head));refine aj (v:=I) (w':=w') hd hw ?_ h7 h8;unfold execOp;simp only[ho,resolve,invoke,builtin,Sem.run_bind,Sem.run_pure,Result.andThen_ok,List.map_toArray,OT,OU,hs,hx,G]
theorem hU (et:eU P t e size bytes){G:Array Oper}{Q:Exit->Act->World->Prop}{C:List Oper}{o:Oper}{a:Act}(M:o.guard=none){s x:Operand}
  (ho:o.op= .call {callee:= .builtin .append,args:= #[s,x],argTypes:= #[t,t]}) (hs:a.eval s=v) (K:ay w L (⟨base,e,size,v,n,xs⟩::R) W) (hx:a.eval x=OH (some ⟨nb,0,none⟩) m c) (N:ab W nb e news.toArray)
  (hl:OL news=m*size) (h1:∀u∈news,u.oneCell'=true) (hb:(n+m)*bytes<=140737488355328) (j:w.heap.size<=base/\base<=W.heap.size) (hL:∀p∈L,p.2.1≠e\/p.1<base) (hR:∀r∈R,r.e≠e)
  (h:∀I D,ay w L (⟨base,e,size,I,n+m,xs++news⟩::R) D->(∀g t cs,ab W g t cs->t≠e->ab D g t cs)->(∀B,KeepsFrom B W D)->wpList P G Q C (a.put o.dst I) D):wpList P G Q (o::C) a W:=by
 refine dA et M ho hs K.2.2.head hx hl (by have:=ab.sl N 0;simpa using this) h1 hb j.2 (λI D h2 T _=>?_);obtain⟨h5,h6⟩:=pf K T h2 j.1 hL hR;exact h I D h5 h6 (λB=>iq (KeepsFrom.refl B W) T (gH K.2.2.head))
end
theorem iK {w W:World}{p q:aM}{L:List aM}{R:List a9}(j:ay w (p::q::L) R W):ay w (q::p::L) R W:=
 ⟨j.1,λr B=>j.2.1 r (by simp at B⊢;rcases B with h|h|h;exact .inr (.inl h);exact .inl h;exact .inr (.inr h)),j.2.2⟩
theorem dt {B:Nat}{A W j:World}(h:KeepsFrom B A W)(k:KeepsFrom B W j):KeepsFrom B A j:=h.trans k
def mZ (h:Nat) (j B:Value):List aM:=[(h,138,#[j]),(h+1,61,#[B])]
def m7 (h:Nat) (cs:List (List UInt8)) (ns:List Int) (j:Nat) (B C:Value):List a9:=[⟨h,9,1,B,j,(cs.take j).map aR⟩,⟨h,3,1,C,j,(ns.take j).map aH⟩]
def Bv (v:Value):Prop:=∃A n c,v=OH A n c
theorem oI {w W G:World}{cs:List (List UInt8)}{ns:List Int}{j n1 n2 c1 c2:Nat}{c:List UInt8}{k:Int}{C D:Option Addr}{T o2:Value}{R:List a9}
  (M:ay w [(w.heap.size,138,#[T]),(w.heap.size+1,61,#[o2])] (⟨w.heap.size,3,1,OH D n2 c2,j+1,(ns.take j).map aH++[aH k]⟩::⟨w.heap.size,9,1,OH C n1 c1,j+1,(cs.take j).map aR++[aR c]⟩::R) G) (N:∀B,KeepsFrom B W G) (B:Nat)
  (I:cs.take (j+1)=cs.take j++[c]) (h2:ns.take (j+1)=ns.take j++[k]) (K:R=[]):
  KeepsFrom B W ((G.setCell ⟨w.heap.size,0,none⟩ (OH C n1 c1)).setCell ⟨w.heap.size+1,0,none⟩ (OH D n2 c2))/\
  ay w (mZ w.heap.size (OH C n1 c1) (OH D n2 c2)) (m7 w.heap.size cs ns (j+1) (OH C n1 c1) (OH D n2 c2)) ((G.setCell ⟨w.heap.size,0,none⟩ (OH C n1 c1)).setCell ⟨w.heap.size+1,0,none⟩ (OH D n2 c2)):=by
 subst K;refine⟨aq (aq (N B) _ _) _ _,?_⟩;unfold mZ m7;rw[I,h2,OO,OO];exact dR (iK (gL (iK (gL M (OC _) 0 (OH C n1 c1) (by simp) (by simp))) (Nat.le_succ _) 0 (OH D n2 c2) (by simp) (by simp)))
theorem GN {w W:World}{L:List aM}{K M:Nat}{cs:List (List UInt8)}{ns:List Int}{G I:Value}(h:ay w L [⟨K,9,1,G,OL cs,cs.map aR⟩,⟨M,3,1,I,OL cs,ns.map aH⟩] W)(D:0<OL cs):∃A B c d,G=OH A (OL cs) c/\I=OH B (OL cs) d/\Sl W A (cs.map aR)/\Sl W B (ns.map aH)/\Below w.heap.size w W:=by
 obtain⟨N,c1,j,_⟩:=jl h.2.2.head D;obtain⟨T,c2,C,_⟩:=jl h.2.2.tail.head D;dsimp only at j C;subst j C;exact⟨_,_,_,_,rfl,rfl,fG h.2.2.head,fG h.2.2.tail.head,h.1⟩
theorem ve (w:World):Calls O 241 #[Y V 1] w λe w'=>e=Z (U (bs [48,49]))/\w=w':=by
 go_enter OF,OE
 go_wp2
 go_ret;exact⟨aO (by kernel_rfl),rfl⟩
theorem vf (w:World):Calls O 241 #[Y V 2] w λe w'=>e=Z (U (bs [48,48,49]))/\w=w':=by
 go_enter OF,OE
 go_wp2
 go_ret;exact⟨aO (by kernel_rfl),rfl⟩
theorem vg (w:World):Calls O 241 #[Y V 3] w λe w'=>e=Z (U (bs [48,48,48,49]))/\w=w':=by
 go_enter OF,OE
 go_wp2
 go_ret;exact⟨aO (by kernel_rfl),rfl⟩
theorem vh (w:World):Calls O 241 #[Y V 4] w λe w'=>e=Z (U (bs [48,48,48,48,49,49]))/\w=w':=by
 go_enter OF,OE
 go_wp2
 go_ret;exact⟨aO (by kernel_rfl),rfl⟩
theorem vj (w:World):Calls O 241 #[Y V 5] w λe w'=>e=Z (U (bs [48,48,48,48,49,48,49]))/\w=w':=by
 have j:∀W:World,(Instr.index 289 (OM #[U ⟨#[49,48,49]⟩,U ⟨#[49,48,48]⟩,U ⟨#[48,49,49]⟩]) (Y V 0)).run O W= .ok (U ⟨#[49,48,49]⟩) W:= λ_=>by kernel_rfl
 go_enter OF,OE
 go_wp2
 go_ret;exact⟨aO (by kernel_rfl),rfl⟩
theorem vk (w:World):Calls O 241 #[Y V 6] w λe w'=>e=Z (U (bs [48,48,48,48,49,48,48]))/\w=w':=by
 have j:∀W:World,(Instr.index 289 (OM #[U ⟨#[49,48,49]⟩,U ⟨#[49,48,48]⟩,U ⟨#[48,49,49]⟩]) (Y V 1)).run O W= .ok (U ⟨#[49,48,48]⟩) W:= λ_=>by kernel_rfl
 go_enter OF,OE
 go_wp2
 go_ret;exact⟨aO (by kernel_rfl),rfl⟩
theorem vl (w:World):Calls O 241 #[Y V 7] w λe w'=>e=Z (U (bs [48,48,48,48,48,49,49]))/\w=w':=by
 have j:∀W:World,(Instr.index 289 (OM #[U ⟨#[49,48,49]⟩,U ⟨#[49,48,48]⟩,U ⟨#[48,49,49]⟩]) (Y V 2)).run O W= .ok (U ⟨#[48,49,49]⟩) W:= λ_=>by kernel_rfl
 go_enter OF,OE
 go_wp2
 go_ret;exact⟨aO (by kernel_rfl),rfl⟩
theorem vm (w:World):Calls O 241 #[Y V 8] w λe w'=>e=Z (U (bs [48,48,48,48,48,49,48,49,49]))/\w=w':=by
 have j:∀W:World,(Instr.index 289 (OM #[U ⟨#[49,48,49,49]⟩,U ⟨#[49,48,49,48]⟩,U ⟨#[49,48,48,49]⟩]) (Y V 0)).run O W= .ok (U ⟨#[49,48,49,49]⟩) W:= λ_=>by kernel_rfl
 go_enter OF,OE
 go_wp2
 go_ret;exact⟨aO (by kernel_rfl),rfl⟩
theorem vo (w:World):Calls O 241 #[Y V 9] w λe w'=>e=Z (U (bs [48,48,48,48,48,49,48,49,48]))/\w=w':=by
 have j:∀W:World,(Instr.index 289 (OM #[U ⟨#[49,48,49,49]⟩,U ⟨#[49,48,49,48]⟩,U ⟨#[49,48,48,49]⟩]) (Y V 1)).run O W= .ok (U ⟨#[49,48,49,48]⟩) W:= λ_=>by kernel_rfl
 go_enter OF,OE
 go_wp2
 go_ret;exact⟨aO (by kernel_rfl),rfl⟩
theorem sN (w:World):Calls O 241 #[Y V 10] w λe w'=>e=Z (U (bs [48,48,48,48,48,49,48,48,49]))/\w=w':=by
 have j:∀W:World,(Instr.index 289 (OM #[U ⟨#[49,48,49,49]⟩,U ⟨#[49,48,49,48]⟩,U ⟨#[49,48,48,49]⟩]) (Y V 2)).run O W= .ok (U ⟨#[49,48,48,49]⟩) W:= λ_=>by kernel_rfl
 go_enter OF,OE
 go_wp2
 go_ret;exact⟨aO (by kernel_rfl),rfl⟩
theorem sO (w:World):Calls O 241 #[Y V 11] w λe w'=>e=Z (U (bs [48,48,48,48,48,49,48,48,48,49]))/\w=w':=by
 have j:∀W:World,(Instr.index 291 (OM #[U ⟨#[48,49]⟩,U ⟨#[48,48]⟩]) (Y V 0)).run O W= .ok (U ⟨#[48,49]⟩) W:= λ_=>by kernel_rfl
 go_enter OF,OE
 go_wp2
 go_ret;exact⟨aO (by kernel_rfl),rfl⟩
theorem sP (w:World):Calls O 241 #[Y V 12] w λe w'=>e=Z (U (bs [48,48,48,48,48,49,48,48,48,48]))/\w=w':=by
 have j:∀W:World,(Instr.index 291 (OM #[U ⟨#[48,49]⟩,U ⟨#[48,48]⟩]) (Y V 1)).run O W= .ok (U ⟨#[48,48]⟩) W:= λ_=>by kernel_rfl
 go_enter OF,OE
 go_wp2
 go_ret;exact⟨aO (by kernel_rfl),rfl⟩
theorem sQ (w:World):Calls O 241 #[Y V 13] w λe w'=>e=Z (U (bs [48,48,48,48,48,48,49,49,49,49]))/\w=w':=by
 have j:∀W:World,(Instr.index 290 (OM #[U ⟨#[49,49,49]⟩,U ⟨#[49,49,48]⟩,U ⟨#[49,48,49]⟩,U ⟨#[49,48,48]⟩]) (Y V 0)).run O W= .ok (U ⟨#[49,49,49]⟩) W:= λ_=>by kernel_rfl
 go_enter OF,OE
 go_wp2
 go_ret;exact⟨aO (by kernel_rfl),rfl⟩
theorem sR (w:World):Calls O 241 #[Y V 14] w λe w'=>e=Z (U (bs [48,48,48,48,48,48,49,49,49,48]))/\w=w':=by
 have j:∀W:World,(Instr.index 290 (OM #[U ⟨#[49,49,49]⟩,U ⟨#[49,49,48]⟩,U ⟨#[49,48,49]⟩,U ⟨#[49,48,48]⟩]) (Y V 1)).run O W= .ok (U ⟨#[49,49,48]⟩) W:= λ_=>by kernel_rfl
 go_enter OF,OE
 go_wp2
 go_ret;exact⟨aO (by kernel_rfl),rfl⟩
theorem sS (w:World):Calls O 241 #[Y V 15] w λe w'=>e=Z (U (bs [48,48,48,48,48,48,49,49,48,49]))/\w=w':=by
 have j:∀W:World,(Instr.index 290 (OM #[U ⟨#[49,49,49]⟩,U ⟨#[49,49,48]⟩,U ⟨#[49,48,49]⟩,U ⟨#[49,48,48]⟩]) (Y V 2)).run O W= .ok (U ⟨#[49,48,49]⟩) W:= λ_=>by kernel_rfl
 go_enter OF,OE
 go_wp2
 go_ret;exact⟨aO (by kernel_rfl),rfl⟩
theorem Do (w:World):Calls O 241 #[Y V 16] w λe w'=>e=Z (U (bs [48,48,48,48,48,48,49,49,48,48]))/\w=w':=by
 have j:∀W:World,(Instr.index 290 (OM #[U ⟨#[49,49,49]⟩,U ⟨#[49,49,48]⟩,U ⟨#[49,48,49]⟩,U ⟨#[49,48,48]⟩]) (Y V 3)).run O W= .ok (U ⟨#[49,48,48]⟩) W:= λ_=>by kernel_rfl
 go_enter OF,OE
 go_wp2
 go_ret;exact⟨aO (by kernel_rfl),rfl⟩
theorem yJ (w:World):Calls O 205 #[Y V (-16)] w λe w'=>e=Z (U (bs [48,48,48,48,48,48,49,49,48,48,49]))/\w=w':=by
 go_enter J,X
 go_wp2_with (go_at_call 241;refine(Do _).mono ?_;rintro e w' ⟨rfl,rfl⟩)
 go_ret;exact⟨aO (by kernel_rfl),rfl⟩
theorem yI (w:World):Calls O 205 #[Y V (-15)] w λe w'=>e=Z (U (bs [48,48,48,48,48,48,49,49,48,49,49]))/\w=w':=by
 go_enter J,X
 go_wp2_with (go_at_call 241;refine(sS _).mono ?_;rintro e w' ⟨rfl,rfl⟩)
 go_ret;exact⟨aO (by kernel_rfl),rfl⟩
theorem yH (w:World):Calls O 205 #[Y V (-14)] w λe w'=>e=Z (U (bs [48,48,48,48,48,48,49,49,49,48,49]))/\w=w':=by
 go_enter J,X
 go_wp2_with (go_at_call 241;refine(sR _).mono ?_;rintro e w' ⟨rfl,rfl⟩)
 go_ret;exact⟨aO (by kernel_rfl),rfl⟩
theorem yG (w:World):Calls O 205 #[Y V (-13)] w λe w'=>e=Z (U (bs [48,48,48,48,48,48,49,49,49,49,49]))/\w=w':=by
 go_enter J,X
 go_wp2_with (go_at_call 241;refine(sQ _).mono ?_;rintro e w' ⟨rfl,rfl⟩)
 go_ret;exact⟨aO (by kernel_rfl),rfl⟩
theorem yF (w:World):Calls O 205 #[Y V (-12)] w λe w'=>e=Z (U (bs [48,48,48,48,48,49,48,48,48,48,49]))/\w=w':=by
 go_enter J,X
 go_wp2_with (go_at_call 241;refine(sP _).mono ?_;rintro e w' ⟨rfl,rfl⟩)
 go_ret;exact⟨aO (by kernel_rfl),rfl⟩
theorem yE (w:World):Calls O 205 #[Y V (-11)] w λe w'=>e=Z (U (bs [48,48,48,48,48,49,48,48,48,49,49]))/\w=w':=by
 go_enter J,X
 go_wp2_with (go_at_call 241;refine(sO _).mono ?_;rintro e w' ⟨rfl,rfl⟩)
 go_ret;exact⟨aO (by kernel_rfl),rfl⟩
theorem yD (w:World):Calls O 205 #[Y V (-10)] w λe w'=>e=Z (U (bs [48,48,48,48,48,49,48,48,49,49]))/\w=w':=by
 go_enter J,X
 go_wp2_with (go_at_call 241;refine(sN _).mono ?_;rintro e w' ⟨rfl,rfl⟩)
 go_ret;exact⟨aO (by kernel_rfl),rfl⟩
theorem Ag (w:World):Calls O 205 #[Y V (-9)] w λe w'=>e=Z (U (bs [48,48,48,48,48,49,48,49,48,49]))/\w=w':=by
 go_enter J,X
 go_wp2_with (go_at_call 241;refine(vo _).mono ?_;rintro e w' ⟨rfl,rfl⟩)
 go_ret;exact⟨aO (by kernel_rfl),rfl⟩
theorem Af (w:World):Calls O 205 #[Y V (-8)] w λe w'=>e=Z (U (bs [48,48,48,48,48,49,48,49,49,49]))/\w=w':=by
 go_enter J,X
 go_wp2_with (go_at_call 241;refine(vm _).mono ?_;rintro e w' ⟨rfl,rfl⟩)
 go_ret;exact⟨aO (by kernel_rfl),rfl⟩
theorem Ae (w:World):Calls O 205 #[Y V (-7)] w λe w'=>e=Z (U (bs [48,48,48,48,48,49,49,49]))/\w=w':=by
 go_enter J,X
 go_wp2_with (go_at_call 241;refine(vl _).mono ?_;rintro e w' ⟨rfl,rfl⟩)
 go_ret;exact⟨aO (by kernel_rfl),rfl⟩
theorem Ad (w:World):Calls O 205 #[Y V (-6)] w λe w'=>e=Z (U (bs [48,48,48,48,49,48,48,49]))/\w=w':=by
 go_enter J,X
 go_wp2_with (go_at_call 241;refine(vk _).mono ?_;rintro e w' ⟨rfl,rfl⟩)
 go_ret;exact⟨aO (by kernel_rfl),rfl⟩
theorem Ac (w:World):Calls O 205 #[Y V (-5)] w λe w'=>e=Z (U (bs [48,48,48,48,49,48,49,49]))/\w=w':=by
 go_enter J,X
 go_wp2_with (go_at_call 241;refine(vj _).mono ?_;rintro e w' ⟨rfl,rfl⟩)
 go_ret;exact⟨aO (by kernel_rfl),rfl⟩
theorem Ab (w:World):Calls O 205 #[Y V (-4)] w λe w'=>e=Z (U (bs [48,48,48,48,49,49,49]))/\w=w':=by
 go_enter J,X
 go_wp2_with (go_at_call 241;refine(vh _).mono ?_;rintro e w' ⟨rfl,rfl⟩)
 go_ret;exact⟨aO (by kernel_rfl),rfl⟩
theorem Aa (w:World):Calls O 205 #[Y V (-3)] w λe w'=>e=Z (U (bs [48,48,48,49,49]))/\w=w':=by
 go_enter J,X
 go_wp2_with (go_at_call 241;refine(vg _).mono ?_;rintro e w' ⟨rfl,rfl⟩)
 go_ret;exact⟨aO (by kernel_rfl),rfl⟩
theorem zZ (w:World):Calls O 205 #[Y V (-2)] w λe w'=>e=Z (U (bs [48,48,49,49]))/\w=w':=by
 go_enter J,X
 go_wp2_with (go_at_call 241;refine(vf _).mono ?_;rintro e w' ⟨rfl,rfl⟩)
 go_ret;exact⟨aO (by kernel_rfl),rfl⟩
theorem zY (w:World):Calls O 205 #[Y V (-1)] w λe w'=>e=Z (U (bs [48,49,49]))/\w=w':=by
 go_enter J,X
 go_wp2_with (go_at_call 241;refine(ve _).mono ?_;rintro e w' ⟨rfl,rfl⟩)
 go_ret;exact⟨aO (by kernel_rfl),rfl⟩
theorem Ah (w:World):Calls O 205 #[Y V 0] w λe w'=>e=Z (U (bs [49]))/\w=w':=by
 go_enter J,X
 go_wp2_with fail
 go_ret;exact⟨aO (by kernel_rfl),rfl⟩
theorem Ai (w:World):Calls O 205 #[Y V 1] w λe w'=>e=Z (U (bs [48,49,48]))/\w=w':=by
 go_enter J,X
 go_wp2_with (go_at_call 241;refine(ve _).mono ?_;rintro e w' ⟨rfl,rfl⟩)
 go_ret;exact⟨aO (by kernel_rfl),rfl⟩
theorem Ak (w:World):Calls O 205 #[Y V 2] w λe w'=>e=Z (U (bs [48,48,49,48]))/\w=w':=by
 go_enter J,X
 go_wp2_with (go_at_call 241;refine(vf _).mono ?_;rintro e w' ⟨rfl,rfl⟩)
 go_ret;exact⟨aO (by kernel_rfl),rfl⟩
theorem An (w:World):Calls O 205 #[Y V 3] w λe w'=>e=Z (U (bs [48,48,48,49,48]))/\w=w':=by
 go_enter J,X
 go_wp2_with (go_at_call 241;refine(vg _).mono ?_;rintro e w' ⟨rfl,rfl⟩)
 go_ret;exact⟨aO (by kernel_rfl),rfl⟩
theorem Ao (w:World):Calls O 205 #[Y V 4] w λe w'=>e=Z (U (bs [48,48,48,48,49,49,48]))/\w=w':=by
 go_enter J,X
 go_wp2_with (go_at_call 241;refine(vh _).mono ?_;rintro e w' ⟨rfl,rfl⟩)
 go_ret;exact⟨aO (by kernel_rfl),rfl⟩
theorem Ap (w:World):Calls O 205 #[Y V 5] w λe w'=>e=Z (U (bs [48,48,48,48,49,48,49,48]))/\w=w':=by
 go_enter J,X
 go_wp2_with (go_at_call 241;refine(vj _).mono ?_;rintro e w' ⟨rfl,rfl⟩)
 go_ret;exact⟨aO (by kernel_rfl),rfl⟩
theorem Aq (w:World):Calls O 205 #[Y V 6] w λe w'=>e=Z (U (bs [48,48,48,48,49,48,48,48]))/\w=w':=by
 go_enter J,X
 go_wp2_with (go_at_call 241;refine(vk _).mono ?_;rintro e w' ⟨rfl,rfl⟩)
 go_ret;exact⟨aO (by kernel_rfl),rfl⟩
theorem Ar (w:World):Calls O 205 #[Y V 7] w λe w'=>e=Z (U (bs [48,48,48,48,48,49,49,48]))/\w=w':=by
 go_enter J,X
 go_wp2_with (go_at_call 241;refine(vl _).mono ?_;rintro e w' ⟨rfl,rfl⟩)
 go_ret;exact⟨aO (by kernel_rfl),rfl⟩
theorem Au (w:World):Calls O 205 #[Y V 8] w λe w'=>e=Z (U (bs [48,48,48,48,48,49,48,49,49,48]))/\w=w':=by
 go_enter J,X
 go_wp2_with (go_at_call 241;refine(vm _).mono ?_;rintro e w' ⟨rfl,rfl⟩)
 go_ret;exact⟨aO (by kernel_rfl),rfl⟩
theorem Aw (w:World):Calls O 205 #[Y V 9] w λe w'=>e=Z (U (bs [48,48,48,48,48,49,48,49,48,48]))/\w=w':=by
 go_enter J,X
 go_wp2_with (go_at_call 241;refine(vo _).mono ?_;rintro e w' ⟨rfl,rfl⟩)
 go_ret;exact⟨aO (by kernel_rfl),rfl⟩
theorem yK (w:World):Calls O 205 #[Y V 10] w λe w'=>e=Z (U (bs [48,48,48,48,48,49,48,48,49,48]))/\w=w':=by
 go_enter J,X
 go_wp2_with (go_at_call 241;refine(sN _).mono ?_;rintro e w' ⟨rfl,rfl⟩)
 go_ret;exact⟨aO (by kernel_rfl),rfl⟩
theorem yL (w:World):Calls O 205 #[Y V 11] w λe w'=>e=Z (U (bs [48,48,48,48,48,49,48,48,48,49,48]))/\w=w':=by
 go_enter J,X
 go_wp2_with (go_at_call 241;refine(sO _).mono ?_;rintro e w' ⟨rfl,rfl⟩)
 go_ret;exact⟨aO (by kernel_rfl),rfl⟩
theorem yM (w:World):Calls O 205 #[Y V 12] w λe w'=>e=Z (U (bs [48,48,48,48,48,49,48,48,48,48,48]))/\w=w':=by
 go_enter J,X
 go_wp2_with (go_at_call 241;refine(sP _).mono ?_;rintro e w' ⟨rfl,rfl⟩)
 go_ret;exact⟨aO (by kernel_rfl),rfl⟩
theorem yN (w:World):Calls O 205 #[Y V 13] w λe w'=>e=Z (U (bs [48,48,48,48,48,48,49,49,49,49,48]))/\w=w':=by
 go_enter J,X
 go_wp2_with (go_at_call 241;refine(sQ _).mono ?_;rintro e w' ⟨rfl,rfl⟩)
 go_ret;exact⟨aO (by kernel_rfl),rfl⟩
theorem yO (w:World):Calls O 205 #[Y V 14] w λe w'=>e=Z (U (bs [48,48,48,48,48,48,49,49,49,48,48]))/\w=w':=by
 go_enter J,X
 go_wp2_with (go_at_call 241;refine(sR _).mono ?_;rintro e w' ⟨rfl,rfl⟩)
 go_ret;exact⟨aO (by kernel_rfl),rfl⟩
theorem yP (w:World):Calls O 205 #[Y V 15] w λe w'=>e=Z (U (bs [48,48,48,48,48,48,49,49,48,49,48]))/\w=w':=by
 go_enter J,X
 go_wp2_with (go_at_call 241;refine(sS _).mono ?_;rintro e w' ⟨rfl,rfl⟩)
 go_ret;exact⟨aO (by kernel_rfl),rfl⟩
theorem qZ (d:Int)(j: -16<=d)(h2:d<=15)(w:World):Calls O 205 #[Y V d] w λe w'=>e=Z (U (bs (cf d)))/\w=w':=by
 have h:d=(-16)\/d=(-15)\/d=(-14)\/d=(-13)\/d=(-12)\/d=(-11)\/d=(-10)\/d=(-9)\/d=(-8)\/d=(-7)\/d=(-6)\/d=(-5)\/d=(-4)\/d=(-3)\/d=(-2)\/d=(-1)\/d=0\/d=1\/d=2\/d=3\/d=4\/d=5\/d=6\/d=7\/d=8\/d=9\/d=10\/d=11\/d=12\/d=13\/d=14\/d=15:=by omega
 rcases h with rfl|rfl|rfl|rfl|rfl|rfl|rfl|rfl|rfl|rfl|rfl|rfl|rfl|rfl|rfl|rfl|rfl|rfl|rfl|rfl|rfl|rfl|rfl|rfl|rfl|rfl|rfl|rfl|rfl|rfl|rfl|rfl
 ·rw[show cf (-16)=[48,48,48,48,48,48,49,49,48,48,49] by kernel_rfl];exact yJ w
 ·rw[show cf (-15)=[48,48,48,48,48,48,49,49,48,49,49] by kernel_rfl];exact yI w
 ·rw[show cf (-14)=[48,48,48,48,48,48,49,49,49,48,49] by kernel_rfl];exact yH w
 ·rw[show cf (-13)=[48,48,48,48,48,48,49,49,49,49,49] by kernel_rfl];exact yG w
 ·rw[show cf (-12)=[48,48,48,48,48,49,48,48,48,48,49] by kernel_rfl];exact yF w
 ·rw[show cf (-11)=[48,48,48,48,48,49,48,48,48,49,49] by kernel_rfl];exact yE w
 ·rw[show cf (-10)=[48,48,48,48,48,49,48,48,49,49] by kernel_rfl];exact yD w
 ·rw[show cf (-9)=[48,48,48,48,48,49,48,49,48,49] by kernel_rfl];exact Ag w
 ·rw[show cf (-8)=[48,48,48,48,48,49,48,49,49,49] by kernel_rfl];exact Af w
 ·rw[show cf (-7)=[48,48,48,48,48,49,49,49] by kernel_rfl];exact Ae w
 ·rw[show cf (-6)=[48,48,48,48,49,48,48,49] by kernel_rfl];exact Ad w
 ·rw[show cf (-5)=[48,48,48,48,49,48,49,49] by kernel_rfl];exact Ac w
 ·rw[show cf (-4)=[48,48,48,48,49,49,49] by kernel_rfl];exact Ab w
 ·rw[show cf (-3)=[48,48,48,49,49] by kernel_rfl];exact Aa w
 ·rw[show cf (-2)=[48,48,49,49] by kernel_rfl];exact zZ w
 ·rw[show cf (-1)=[48,49,49] by kernel_rfl];exact zY w
 ·rw[show cf 0=[49] by kernel_rfl];exact Ah w
 ·rw[show cf 1=[48,49,48] by kernel_rfl];exact Ai w
 ·rw[show cf 2=[48,48,49,48] by kernel_rfl];exact Ak w
 ·rw[show cf 3=[48,48,48,49,48] by kernel_rfl];exact An w
 ·rw[show cf 4=[48,48,48,48,49,49,48] by kernel_rfl];exact Ao w
 ·rw[show cf 5=[48,48,48,48,49,48,49,48] by kernel_rfl];exact Ap w
 ·rw[show cf 6=[48,48,48,48,49,48,48,48] by kernel_rfl];exact Aq w
 ·rw[show cf 7=[48,48,48,48,48,49,49,48] by kernel_rfl];exact Ar w
 ·rw[show cf 8=[48,48,48,48,48,49,48,49,49,48] by kernel_rfl];exact Au w
 ·rw[show cf 9=[48,48,48,48,48,49,48,49,48,48] by kernel_rfl];exact Aw w
 ·rw[show cf 10=[48,48,48,48,48,49,48,48,49,48] by kernel_rfl];exact yK w
 ·rw[show cf 11=[48,48,48,48,48,49,48,48,48,49,48] by kernel_rfl];exact yL w
 ·rw[show cf 12=[48,48,48,48,48,49,48,48,48,48,48] by kernel_rfl];exact yM w
 ·rw[show cf 13=[48,48,48,48,48,48,49,49,49,49,48] by kernel_rfl];exact yN w
 ·rw[show cf 14=[48,48,48,48,48,48,49,49,49,48,48] by kernel_rfl];exact yO w
 ·rw[show cf 15=[48,48,48,48,48,48,49,49,48,49,48] by kernel_rfl];exact yP w
theorem fa (n:Int)(w:World):Calls O 204 #[Y V n] w λe w'=>e=Z (OP (aA n))/\w=w':=by
 by_cases a: -15<=n
 ·have a1:decide (-15<=n)=true:=decide_eq_true a
  by_cases b:n<=15
  ·have B:decide (n<=15)=true:=decide_eq_true b
   have j:aA n=true:=(by simp[aA,a,b]);rw[j];clear j
   go_enter OR,OQ
   go_wp2
   go_ret;exact⟨rfl,rfl⟩
  ·have B:decide (n<=15)=false:=decide_eq_false b
   have j:aA n=false:=(by simp[aA];omega);rw[j];clear j
   go_enter OR,OQ
   go_wp2
   go_ret;exact⟨rfl,rfl⟩
 ·have a1:decide (-15<=n)=false:=decide_eq_false a
  have j:aA n=false:=(by simp[aA];omega);rw[j];clear j
  go_enter OR,OQ
  go_wp2
  go_ret;exact⟨rfl,rfl⟩
theorem Ay (j to:Int)(w:World)(B:aA j=true)(h2:aA to=true):Calls O 161 #[Y V j,Y V to] w λe w'=>e=Z (OS #[Y V (cY j to),Y V 0])/\w=w':=by
 have ⟨a1,a2⟩: -15<=j/\j<=15:=by simpa [aA] using B
 have ⟨C,D⟩: -15<=to/\to<=15:=by simpa [aA] using h2
 have G:0<=to - j+16+64:=by omega
 have hd:=OB (show cY j to=(to - j+80) % 32 - 16 from rfl)
 go_enter Tryz.func161,Tryz.ntmps161
 go_wp2_with (go_at_call 204;refine(fa _ _).mono ?_;rintro e w' ⟨rfl,rfl⟩)
 go_ret2;rw[hd.out,show to - j+80=to - j+16+64 by omega];exact⟨rfl,rfl⟩
theorem tP (ad d:Int)(had:Bool)(x y:Int)(w:World):Calls O 159 #[Y V ad,Y V d,OP had,Y V x,Y V y] w λe w'=>e=Z (OS #[Y V (cZ ad d had x y).1,Y V (cZ ad d had x y).2])/\w=w':=by
 unfold cZ;obtain⟨b,j⟩:∃b,Cg ad d had=b:=⟨_,rfl⟩;rw[j];unfold Cg at j
 cases had with
 |false=>
  simp at j;subst j
  go_enter OK,OJ
  go_wp2
  go_ret2;exact⟨rfl,rfl⟩
 |true=>
  by_cases B:d=1
  ·subst B
   by_cases h2:ad=1
   ·subst h2
    simp at j;subst j
    go_enter OK,OJ
    go_wp2
    go_ret2;exact⟨rfl,rfl⟩
   ·have D:(ad==1)=false:=beq_eq_false_iff_ne.2 h2
    by_cases G:ad=12
    ·subst G
     simp at j;subst j
     go_enter OK,OJ
     go_wp2
     go_ret2;exact⟨rfl,rfl⟩
    ·have I:(ad==12)=false:=beq_eq_false_iff_ne.2 G
     by_cases K:ad=23
     ·subst K
      simp at j;subst j
      go_enter OK,OJ
      go_wp2
      go_ret2;exact⟨rfl,rfl⟩
     ·have M:(ad==23)=false:=beq_eq_false_iff_ne.2 K
      simp[D,I,M] at j;subst j;clear h2 G K
      go_enter OK,OJ
      go_wp2
      go_ret2;exact⟨rfl,rfl⟩
  ·have C:(d !=1)=true:=bne_iff_ne.2 B
   simp[C] at j;subst j;clear B
   go_enter OK,OJ
   go_wp2
   go_ret2;exact⟨rfl,rfl⟩
theorem Dp (d:Int)(w:World)(j: -16<=d)(h2:d<=15):Calls O 162 #[Y V d] w λe w'=>e=Z (OS #[U (bs (cf d)),Y V 0])/\w=w':=by
 have C:=OB (λW=>qZ d j h2 W);have a1:decide (d< -16)=false:=decide_eq_false (by omega);have a2:decide (15<d)=false:=decide_eq_false (by omega)
 go_enter Tryz.func162,Tryz.ntmps162
 go_wp2_with (go_at_call 205;refine(C.out _).mono ?_;rintro e w' ⟨rfl,rfl⟩)
 go_ret2;exact⟨rfl,rfl⟩
theorem IP {pr d:Int}(j:aA pr=true)(h2: -16<=d)(B:d<=15):aW pr d=if aA (pr+d) then(pr+d,0) else if aA (pr+d+32) then(pr+d+32,0) else if aA (pr+d - 32) then(pr+d - 32,0) else(0,12):=by
 unfold aW;rw[j];simp[decide_eq_false (show ¬d< -16 by omega),decide_eq_false (show ¬15<d by omega)]
theorem qY (pr d:Int)(w:World)(G:aA pr=true)(h2: -16<=d)(N:d<=15):Calls O 257 #[Y V pr,Y V d] w λe w'=>e=Z (OS #[Y V (aW pr d).1,Y V (aW pr d).2])/\w=w':=by
 have D:=OB (IP G h2 N);have I:=OB (λW=>fa pr W);rw[G] at I;have M: -15<=pr/\pr<=15:=by simpa [aA] using G
 obtain⟨a1,a2⟩:=M;have T:decide (d< -16)=false:=decide_eq_false (by omega);have b2:decide (15<d)=false:=decide_eq_false (by omega);have i0:∀W:World,(Instr.index 299 (OM #[Y V 0,Y V 32,Y V (-32)]) (Y V 0)).run O W= .ok (Y V 0) W:= λ_=>by kernel_rfl
 have i1:∀W:World,(Instr.index 299 (OM #[Y V 0,Y V 32,Y V (-32)]) (Y V 1)).run O W= .ok (Y V 32) W:= λ_=>by kernel_rfl
 have i2:∀W:World,(Instr.index 299 (OM #[Y V 0,Y V 32,Y V (-32)]) (Y V 2)).run O W= .ok (Y V (-32)) W:= λ_=>by kernel_rfl
 clear G
 go_enter Tryz.func257,Tryz.ntmps257
 go_wp2_with (go_at_call 204;refine(I.out _).mono ?_;rintro e w' ⟨rfl,rfl⟩)
 go_step3
 go_wp2_with (go_at_call 204;refine(I.out _).mono ?_;rintro e w' ⟨rfl,rfl⟩)
 go_step3
 go_wp2_with fail
 go_loopg [6,7,23] 3 (λg x e i=> λwr=>∃j:Nat,j+g=3/\x=Y V 0/\e=Y V 12/\i=Y V (j:Int)/\w=wr/\Hid ((1<=j->aA (pr+d)=false)/\(2<=j->aA (pr+d+32)=false)/\(3<=j->aA (pr+d+(-32))=false)))
 case atStart=>exact⟨0,by omega,rfl,rfl,rfl,rfl,OB ⟨by omega,by omega,by omega⟩⟩
 case round=>
  obtain⟨j,hj,rfl,rfl,rfl,rfl,C⟩:=hrel;rw[show pr+d - 32=pr+d+(-32) by omega] at D;have K:j=0\/j=1\/j=2\/j=3:=(by omega);rcases K with rfl|rfl|rfl|rfl
  ·by_cases B:aA (pr+d)=true
   ·go_wp2_with (go_at_call 204;refine(fa _ _).mono ?_;rintro e w' ⟨rfl,rfl⟩)
    rw[Exit.noGoto_ret];go_ret2;rw[D.out,if_pos B];exact⟨rfl,rfl⟩
   ·have B:aA (pr+d)=false:=by simpa using B
    go_wp2_with (go_at_call 204;refine(fa _ _).mono ?_;rintro e w' ⟨rfl,rfl⟩)
    go_roundg 2
    case measure=>omega
    case rel=>exact⟨1,by omega,rfl,rfl,rfl,rfl,OB ⟨λ_=>B,by omega,by omega⟩⟩
  ·by_cases B:aA (pr+d+32)=true
   ·go_wp2_with (go_at_call 204;refine(fa _ _).mono ?_;rintro e w' ⟨rfl,rfl⟩)
    rw[Exit.noGoto_ret];go_ret2;rw[D.out,if_neg (by rw[C.out.1 (by omega)];decide),if_pos B];exact⟨rfl,rfl⟩
   ·have B:aA (pr+d+32)=false:=by simpa using B
    go_wp2_with (go_at_call 204;refine(fa _ _).mono ?_;rintro e w' ⟨rfl,rfl⟩)
    go_roundg 1
    case measure=>omega
    case rel=>exact⟨2,by omega,rfl,rfl,rfl,rfl,OB ⟨λ_=>C.out.1 (by omega),λ_=>B,by omega⟩⟩
  ·by_cases B:aA (pr+d+(-32))=true
   ·go_wp2_with (go_at_call 204;refine(fa _ _).mono ?_;rintro e w' ⟨rfl,rfl⟩)
    rw[Exit.noGoto_ret];go_ret2;rw[D.out,if_neg (by rw[C.out.1 (by omega)];decide),if_neg (by rw[C.out.2.1 (by omega)];decide),if_pos B];exact⟨rfl,rfl⟩
   ·have B:aA (pr+d+(-32))=false:=by simpa using B
    go_wp2_with (go_at_call 204;refine(fa _ _).mono ?_;rintro e w' ⟨rfl,rfl⟩)
    go_roundg 0
    case measure=>omega
    case rel=>exact⟨3,by omega,rfl,rfl,rfl,rfl,OB ⟨λ_=>C.out.1 (by omega),λ_=>C.out.2.1 (by omega),λ_=>B⟩⟩
  ·go_wp2_with fail
   rw[Exit.noGoto_ret];go_ret2;rw[D.out,if_neg (by rw[C.out.1 (by omega)];decide),if_neg (by rw[C.out.2.1 (by omega)];decide),if_neg (by rw[C.out.2.2 (by omega)];decide)];exact⟨rfl,rfl⟩
theorem Az (w:World):Calls O 276 #[] w (rc ao au w):=by
 have hc:∀j (h:j<32),ao.take (j+1)=ao.take j++[cf ((j:Int) - 16)]:=by decide+kernel
 have hn:∀j (h:j<32),au.take (j+1)=au.take j++[(j:Int) - 16]:=by decide+kernel
 have HC:=OB hc;have HN:=OB hn;clear hc hn
 go_enter Tryz.func276,Tryz.ntmps276
 go_wp2_with fail
 go_loopg [1,2,3] 32 (λg v1 v2 i=> λwr=>∃j:Nat,j+g=32/\i=Y V ((j:Int) - 16)/\Hid (nz w (ao.take j) (au.take j) v1 v2 wr))
 case atStart=>exact⟨0,by omega,rfl,OB (E7 w)⟩
 case round=>
  obtain⟨j,hj,rfl,HR⟩:=hrel
  cases gk with
  |succ g=>
   have eE:((j:Int) - 16)<16:=(by omega);have av:(ao.take j).length=j:=(by rw[ON,oJ];omega);have aJ:(au.take j).length=j:=(by rw[ON,show (OL au)=32 by kernel_rfl];omega);have C:=HR.out;unfold nz at C;rw[av,aJ] at C;obtain⟨A1,c1,e1,_⟩:=cO C.2.2.head;obtain⟨A2,c2,e2,_⟩:=cO C.2.2.tail.head;dsimp only at e1 e2;subst e1 e2;have K:=OB C;have fJ:j<=31:=(by omega);have dv:=OB hj;have cE:True:=trivial;clear av aJ C hj;obtain⟨d,hd⟩:∃d,d=(j:Int) - 16:=⟨_,rfl⟩;have dy: -16<=d:=(by omega);have dO:d<=15:=(by omega);rw[<-hd] at eE⊢;have G:=OB hd;clear hd
   go_wp2_with (first
    |(go_at_call 205;refine(qZ d dy dO _).mono ?_;rintro e w' ⟨rfl,rfl⟩)
    |(at_builtin;have _t:=cE;refine f7 jy rfl rfl 1 [aR (cf d)] rfl K.out rfl rfl (mY _) (by omega) ⟨OC _,K.out.1.size⟩ (by simp) (by simp) ?_;clear cE;intro v1 W1 M;have D:=OB M;clear M)
    |(at_builtin;refine f7 jx rfl rfl 1 [aH d] rfl (dR D.out) rfl rfl (n8 _) (by omega) ⟨OC _,D.out.1.size⟩ (by simp) (by simp) ?_;intro v2 W2 N;have cI:=OB N;clear N))
   go_roundg g
   case measure=>omega
   case rel=>
    refine⟨j+1,by have:=dv.out;omega,?_,OB ?_⟩
    ·rw[G.out];congr 1;omega
    ·unfold nz
     rw[HC.out j (by omega),HN.out j (by omega),<-G.out];simp only[List.length_append,OO,ON,oJ,show (OL au)=32 by kernel_rfl,Nat.min_eq_left (show j<=32 by omega),List.length_cons,List.length_nil,OT,OU];exact dR cI.out
  |zero=>
   obtain rfl:j=32:=by omega
   have C:=HR.out;rw[show ao.take 32=ao by kernel_rfl,show au.take 32=au by kernel_rfl] at C;obtain⟨A,B,c,d,rfl,rfl,hA,hB,hb⟩:=Bw C (by rw[oJ];decide) (by kernel_rfl);have CM:=OB (pq vp A B c d wr hA hB);have HB:=OB hb;rw[oJ] at CM⊢;clear C hA hB hb;go_wp2_with (go_at_call 201;refine CM.out.mono ?_;rintro e w' ⟨T,rfl,bM⟩;have I:=OB bM;clear bM)
   go_ret;exact⟨_,T,rfl,I.out.1,HB.out.trans (I.out.2.mono HB.out.size)⟩
theorem sU (A:Option Addr)(n c:Nat)(l:List UInt8)(i:Int)(w:World)(K:Sl w A (l.map ag))(M:OL l=n)(hsz:n<=2 ^ 47)(hi: -9223372036854775808<=i/\i<=9223372036854775807):
  Calls O 256 #[OH A n c,Y V i] w λe w'=>e=Z (OS #[Y V (ac ao au l i).1,Y V (ac ao au l i).2.1,Y V (ac ao au l i).2.2])/\Below w.heap.size w w':=by
 have N:=OB K;have Hn:=OB M;clear K M
 go_enter Tryz.func256,Tryz.ntmps256
 go_wp2_with (first
  |(go_at_call 276;refine(Az _).mono ?_;rintro e w1 ⟨base,T,rfl,D,B⟩;have I:=OB D;have j:=OB B;clear D B)
  |(go_at_call 275;refine(ri vp _ base T I.out A n c l i (N.out.below j.out) Hn.out hsz hi).mono ?_;rintro e w2 ⟨rfl,C⟩;have G:=OB C;clear C))
 go_ret3;exact⟨rfl,j.out.trans (G.out.mono j.out.size)⟩
def gC (p:Int) (k:Nat):Bool:=decide (1<=p)&&decide (p<=63)&&(p.toNat / 2 ^ (6 - k) % 2==1)
theorem lM:∀n:Nat,n<64->(bits .and V (n:Int) 32=if n / 32 % 2=1 then 32 else 0)/\(bits .and V (n:Int) 16=if n / 16 % 2=1 then 16 else 0)/\(bits .and V (n:Int) 8=if n / 8 % 2=1 then 8 else 0)/\
  (bits .and V (n:Int) 4=if n / 4 % 2=1 then 4 else 0)/\(bits .and V (n:Int) 2=if n / 2 % 2=1 then 2 else 0)/\(bits .and V (n:Int) 1=if n / 1 % 2=1 then 1 else 0):=by decide+kernel
def nf (p:Int):Nat->Nat
 |0=>0
 |j+1=>nf p j+(if gC p (j+1) then 1 else 0)
theorem Jf (p:Int):nf p 6=cC p:=by
 unfold cC
 by_cases h:1<=p/\p<=63
 ·rw[if_pos h]
  simp only[nf,gC,decide_eq_true h.1,decide_eq_true h.2,Bool.true_and,Nat.reduceSub,Nat.reducePow,Nat.reduceAdd,beq_iff_eq,Nat.div_one];have e:∀q:Nat,(if q % 2=1 then 1 else 0)=q % 2:= λq=>by split<;>omega
  simp only[e];omega
 ·rw[if_neg h]
  have e:∀k,gC p k=false:= λk=>by
   unfold gC
   by_cases j:1<=p
   ·rw[decide_eq_false (show ¬p<=63 by omega)];simp
   ·rw[decide_eq_false j];simp
  simp[nf,e]
theorem xI (p:Int)(w:World):Calls O 174 #[Y V p,Y V 1] w λe w'=>e=Z (OP (gC p 1))/\Below w.heap.size w w':=by
 unfold gC
 by_cases j:1<=p
 ·have C:decide (1<=p)=true:=decide_eq_true j
  by_cases h2:p<=63
  ·have G:decide (p<=63)=true:=decide_eq_true h2
   obtain⟨n,rfl⟩:=OG (by omega:0<=p);have I:=(lM n (by omega)).1;rw[C,G,OI,show 2 ^ (6 - 1)=32 by rfl]
   by_cases B:n / 32 % 2=1
   ·rw[if_pos B] at I
    have D:=OB B;clear B j h2
    go_enter OD,OA
    go_wp2
    go_ret;rw[D.out];exact⟨rfl,(Below.refl _ _).alloc (OC _) _⟩
   ·rw[if_neg B] at I
    have D:=OB (show (n / 32 % 2==1)=false by simpa using B);clear B j h2
    go_enter OD,OA
    go_wp2
    go_ret;rw[D.out];exact⟨rfl,(Below.refl _ _).alloc (OC _) _⟩
  ·have G:decide (p<=63)=false:=decide_eq_false h2
   rw[C,G];clear j h2
   go_enter OD,OA
   go_wp2
   go_ret;exact⟨rfl,(Below.refl _ _).alloc (OC _) _⟩
 ·have C:decide (1<=p)=false:=decide_eq_false j
  rw[C];clear j
  go_enter OD,OA
  go_wp2
  go_ret;exact⟨rfl,(Below.refl _ _).alloc (OC _) _⟩
theorem xJ (p:Int)(w:World):Calls O 174 #[Y V p,Y V 2] w λe w'=>e=Z (OP (gC p 2))/\Below w.heap.size w w':=by
 unfold gC
 by_cases j:1<=p
 ·have C:decide (1<=p)=true:=decide_eq_true j
  by_cases h2:p<=63
  ·have G:decide (p<=63)=true:=decide_eq_true h2
   obtain⟨n,rfl⟩:=OG (by omega:0<=p);have I:=(lM n (by omega)).2.1;rw[C,G,OI,show 2 ^ (6 - 2)=16 by rfl]
   by_cases B:n / 16 % 2=1
   ·rw[if_pos B] at I
    have D:=OB B;clear B j h2
    go_enter OD,OA
    go_wp2
    go_ret;rw[D.out];exact⟨rfl,(Below.refl _ _).alloc (OC _) _⟩
   ·rw[if_neg B] at I
    have D:=OB (show (n / 16 % 2==1)=false by simpa using B);clear B j h2
    go_enter OD,OA
    go_wp2
    go_ret;rw[D.out];exact⟨rfl,(Below.refl _ _).alloc (OC _) _⟩
  ·have G:decide (p<=63)=false:=decide_eq_false h2
   rw[C,G];clear j h2
   go_enter OD,OA
   go_wp2
   go_ret;exact⟨rfl,(Below.refl _ _).alloc (OC _) _⟩
 ·have C:decide (1<=p)=false:=decide_eq_false j
  rw[C];clear j
  go_enter OD,OA
  go_wp2
  go_ret;exact⟨rfl,(Below.refl _ _).alloc (OC _) _⟩
theorem xK (p:Int)(w:World):Calls O 174 #[Y V p,Y V 3] w λe w'=>e=Z (OP (gC p 3))/\Below w.heap.size w w':=by
 unfold gC
 by_cases j:1<=p
 ·have C:decide (1<=p)=true:=decide_eq_true j
  by_cases h2:p<=63
  ·have G:decide (p<=63)=true:=decide_eq_true h2
   obtain⟨n,rfl⟩:=OG (by omega:0<=p);have I:=(lM n (by omega)).2.2.1;rw[C,G,OI,show 2 ^ (6 - 3)=8 by rfl]
   by_cases B:n / 8 % 2=1
   ·rw[if_pos B] at I
    have D:=OB B;clear B j h2
    go_enter OD,OA
    go_wp2
    go_ret;rw[D.out];exact⟨rfl,(Below.refl _ _).alloc (OC _) _⟩
   ·rw[if_neg B] at I
    have D:=OB (show (n / 8 % 2==1)=false by simpa using B);clear B j h2
    go_enter OD,OA
    go_wp2
    go_ret;rw[D.out];exact⟨rfl,(Below.refl _ _).alloc (OC _) _⟩
  ·have G:decide (p<=63)=false:=decide_eq_false h2
   rw[C,G];clear j h2
   go_enter OD,OA
   go_wp2
   go_ret;exact⟨rfl,(Below.refl _ _).alloc (OC _) _⟩
 ·have C:decide (1<=p)=false:=decide_eq_false j
  rw[C];clear j
  go_enter OD,OA
  go_wp2
  go_ret;exact⟨rfl,(Below.refl _ _).alloc (OC _) _⟩
theorem xL (p:Int)(w:World):Calls O 174 #[Y V p,Y V 4] w λe w'=>e=Z (OP (gC p 4))/\Below w.heap.size w w':=by
 unfold gC
 by_cases j:1<=p
 ·have C:decide (1<=p)=true:=decide_eq_true j
  by_cases h2:p<=63
  ·have G:decide (p<=63)=true:=decide_eq_true h2
   obtain⟨n,rfl⟩:=OG (by omega:0<=p);have I:=(lM n (by omega)).2.2.2.1;rw[C,G,OI,show 2 ^ (6 - 4)=4 by rfl]
   by_cases B:n / 4 % 2=1
   ·rw[if_pos B] at I
    have D:=OB B;clear B j h2
    go_enter OD,OA
    go_wp2
    go_ret;rw[D.out];exact⟨rfl,(Below.refl _ _).alloc (OC _) _⟩
   ·rw[if_neg B] at I
    have D:=OB (show (n / 4 % 2==1)=false by simpa using B);clear B j h2
    go_enter OD,OA
    go_wp2
    go_ret;rw[D.out];exact⟨rfl,(Below.refl _ _).alloc (OC _) _⟩
  ·have G:decide (p<=63)=false:=decide_eq_false h2
   rw[C,G];clear j h2
   go_enter OD,OA
   go_wp2
   go_ret;exact⟨rfl,(Below.refl _ _).alloc (OC _) _⟩
 ·have C:decide (1<=p)=false:=decide_eq_false j
  rw[C];clear j
  go_enter OD,OA
  go_wp2
  go_ret;exact⟨rfl,(Below.refl _ _).alloc (OC _) _⟩
theorem xM (p:Int)(w:World):Calls O 174 #[Y V p,Y V 5] w λe w'=>e=Z (OP (gC p 5))/\Below w.heap.size w w':=by
 unfold gC
 by_cases j:1<=p
 ·have C:decide (1<=p)=true:=decide_eq_true j
  by_cases h2:p<=63
  ·have G:decide (p<=63)=true:=decide_eq_true h2
   obtain⟨n,rfl⟩:=OG (by omega:0<=p);have I:=(lM n (by omega)).2.2.2.2.1;rw[C,G,OI,show 2 ^ (6 - 5)=2 by rfl]
   by_cases B:n / 2 % 2=1
   ·rw[if_pos B] at I
    have D:=OB B;clear B j h2
    go_enter OD,OA
    go_wp2
    go_ret;rw[D.out];exact⟨rfl,(Below.refl _ _).alloc (OC _) _⟩
   ·rw[if_neg B] at I
    have D:=OB (show (n / 2 % 2==1)=false by simpa using B);clear B j h2
    go_enter OD,OA
    go_wp2
    go_ret;rw[D.out];exact⟨rfl,(Below.refl _ _).alloc (OC _) _⟩
  ·have G:decide (p<=63)=false:=decide_eq_false h2
   rw[C,G];clear j h2
   go_enter OD,OA
   go_wp2
   go_ret;exact⟨rfl,(Below.refl _ _).alloc (OC _) _⟩
 ·have C:decide (1<=p)=false:=decide_eq_false j
  rw[C];clear j
  go_enter OD,OA
  go_wp2
  go_ret;exact⟨rfl,(Below.refl _ _).alloc (OC _) _⟩
theorem xN (p:Int)(w:World):Calls O 174 #[Y V p,Y V 6] w λe w'=>e=Z (OP (gC p 6))/\Below w.heap.size w w':=by
 unfold gC
 by_cases j:1<=p
 ·have C:decide (1<=p)=true:=decide_eq_true j
  by_cases h2:p<=63
  ·have G:decide (p<=63)=true:=decide_eq_true h2
   obtain⟨n,rfl⟩:=OG (by omega:0<=p);have I:=(lM n (by omega)).2.2.2.2.2;rw[C,G,OI,show 2 ^ (6 - 6)=1 by rfl]
   by_cases B:n / 1 % 2=1
   ·rw[if_pos B] at I
    have D:=OB B;clear B j h2
    go_enter OD,OA
    go_wp2
    go_ret;rw[D.out];exact⟨rfl,(Below.refl _ _).alloc (OC _) _⟩
   ·rw[if_neg B] at I
    have D:=OB (show (n / 1 % 2==1)=false by simpa using B);clear B j h2
    go_enter OD,OA
    go_wp2
    go_ret;rw[D.out];exact⟨rfl,(Below.refl _ _).alloc (OC _) _⟩
  ·have G:decide (p<=63)=false:=decide_eq_false h2
   rw[C,G];clear j h2
   go_enter OD,OA
   go_wp2
   go_ret;exact⟨rfl,(Below.refl _ _).alloc (OC _) _⟩
 ·have C:decide (1<=p)=false:=decide_eq_false j
  rw[C];clear j
  go_enter OD,OA
  go_wp2
  go_ret;exact⟨rfl,(Below.refl _ _).alloc (OC _) _⟩
theorem zx (p:Int)(j:Nat)(B:j<6)(w:World):Calls O 174 #[Y V p,Y V ((j:Int)+1)] w λe w'=>e=Z (OP (gC p (j+1)))/\Below w.heap.size w w':=by
 have h:j=0\/j=1\/j=2\/j=3\/j=4\/j=5:=by omega
 rcases h with rfl|rfl|rfl|rfl|rfl|rfl
 ·exact xI p w
 ·exact xJ p w
 ·exact xK p w
 ·exact xL p w
 ·exact xM p w
 ·exact xN p w
theorem oT (p:Int)(w:World):Calls O 127 #[Y V p] w λe w'=>e=Z (Y V (cC p:Nat))/\Below w.heap.size w w':=by
 rw[<-Jf]
 go_enter Tryz.func127,Tryz.ntmps127
 go_wp2_with fail
 go_loopg [2,4] 6 (λg v2 v4=> λwr=>∃j:Nat,j+g=6/\v2=Y V (nf p j:Nat)/\v4=Y V (j:Int)/\nf p j<=j/\Below w.heap.size w wr)
 case atStart=>exact⟨0,by omega,rfl,rfl,by simp[nf],Below.refl _ _⟩
 case round=>
  obtain⟨j,hj,rfl,rfl,av,N⟩:=hrel
  cases gk with
  |zero=>
   obtain rfl:j=6:=by omega
   have aJ:¬(((6:Nat):Int)<6):=(by omega);go_wp2_with fail
   go_ret;exact⟨rfl,N⟩
  |succ g=>
   have aJ:((j:Int)<6):=(by omega);have T:j<6:=(by omega);have K:=OB (zx p j T wr);have G:nf p (j+1)=nf p j+(if gC p (j+1) then 1 else 0):=rfl;have M:=OB N;obtain⟨q,hq⟩:∃q,nf p j=q:=⟨_,rfl⟩;rw[hq] at G av⊢;clear N hq
   by_cases I:gC p (j+1)=true
   ·rw[I] at K G
    have B:=OB G;clear G I;go_wp2_with (go_at_call 174;refine K.out.mono ?_;rintro e w2 ⟨rfl,C⟩;have D:=OB C;clear C)
    go_roundg g
    case measure=>omega
    case rel=>exact⟨j+1,by omega,by rw[B.out];simp,by simp,by rw[B.out];simp;omega,M.out.trans (D.out.mono M.out.size)⟩
   ·have I:gC p (j+1)=false:=by simpa using I
    rw[I] at K G;have B:=OB G;clear G I;go_wp2_with (go_at_call 174;refine K.out.mono ?_;rintro e w2 ⟨rfl,C⟩;have D:=OB C;clear C)
    go_roundg g
    case measure=>omega
    case rel=>exact⟨j+1,by omega,by rw[B.out];simp,by simp,by rw[B.out];simp;omega,M.out.trans (D.out.mono M.out.size)⟩
end Go.Proofs.YthhijgcfbjcgiaaGreatDoor
