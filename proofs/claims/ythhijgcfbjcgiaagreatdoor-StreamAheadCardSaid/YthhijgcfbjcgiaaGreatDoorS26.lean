/- BGet, From, GGet, PicT, Frm -/
import Derived.Test.YthhijgcfbjcgiaaGreatDoorS25
import Derived.Test.YthhijgcfbjcgiaaGreatDoorS17
import Derived.Test.YthhijgcfbjcgiaaGreatDoorS04
import Derived.Test.YthhijgcfbjcgiaaGreatDoorS22
import Derived.Test.YthhijgcfbjcgiaaGreatDoorS01
import Derived.Test.YthhijgcfbjcgiaaGreatDoorS10
import Derived.Test.YthhijgcfbjcgiaaGreatDoorS03
import Derived.Deep.LoopGhost
import Derived.WalkMore
import Derived.Test.YthhijgcfbjcgiaaGreatDoorS18
import Derived.Test.YthhijgcfbjcgiaaGreatDoorS14
namespace Go.Proofs.YthhijgcfbjcgiaaGreatDoor
open Go Go.RowKit
attribute [local go_sem] Oper.semAt_some
open Go.Lib renaming hid→zAA
open List renaming setIfInBounds_toArray→zAB,set_cons_succ→zAD,set_cons_zero→zAE,append_toArray→zAJ,length_cons→zAK,push_toArray→zAL,size_toArray→zAM,length_nil→zAN,cons_append→zAO,length_append→zAQ,length_singleton→zAR,nil_append→zAS,getElem?_cons_succ→zAU,getElem?_cons_zero→zAV,drop_succ_cons→zAW,getElem?_toArray→zAX,drop_zero→zA0,map_cons→zA2,map_append→zA3,map_nil→zA4,getElem?_append_right→zA7,length_map→zA9
open Go.IntKind renaming wrap_i64→zAC,i64→zAF
open Nat renaming le_refl→zAG,reduceAdd→zAH,reduceSub→zAY,add_assoc→zAZ,le_trans→zAc
open Go.World renaming ownsRow_nil→zAI,size_alloc→zAP,size_setCell→zA8,ownsRow→zAa,setCell→zAb,drew→zAd
open Int renaming toNat_natCast→zAT,tdiv_eq_ediv_of_nonneg→zA5,tmod_eq_emod_of_nonneg→zA6
open Option renaming getD_some→zA1
def pO (l:List UInt8) (i:Int) (first:Bool) (k:Nat) (left:Int):List (Int×Int)×Int×Int:=bm l (66 - k) (cz l i first k) (ib first k) left
structure g8 (l:List UInt8) (i:Int) (first:Bool) (left0:Int) (pre:List fU) (left:Int):Prop where
 pos:0≤left
 sum:(pre.length:Int)+left≤64
 zero:∀x∈pre,x.2=0
 eq:bm l 66 i first left0=(pre.map (·.1)++(pO l i first pre.length left).1,(pO l i first pre.length left).2)
theorem DM (l:List UInt8) (i:Int) (first:Bool) {left0:Int} (h0:0≤left0) (h1:left0≤64):g8 l i first left0 [] left0:=by
 refine ⟨h0,by simpa using h1,(fun x hx=>by cases hx),?_⟩
 have e:ib first 0=first:=by cases first<;>rfl
 unfold pO
 show _=(bm l (66 - 0) i (ib first 0) left0)
 rw [e]
theorem Fh (first:Bool) (k:Nat):ib first (k+1)=false:=by cases first<;>rfl
theorem oB (l:List UInt8) (i:Int) (first:Bool) (k:Nat) (left:Int) (hk:k≤65):pO l i first k left=
  if (gK l i first k).2.1 then ([],cz l i first (k+1),0) else if (gK l i first k).2.2.2 !=0 then ([],0,(gK l i first k).2.2.2) else
  if left - ((gK l i first k).1.1+1)<0 then ([],0,11) else
  ((gK l i first k).1::(pO l i first (k+1) (left - ((gK l i first k).1.1+1))).1,(pO l i first (k+1) (left - ((gK l i first k).1.1+1))).2.1,(pO l i first (k+1) (left - ((gK l i first k).1.1+1))).2.2):=by
 unfold pO
 rw [Fh,show 66 - k=(66 - (k+1))+1 by omega]
 rfl
theorem mp {l:List UInt8} {i:Int} {first:Bool} {pre:List fU} {x:fU} (h:mw l i first (pre++[x])):x=((gK l i first pre.length).1,(gK l i first pre.length).2.2.2)∧(gK l i first pre.length).2.1=false:=h pre.length x (by simp)
section
variable {l:List UInt8} {i:Int} {first:Bool} {left0:Int} {pre:List fU} {left:Int} {x:fU}
theorem g8.len (h:g8 l i first left0 pre left):pre.length≤64:=by have:=h.pos;have:=h.sum;omega
theorem g8.err (h:g8 l i first left0 pre left) (hs:mw l i first (pre++[x])) (he:x.2≠0):(bm l 66 i first left0).2.2=x.2:=by
 obtain ⟨hx,hend⟩:=mp hs
 have hx2:(gK l i first pre.length).2.2.2=x.2:=by rw [hx]
 rw [h.eq,oB _ _ _ _ _ (by have:=h.len;omega),hend,if_neg (by decide),hx2,if_pos (by simpa using he)]
theorem g8.run (h:g8 l i first left0 pre left) (hs:mw l i first (pre++[x])) (he:x.2=0) (hl:left - (x.1.1+1)<0):(bm l 66 i first left0).2.2=11:=by
 obtain ⟨hx,hend⟩:=mp hs
 have hx2:(gK l i first pre.length).2.2.2=x.2:=by rw [hx]
 have hx1:(gK l i first pre.length).1=x.1:=by rw [hx]
 rw [h.eq,oB _ _ _ _ _ (by have:=h.len;omega),hend,if_neg (by decide),hx2,hx1,he,if_neg (by decide),if_pos hl]
theorem g8.next (h:g8 l i first left0 pre left) (hs:mw l i first (pre++[x])) (he:x.2=0) (hl:0≤left - (x.1.1+1)) (hr:0≤x.1.1):g8 l i first left0 (pre++[x]) (left - (x.1.1+1)):=by
 obtain ⟨hx,hend⟩:=mp hs
 have hx2:(gK l i first pre.length).2.2.2=x.2:=by rw [hx]
 have hx1:(gK l i first pre.length).1=x.1:=by rw [hx]
 refine ⟨hl,by have:=h.sum;simp only [zAQ,zAK,zAN];omega,fun y hy=>?_,?_⟩
 ·rcases List.mem_append.1 hy with hy|hy
  ·exact h.zero y hy
  ·rw [List.mem_singleton] at hy;rw [hy];exact he
 ·rw [h.eq,oB _ _ _ _ _ (by have:=h.len;omega),hend,if_neg (by decide),hx2,hx1,he,if_neg (by decide),if_neg (by omega)]
  simp
theorem g8.fin (h:g8 l i first left0 pre left) (he:(gK l i first pre.length).2.1=true):bm l 66 i first left0=(pre.map (·.1),cz l i first (pre.length+1),0):=by
 rw [h.eq,oB _ _ _ _ _ (by have:=h.len;omega),he,if_pos rfl]
 simp
end
def fd (h:Nat) (dc:Int) (v:Value) (n e:Int):List aI:=[(h,93,#[.int .i64 dc,v]),(h+1,3,#[.int .i64 n]),(h+2,26,#[.int .i64 e])]
def Iv (r:bB×Int×Int) (w:World) (e:Ending) (w':World):Prop:=∃v,e= .returned (.tuple #[.agg #[.int .i64 r.1.dc,v],.int .i64 r.2.1,.int .i64 r.2.2])∧Below w.heap.size w w'∧w'.ownsRow w.heap.size 189 2 v r.1.l.length (av bA r.1.l)
theorem DA:eG Tryz.prog 91 189 2 16:= .mk' (z:= .agg #[.int .i64 0,.int .i64 0]) (by kernel_rfl) (by kernel_rfl) rfl (by decide) (by decide)
theorem gy (h:Nat) (dc:Int) (v:Value) (n e:Int) (tmps:Array Value) (W:World) (hc:aa (fd h dc v n e) W) (t6:tmps.getD 6 undef= .pointer (some ⟨h,0,none⟩)) (t7:tmps.getD 7 undef= .pointer (some ⟨h+1,0,none⟩))
  (t8:tmps.getD 8 undef= .pointer (some ⟨h+2,0,none⟩)):(results Tryz.f259 tmps).run Tryz.prog W= .ok (.tuple #[.agg #[.int .i64 dc,v],.int .i64 n,.int .i64 e]) W:=by
 unfold fd at hc
 have h6:W.cell? ⟨h,0,none⟩=some (.int .i64 dc):=hc.head.cell 0
 have h6':W.cell? ⟨h,1,none⟩=some v:=hc.head.cell 1
 have h7:W.cell? ⟨h+1,0,none⟩=some (.int .i64 n):=hc.tail.head.cell 0
 have h8:W.cell? ⟨h+2,0,none⟩=some (.int .i64 e):=hc.tail.tail.head.cell 0
 have t6':tmps[6]?.getD undef= .pointer (some ⟨h,0,none⟩):=by simpa using t6
 have t7':tmps[7]?.getD undef= .pointer (some ⟨h+1,0,none⟩):=by simpa using t7
 have t8':tmps[8]?.getD undef= .pointer (some ⟨h+2,0,none⟩):=by simpa using t8
 simp [results,Tryz.results259,t6',t7',t8',asAddr,h6,h6',h7,h8,go_sem]
theorem pd (gc:Nat) (first:Bool) (w:World):Calls Tryz.prog 277 #[.pointer (some ⟨gc,0,none⟩),.bool first] w fun e w'=>e= .returned (.func (.func 288) #[] #[.pointer (some ⟨w.heap.size,0,none⟩),.pointer (some ⟨w.heap.size+1,0,none⟩)])∧w'=(w.alloc (.cells #[.pointer (some ⟨gc,0,none⟩)] 300)).alloc (.cells #[.bool first] 4):=by
 go_enter Tryz.func277,Tryz.ntmps277
 go_wp2_with fail
 go_ret
 exact ⟨by simp,rfl⟩
theorem bj {w:World} {base e size n:Nat} {v:Value} {xs:List Value} (h:w.ownsRow base e size v n xs):∃A c,v= .slice A n c:=by
 rcases h.2 with ⟨rfl,rfl⟩|⟨g,cap,cur,rfl,_⟩
 ·exact ⟨none,0,rfl⟩
 ·exact ⟨_,cap,rfl⟩
def cZ (g i:Nat) (u:Value) (L:List aI):List aI:=L.map fun c=>if c.1=g then (c.1,c.2.1,c.2.2.setIfInBounds i u) else c
theorem Dr {L:List aI} {W:World} (h:aa L W) (g i:Nat) (u:Value):aa (cZ g i u L) (W.setCell ⟨g,i,none⟩ u):=by
 intro p hp
 unfold cZ at hp
 obtain ⟨c,hc,rfl⟩:=List.mem_map.1 hp
 have hb:=h c hc
 by_cases he:c.1=g
 ·rw [if_pos he]
  dsimp only
  subst he
  exact hb.set_ i u
 ·rw [if_neg he]
  exact hb.far (p:=⟨g,i,none⟩) he u
theorem aT {w W:World} {L:List aI} {R:List a9} (hc:ay w L R W) {g:Nat} (hg:w.heap.size≤g) (i:Nat) (u:Value) (c:aI) (hm:c∈L) (hcg:c.1=g) (hR:∀r∈R,r.e≠c.2.1):ay w (cZ g i u L) R (W.setCell ⟨g,i,none⟩ u):=by
 subst hcg
 exact ⟨hc.1.setCell (p:=⟨c.1,i,none⟩) hg u,Dr hc.2.1 _ i u,fun r hr=>fc (hc.2.2 r hr) ⟨c.1,i,none⟩ u (bg (hc.2.2 r hr) (hc.2.1 c hm) (hR r hr))⟩
theorem nq {W:World} {g:Nat} {t t':TypeId} {cs cs':Array Value} (h:ab W g t cs) (h':ab W g t' cs'):cs=cs':=by
 have h2:ab W g t cs=(W.heap[g]? =some (.cells cs t (0,0))):=rfl
 rw [h2] at h
 have h3:ab W g t' cs'=(W.heap[g]? =some (.cells cs' t' (0,0))):=rfl
 rw [h3,h] at h'
 simpa using (congrArg (fun o=>match o with|some (Obj.cells c _ _)=>c|_=> #[]) h')
theorem aS {W:World} {g g':Nat} {t t':TypeId} {cs cs':Array Value} (h:ab W g t cs) (h':ab W g' t' cs') (hne:t≠t'):g≠g':=by
 rintro rfl
 have h2:ab W g t cs=(W.heap[g]? =some (.cells cs t (0,0))):=rfl
 rw [h2] at h
 have h3:ab W g t' cs'=(W.heap[g]? =some (.cells cs' t' (0,0))):=rfl
 rw [h3,h] at h'
 exact hne (by simpa using (congrArg (fun o=>match o with|some (Obj.cells _ t _)=>t|_=>0) h'))
def dE (h:Nat) (A:Option Addr) (n c:Nat) (intra:Bool) (dc left:Int) (v u1 u2:Value):List aI:=
 (h+4,197,#[.int .i64 dc,v,.bool intra])::(h+5,3,#[.int .i64 left])::(h+6,300,#[.pointer (some ⟨h+3,0,none⟩)])::(h+3,302,#[.slice A n c,u1])::(h+7,4,#[u2])::fd h 0 (.slice none 0 0) 0 0
abbrev JQ:Type:=Int×Value×Value×Value
def lM (w:World) (A:Option Addr) (n c:Nat) (intra:Bool) (dc:Int) (l:List UInt8) (i:Int) (first:Bool) (left0:Int):List fU→World→Prop:=
 cR w (fun pre (k:JQ)=>g8 l i first left0 pre k.1) (fun _ k=>dE w.heap.size A n c intra dc k.1 k.2.1 k.2.2.1 k.2.2.2) (fun pre k=>[⟨w.heap.size,189,2,k.2.1,pre.length,av bA (pre.map (·.1))⟩])
def Iw (w:World) (A:Option Addr) (n c:Nat) (intra:Bool) (dc:Int) (l:List UInt8) (i:Int) (first:Bool) (left0:Int) (x:fU) (g:Nat):List fU→World→Prop:=
 cR w (fun pre (k:JQ)=>g8 l i first left0 pre k.1) (fun _ k=>(g,189,#[.int .i64 x.1.1,.int .i64 x.1.2])::dE w.heap.size A n c intra dc k.1 k.2.1 k.2.2.1 k.2.2.2) (fun pre k=>[⟨w.heap.size,189,2,k.2.1,pre.length,av bA (pre.map (·.1))⟩])
section
variable {w W:World} {A:Option Addr} {n c:Nat} {intra:Bool} {dc:Int} {l:List UInt8} {i:Int} {first:Bool} {left0:Int} {pre:List fU}
theorem Ar (v:Value) (h:lM w A n c intra dc l i first left0 pre W):lM w A n c intra dc l i first left0 pre (W.setCell ⟨w.heap.size+3,1,none⟩ v):=by
 obtain ⟨⟨⟨left,v1,u1,u2⟩,hp,hc⟩⟩:=h
 refine ⟨⟨(left,v1,v,u2),hp,?_⟩⟩
 have h2:=aT hc (g:=w.heap.size+3) (by omega) 1 v (w.heap.size+3,302,#[.slice A n c,u1]) (by simp [dE]) rfl (by simp)
 simpa [cZ,dE,fd] using h2
theorem Au (v:Value) (h:lM w A n c intra dc l i first left0 pre W):lM w A n c intra dc l i first left0 pre (W.setCell ⟨w.heap.size+7,0,none⟩ v):=by
 obtain ⟨⟨⟨left,v1,u1,u2⟩,hp,hc⟩⟩:=h
 refine ⟨⟨(left,v1,u1,v),hp,?_⟩⟩
 have h2:=aT hc (g:=w.heap.size+7) (by omega) 0 v (w.heap.size+7,4,#[u2]) (by simp [dE]) rfl (by simp)
 simpa [cZ,dE,fd] using h2
theorem zIO (h:lM w A n c intra dc l i first left0 pre W) {a:Int} {f:Bool} (h1:ab W (w.heap.size+3) 302 #[.slice A n c,.int .i64 a]) (h2:ab W (w.heap.size+7) 4 #[.bool f]):
  ∃left v,g8 l i first left0 pre left∧ay w (dE w.heap.size A n c intra dc left v (.int .i64 a) (.bool f)) [⟨w.heap.size,189,2,v,pre.length,av bA (pre.map (·.1))⟩] W:=by
 obtain ⟨⟨⟨left,v1,u1,u2⟩,hp,hc⟩⟩:=h
 refine ⟨left,v1,hp,?_⟩
 have hx:=hc.2.1
 unfold dE at hx
 have e1:=nq hx.tail.tail.tail.head h1
 have e2:=nq hx.tail.tail.tail.tail.head h2
 simp at e1 e2
 dsimp only at hc
 rw [e1,e2] at hc
 exact hc
theorem Gv {x:fU} {g:Nat} (h:Iw w A n c intra dc l i first left0 x g pre W) {a:Int} {f:Bool} (h1:ab W (w.heap.size+3) 302 #[.slice A n c,.int .i64 a]) (h2:ab W (w.heap.size+7) 4 #[.bool f]):
  ∃left v,g8 l i first left0 pre left∧ay w ((g,189,#[.int .i64 x.1.1,.int .i64 x.1.2])::dE w.heap.size A n c intra dc left v (.int .i64 a) (.bool f)) [⟨w.heap.size,189,2,v,pre.length,av bA (pre.map (·.1))⟩] W:=by
 obtain ⟨⟨⟨left,v1,u1,u2⟩,hp,hc⟩⟩:=h
 refine ⟨left,v1,hp,?_⟩
 have hx:=hc.2.1
 unfold dE at hx
 have e1:=nq hx.tail.tail.tail.tail.head h1
 have e2:=nq hx.tail.tail.tail.tail.tail.head h2
 simp at e1 e2
 dsimp only at hc
 rw [e1,e2] at hc
 exact hc
theorem wu {left:Int} {v u1 u2:Value} (hp:g8 l i first left0 pre left) (hc:ay w (dE w.heap.size A n c intra dc left v u1 u2) [⟨w.heap.size,189,2,v,pre.length,av bA (pre.map (·.1))⟩] W):
  lM w A n c intra dc l i first left0 pre W∧ab W (w.heap.size+3) 302 #[.slice A n c,u1]∧ab W (w.heap.size+7) 4 #[u2]:=by
 have hx:=hc.2.1
 unfold dE at hx
 exact ⟨⟨⟨(left,v,u1,u2),hp,hc⟩⟩,hx.tail.tail.tail.head,hx.tail.tail.tail.tail.head⟩
theorem lE {left:Int} {v u1 u2:Value} {R:List a9} (hc:ay w (dE w.heap.size A n c intra dc left v u1 u2) R W):ay w (fd w.heap.size 0 (.slice none 0 0) 0 0) R W:=ar (ar (ar (ar (ar hc))))
theorem kZ {L:List aI} {R:List a9} (hc:ay w L R W):ay w L [] W:=⟨hc.1,hc.2.1,aE _⟩
theorem wv {W6:World} {at0:Int} {first:Bool} (hc:ay w ((w.heap.size+4,197,#[.int .i64 dc,.slice none 0 0,.bool intra])::(w.heap.size+5,3,#[.int .i64 left0])::(w.heap.size+3,302,#[.slice A n c,.int .i64 at0])::fd w.heap.size 0 (.slice none 0 0) 0 0) [] W6) (hs:W6.heap.size=w.heap.size+6) (h0:0≤left0) (h1:left0≤64):
  lM w A n c intra dc l i first left0 [] ((W6.alloc (.cells #[.pointer (some ⟨w.heap.size+3,0,none⟩)] 300)).alloc (.cells #[.bool first] 4))∧ab ((W6.alloc (.cells #[.pointer (some ⟨w.heap.size+3,0,none⟩)] 300)).alloc (.cells #[.bool first] 4)) (w.heap.size+3) 302 #[.slice A n c,.int .i64 at0]∧ab ((W6.alloc (.cells #[.pointer (some ⟨w.heap.size+3,0,none⟩)] 300)).alloc (.cells #[.bool first] 4)) (w.heap.size+7) 4 #[.bool first]:=by
 have h2:=ao (ao hc (.cells #[.pointer (some ⟨w.heap.size+3,0,none⟩)] 300)) (.cells #[.bool first] 4)
 have b6:ab ((W6.alloc (.cells #[.pointer (some ⟨w.heap.size+3,0,none⟩)] 300)).alloc (.cells #[.bool first] 4)) (w.heap.size+6) 300 #[.pointer (some ⟨w.heap.size+3,0,none⟩)]:=(aD (ab.new _ _ _) hs).alloc _
 have b7:ab ((W6.alloc (.cells #[.pointer (some ⟨w.heap.size+3,0,none⟩)] 300)).alloc (.cells #[.bool first] 4)) (w.heap.size+7) 4 #[.bool first]:=aD (ab.new _ _ _) (by rw [zAP,hs])
 have hx:=h2.2.1
 refine wu (left:=left0) (v:= .slice none 0 0) (DM l i first h0 h1) ⟨h2.1,?_,ap.cons (zAI _ _ _ _) (aE _)⟩
 unfold dE
 exact aa.cons hx.head (aa.cons hx.tail.head (aa.cons b6 (aa.cons hx.tail.tail.head (aa.cons b7 hx.tail.tail.tail))))
theorem i7 {dc0:Int} {v0:Value} {n0 e0:Int} {R:List a9} (dc:Int) (v:Value) (nn e:Int) (hc:ay w (fd w.heap.size dc0 v0 n0 e0) R W) (hR:∀r∈R,r.e=189):ay w (fd w.heap.size dc v nn e) R ((((W.setCell ⟨w.heap.size,0,none⟩ (.int .i64 dc)).setCell ⟨w.heap.size,1,none⟩ v).setCell ⟨w.heap.size+1,0,none⟩ (.int .i64 nn)).setCell ⟨w.heap.size+2,0,none⟩ (.int .i64 e)):=by
 unfold fd at hc⊢
 have h1:=aT hc (g:=w.heap.size) (zAG _) 0 (.int .i64 dc) (w.heap.size,93,#[.int .i64 dc0,v0]) (by simp) rfl (fun r hr=>by rw [hR r hr];simp)
 simp [cZ] at h1
 have h2:=aT h1 (g:=w.heap.size) (zAG _) 1 v (w.heap.size,93,#[.int .i64 dc,v0]) (by simp) rfl (fun r hr=>by rw [hR r hr];simp)
 simp [cZ] at h2
 have h3:=aT h2 (g:=w.heap.size+1) (by omega) 0 (.int .i64 nn) (w.heap.size+1,3,#[.int .i64 n0]) (by simp) rfl (fun r hr=>by rw [hR r hr];simp)
 simp [cZ] at h3
 have h4:=aT h3 (g:=w.heap.size+2) (by omega) 0 (.int .i64 e) (w.heap.size+2,26,#[.int .i64 e0]) (by simp) rfl (fun r hr=>by rw [hR r hr];simp)
 simp [cZ] at h4
 exact h4
end
set_option maxRecDepth 100000 in
set_option maxHeartbeats 40000000 in
theorem Dn (A:Option Addr) (n c:Nat) (l:List UInt8) (i:Int) (intra:Bool) (w:World) (hA:Sl w A (l.map af)) (hn:l.length=n) (hsz:n≤2 ^ 47) (hT:Ts w):
  Calls Tryz.prog 259 #[.slice A n c,.int .i64 i,.bool intra] w (Iv (bd l i intra) w):=by
 obtain ⟨r,hr⟩:∃r,bd l i intra=r:=⟨_,rfl⟩
 rw [hr]
 unfold bd at hr
 rw [hn] at hr
 have HA:=zAA hA;have HN:=zAA hn;have HT:=zAA hT
 clear hA hn hT
 by_cases hi0:i<0
 ·rw [if_pos hi0] at hr
  subst hr
  refine (callsIn_wide (n:=5)).1 ?_
  refine callsIn_of_wp_marks Tryz.func259 rfl trivial ?_ rfl
  simp only [Tryz.ntmps259,zAM,zAK,zAN,zAH,zAY,Array.replicate_succ,Array.replicate_zero,zAL,zAJ,zAS,zAO]
  refine wpIn_wide.2 ?_
  go_wp2_with fail
  simp only [zAZ,zAH]
  refine il (gy w.heap.size 0 (.slice none 0 0) 0 3 _ _ ?_ rfl rfl rfl) ⟨.slice none 0 0,rfl,?_,zAI _ _ _ _⟩
  ·unfold fd
   refine aa.cons ?_ (aa.cons ?_ (aa.cons ?_ (ag _)))
   all_goals (repeat (first|(refine aD (ab.new _ _ _) ?_;simp [zAP];done)|refine ab.alloc ?_ _))
  ·exact (((Below.refl _ _).alloc (zAG _) _).alloc (by simp) _).alloc (by simp;omega) _
 rw [if_neg hi0] at hr
 by_cases hi1:8*(n:Int)<i
 ·rw [if_pos hi1] at hr
  subst hr
  refine (callsIn_wide (n:=5)).1 ?_
  refine callsIn_of_wp_marks Tryz.func259 rfl trivial ?_ rfl
  simp only [Tryz.ntmps259,zAM,zAK,zAN,zAH,zAY,Array.replicate_succ,Array.replicate_zero,zAL,zAJ,zAS,zAO]
  refine wpIn_wide.2 ?_
  go_wp2_with (go_at_call 84;refine (dd A n c _ hsz).mono ?_;rintro e w' ⟨rfl,rfl⟩)
  simp only [zAZ,zAH]
  refine il (gy w.heap.size 0 (.slice none 0 0) 0 5 _ _ ?_ rfl rfl rfl) ⟨.slice none 0 0,rfl,?_,zAI _ _ _ _⟩
  ·unfold fd
   refine aa.cons ?_ (aa.cons ?_ (aa.cons ?_ (ag _)))
   all_goals (repeat (first|(refine aD (ab.new _ _ _) ?_;simp [zAP];done)|refine ab.alloc ?_ _))
  ·exact (((Below.refl _ _).alloc (zAG _) _).alloc (by simp) _).alloc (by simp;omega) _
 rw [if_neg hi1] at hr
 obtain ⟨k,rfl⟩:∃k:Nat,i=(k:Int):=⟨i.toNat,by omega⟩
 rw [zAT] at hr
 have hk:k≤8*n:=by omega
 cases intra with
 |false=>
  refine (callsIn_wide (n:=5)).1 ?_
  refine callsIn_of_wp_marks Tryz.func259 rfl trivial ?_ rfl
  simp only [Tryz.ntmps259,zAM,zAK,zAN,zAH,zAY,Array.replicate_succ,Array.replicate_zero,zAL,zAJ,zAS,zAO]
  refine wpIn_wide.2 ?_
  go_wp2_with (first|(go_at_call 84;refine (dd A n c _ hsz).mono ?_;rintro e w' ⟨rfl,rfl⟩)|(go_at_call 277;refine (pd _ _ _).mono ?_;rintro e w' ⟨rfl,rfl⟩))
  rw [if_neg (show ¬(false=true) by decide)] at hr
  have hc6:ay w ((w.heap.size+4,197,#[.int .i64 0,.slice none 0 0,.bool false])::(w.heap.size+5,3,#[.int .i64 64])::(w.heap.size+3,302,#[.slice A n c,.int .i64 (k:Int)])::fd w.heap.size 0 (.slice none 0 0) 0 0) [] ((((((w.alloc (.cells #[.int .i64 0,.slice none 0 0] 93)).alloc (.cells #[.int .i64 0] 3)).alloc (.cells #[.int .i64 0] 26)).alloc (.cells #[.slice A n c,.int .i64 (k:Int)] 302)).alloc (.cells #[.int .i64 0,.slice none 0 0,.bool false] 197)).alloc (.cells #[.int .i64 64] 3)):=by
   refine ⟨(((((((Below.refl _ _).alloc (zAG _) _).alloc (by simp) _).alloc (by simp;omega) _).alloc (by simp;omega) _).alloc (by simp;omega) _).alloc (by simp;omega) _),?_,aE _⟩
   unfold fd
   refine aa.cons ?_ (aa.cons ?_ (aa.cons ?_ (aa.cons ?_ (aa.cons ?_ (aa.cons ?_ (ag _))))))
   all_goals (repeat (first|(refine aD (ab.new _ _ _) ?_;simp [zAP];done)|refine ab.alloc ?_ _))
  have hs6:((((((w.alloc (.cells #[.int .i64 0,.slice none 0 0] 93)).alloc (.cells #[.int .i64 0] 3)).alloc (.cells #[.int .i64 0] 26)).alloc (.cells #[.slice A n c,.int .i64 (k:Int)] 302)).alloc (.cells #[.int .i64 0,.slice none 0 0,.bool false] 197)).alloc (.cells #[.int .i64 64] 3)).heap.size=w.heap.size+6:=by simp
  simp only [zAZ,zAH]
  generalize (((((w.alloc (.cells #[.int .i64 0,.slice none 0 0] 93)).alloc (.cells #[.int .i64 0] 3)).alloc (.cells #[.int .i64 0] 26)).alloc (.cells #[.slice A n c,.int .i64 (k:Int)] 302)).alloc (.cells #[.int .i64 0,.slice none 0 0,.bool false] 197)).alloc (.cells #[.int .i64 64] 3)=W6 at hc6 hs6⊢
  obtain ⟨q,hq⟩:∃q,bm l 66 (k:Int) true 64=q:=⟨_,rfl⟩
  rw [hq] at hr
  have HR:=zAA hr;have HQ:=zAA hq
  clear hr hq
  obtain ⟨hI0,hbc,hbf⟩:=wv (A:=A) (n:=n) (c:=c) (intra:=false) (dc:=0) (l:=l) (i:=(k:Int)) (left0:=64) (first:=true) hc6 hs6 (by decide) (by decide)
  have hs8:((W6.alloc (.cells #[.pointer (some ⟨w.heap.size+3,0,none⟩)] 300)).alloc (.cells #[.bool true] 4)).heap.size=w.heap.size+8:=by simp [hs6]
  generalize (W6.alloc (.cells #[.pointer (some ⟨w.heap.size+3,0,none⟩)] 300)).alloc (.cells #[.bool true] 4)=W at hI0 hbc hbf hs8⊢
  have HI0:=zAA hI0;have HBC:=zAA hbc;have HBF:=zAA hbf;have HS8:=zAA hs8
  clear hI0 hbc hbf hs8 hc6 hs6
  have HB8:Hid (w.heap.size≤W.heap.size):=zAA (by rw [HS8.out];omega)
  refine (wpIn_wide (n:=5)).1 ?_
  refine tc (α:=fU) (enc:=fun x:fU=> #[.agg #[.int .i64 x.1.1,.int .i64 x.1.2],.int .i64 x.2])
   (IS:=fun pre W=>lM w A n c false 0 l (k:Int) true 64 pre W∧ab W (w.heap.size+3) 302 #[.slice A n c,.int .i64 (k:Int)]∧ab W (w.heap.size+7) 4 #[.bool true])
   (I:=fun pre W=>lM w A n c false 0 l (k:Int) true 64 pre W∧ab W (w.heap.size+3) 302 #[.slice A n c,.int .i64 (cz l (k:Int) true (pre.length+1))]∧ab W (w.heap.size+7) 4 #[.bool false])
   (I2:=fun pre W=>lM w A n c false 0 l (k:Int) true 64 pre W∧ab W (w.heap.size+3) 302 #[.slice A n c,.int .i64 (cz l (k:Int) true pre.length)]∧ab W (w.heap.size+7) 4 #[.bool false])
   (IE:=fun pre W=>lM w A n c false 0 l (k:Int) true 64 pre W∧ab W (w.heap.size+3) 302 #[.slice A n c,.int .i64 (cz l (k:Int) true (pre.length+1))]∧ab W (w.heap.size+7) 4 #[.bool false])
   (S:=fun xs=>mw l (k:Int) true xs∧(gK l (k:Int) true xs.length).2.1=true) (Sp:=mw l (k:Int) true)
   rfl (by decide) (gf:=288) (lb:= #[.pointer (some ⟨w.heap.size+6,0,none⟩),.pointer (some ⟨w.heap.size+7,0,none⟩)]) rfl trivial (enters_of Tryz.func288 (by kernel_rfl) rfl)
   (uM 4 (by decide) (w.heap.size+3) (w.heap.size+6) (w.heap.size+7) A n c l (k:Int) true HN.out hsz (by omega) (by rw [HN.out];omega) (by omega) _ (fun pre W v h=>Ar v h) (fun pre W v h=>Au v h) (fun pre A B h hb=>gC pre A B h hb) ?hC0 ?hCs) (fun _=>rfl)
   (fun cd _ W=>mY w (fd w.heap.size 0 (.slice none 0 0) 0 q.2.2) cd W∧q.2.2≠0)
   (fun pre x g W=>Iw w A n c false 0 l (k:Int) true 64 x g pre W∧ab W (w.heap.size+3) 302 #[.slice A n c,.int .i64 (cz l (k:Int) true (pre.length+1))]∧ab W (w.heap.size+7) 4 #[.bool false])
   (OwnFrom.and (bq HB8.out _ _ _) (OwnFrom.and (bp _ _ _) (bp _ _ _))) (OwnFrom.and (bq HB8.out _ _ _) (OwnFrom.and (bp _ _ _) (bp _ _ _))) (OwnFrom.and (bq HB8.out _ _ _) (OwnFrom.and (bp _ _ _) (bp _ _ _)))
   (fun cd=>OwnFrom.and (ik HB8.out _ _) (ownFrom_pure _ _)) (fun x g=>OwnFrom.and (bq HB8.out _ _ _) (OwnFrom.and (bp _ _ _) (bp _ _ _))) ⟨HI0.out,HBC.out,HBF.out⟩ ?round ?done ?stop
  case hC0=>
   rintro pre W' ⟨⟨k',hp,_⟩⟩
   exact hp.zero
  case hCs=>
   rintro pre W' ⟨⟨k',hp,hc⟩⟩
   have hx:=hc.2.1
   unfold dE at hx
   exact ⟨hx.tail.tail.head,HA.out.below hc.1,HT.out.below hc.1⟩
  case round=>
   apply Exists.intro
   refine And.intro ?_ ?_
   ·rintro lp pre x W' ⟨⟨⟨k',hp,hc⟩⟩,hb1,hb2⟩ hsp
    have HP:=zAA hp;have HC:=zAA hc;have HB1:=zAA hb1;have HB2:=zAA hb2
    clear hp hc hb1 hb2 hsp
    dsimp only
    gi_wp2
    obtain ⟨g0,hg0⟩:∃g0,W'.heap.size=g0:=⟨_,rfl⟩
    have hcc:=dO (ao HC.out (.cells #[.int .i64 x.1.1,.int .i64 x.1.2] 189)) (aD (ab.new W' 189 #[.int .i64 x.1.1,.int .i64 x.1.2]) hg0)
    rw [hg0]
    exact ⟨⟨g0,rfl,⟨⟨k',HP.out,hcc⟩⟩,HB1.out.alloc _,HB2.out.alloc _⟩,ce (KeepsFrom.refl _ _) _⟩
   ·rintro lp pre x g W' ⟨hJ,hb1,hb2⟩ hsp
    obtain ⟨left,v,hp,hc⟩:=Gv hJ hb1 hb2
    clear hJ hb1 hb2
    have hlast:=mp hsp
    obtain ⟨⟨q1,q2⟩,er⟩:=x
    dsimp only at hc
    obtain ⟨A2,c2,hv2⟩:=bj hc.2.2.head
    dsimp only at hv2
    subst hv2
    have HP:=zAA hp;have HC:=zAA hc;have HSP:=zAA hsp;have HLA:=zAA hlast
    have hx:=hc.2.1
    clear hp hc hsp hlast
    unfold dE fd at hx
    have hgn:g≠w.heap.size+5:=aS hx.head hx.tail.tail.head (by simp)
    have hgn':w.heap.size+5≠g:=fun h=>hgn h.symm
    have p0:=hx.head.cell 0;have p1:=hx.head.cell 1
    have k0:=hx.tail.head.cell 0;have k1:=hx.tail.head.cell 1;have k2:=hx.tail.head.cell 2;have kf1:=hx.tail.head.frozen 1
    have l0:=hx.tail.tail.head.cell 0;have lf:=hx.tail.tail.head.frozen 0
    have b0:=hx.tail.tail.tail.tail.tail.tail.head.cell 0;have b1:=hx.tail.tail.tail.tail.tail.tail.head.cell 1;have b2:=hx.tail.tail.tail.tail.tail.tail.tail.head.cell 0;have b3:=hx.tail.tail.tail.tail.tail.tail.tail.tail.head.cell 0
    have bf0:=hx.tail.tail.tail.tail.tail.tail.head.frozen 0;have bf1:=hx.tail.tail.tail.tail.tail.tail.head.frozen 1;have bf2:=hx.tail.tail.tail.tail.tail.tail.tail.head.frozen 0;have bf3:=hx.tail.tail.tail.tail.tail.tail.tail.tail.head.frozen 0
    dsimp only at p0 p1 k0 k1 k2 kf1 l0 lf b0 b1 b2 b3 bf0 bf1 bf2 bf3
    clear hx
    cases he:(er !=0) with
    |true=>
     have hne:er≠0:=by simpa using he
     have HNE:=zAA hne
     clear hne
     have hq2:q.2.2=er:=by rw [←HQ.out];exact HP.out.err HSP.out HNE.out
     have HQ2:=zAA hq2
     clear hq2
     gi_wp2_with fail
     refine ⟨ak (ak (ak (ak (KeepsFrom.refl _ _) _ _) _ _) _ _) _ _,⟨rfl,?_⟩,by rw [HQ2.out];exact HNE.out⟩
     rw [HQ2.out]
     exact i7 0 (.slice none 0 0) 0 er (kZ (lE (ar HC.out))) (by simp)
    |false=>
     have he0:er=0:=by simpa using he
     subst he0
     have hgk:=HLA.out
     obtain ⟨hg1,hg2⟩:=hgk
     have hok:=nt l (cz l (k:Int) true pre.length) (ib true pre.length) (je l (k:Int) true (by omega) (by rw [HN.out];omega) _).1 (je l (k:Int) true (by omega) (by rw [HN.out];omega) _).2
     have hq1:0≤q1∧q1≤63:=by
      have h1:=(Prod.mk.inj hg1).1
      have h2:=(Prod.mk.inj hg1).2
      have h3:=hok.2.2.2.1 h2.symm hg2
      have h4:(aL l (cz l (k:Int) true pre.length) (ib true pre.length)).1=(q1,q2):=h1.symm
      rw [h4] at h3
      exact ⟨h3.1,h3.2.1⟩
     obtain ⟨hq0,hq63⟩:=hq1
     clear hok hg1 hg2
     have hl0:=HP.out.pos
     have hls:=HP.out.sum
     have hw1:zAF.wrap (q1+1)=q1+1:=by rw [zAC];omega
     have hw2:zAF.wrap (left - (q1+1))=left - (q1+1):=by rw [zAC];omega
     have HLL:=zAA hls;have HL0:=zAA hl0
     clear hls hl0
     obtain ⟨lv,hlv⟩:∃lv,left - (q1+1)=lv:=⟨_,rfl⟩
     rw [hlv] at hw2
     have hw3:zAF.wrap lv=lv:=hw2
     have HLV:=zAA hlv
     have HCa:Hid (ay w (dE w.heap.size A n c false 0 lv (.slice A2 pre.length c2) (.int .i64 (cz l (k:Int) true (pre.length+1))) (.bool false)) [⟨w.heap.size,189,2,.slice A2 pre.length c2,pre.length,av bA (pre.map (·.1))⟩] (W'.setCell ⟨w.heap.size+5,0,none⟩ (.int .i64 lv))):=zAA (by
      have h2:=aT (ar HC.out) (g:=w.heap.size+5) (by omega) 0 (.int .i64 lv) (w.heap.size+5,3,#[.int .i64 left]) (by simp [dE]) rfl (by simp)
      simpa [cZ,dE,fd] using h2)
     by_cases hneg:lv<0
     ·have hq2:q.2.2=11:=by rw [←HQ.out];exact HP.out.run HSP.out rfl (by show left - (q1+1)<0;omega)
      have HQ2:=zAA hq2
      clear hq2
      gi_wp2_with fail
      refine ⟨ak (ak (ak (ak (ak (KeepsFrom.refl _ _) _ _) _ _) _ _) _ _) _ _,⟨rfl,?_⟩,by rw [HQ2.out];decide⟩
      rw [HQ2.out]
      exact i7 0 (.slice none 0 0) 0 11 (kZ (lE HCa.out)) (by simp)
     ·have HLE:=zAA (show pre.length≤64 from HP.out.len)
      gi_wp2_with (gi_at_builtin;refine kN DA rfl rfl 1 [.int .i64 q1,.int .i64 q2] rfl HCa.out (by rw [zA8];rfl) rfl (by intro u hu;simp at hu;rcases hu with rfl|rfl<;>rfl) (by have:=HLE.out;omega) ⟨zAG _,HCa.out.1.size⟩ (by simp [dE,fd]) (by simp) ?_;intro v5 W5 hc5 hg5;obtain ⟨A5,c5,e5⟩:=bj hc5.2.2.head;dsimp only at e5;subst e5;have HC5:=zAA hc5;have HG5:=zAA hg5;have hy:=hc5.2.1;clear hc5 hg5;unfold dE at hy;have y0:=hy.head.cell 0;have y1:=hy.head.cell 1;have y2:=hy.head.cell 2;have yf:=hy.head.frozen 1;dsimp only at y0 y1 y2 yf;clear hy)
      have hln:(pre++[(((q1,q2),0):fU)]).length=pre.length+1:=by simp
      have HCb:ay w (dE w.heap.size A n c false 0 lv (.slice A5 (pre.length+1) c5) (.int .i64 (cz l (k:Int) true (pre.length+1))) (.bool false)) [⟨w.heap.size,189,2,.slice A5 (pre.length+1) c5,(pre++[(((q1,q2),0):fU)]).length,av bA ((pre++[(((q1,q2),0):fU)]).map (·.1))⟩] (W5.setCell ⟨w.heap.size+4,1,none⟩ (.slice A5 (pre.length+1) c5)):=by
       have h2:=aT HC5.out (g:=w.heap.size+4) (by omega) 1 (.slice A5 (pre.length+1) c5) (w.heap.size+4,197,#[.int .i64 0,.slice A2 pre.length c2,.bool false]) (by simp [dE]) rfl (by simp)
       rw [hln,zA3,im]
       simpa [cZ,dE,fd,gG,bA] using h2
      have h9:=wu (pre:=pre++[(((q1,q2),0):fU)]) (HP.out.next HSP.out rfl (by show 0≤left - (q1+1);have:=HLV.out;omega) (by show 0≤q1;omega)) (by show ay w (dE w.heap.size A n c false 0 (left - (q1+1)) _ _ _) _ _;rw [HLV.out];exact HCb)
      refine ⟨ak (di (ak (KeepsFrom.refl _ _) _ _) (ie (KeepsFrom.refl _ _) HG5.out (gw HCa.out.2.2.head))) _ _,trivial,h9.1,?_,h9.2.2⟩
      rw [hln]
      exact h9.2.1
  case done=>
   rintro D xs W2 hD ⟨hS,hend⟩ ⟨hI,hb1,hb2⟩ hK
   obtain ⟨left,v,hp,hc⟩:=zIO hI hb1 hb2
   have hq2:=hp.fin hend
   have hpo:=je l (k:Int) true (by omega) (by rw [HN.out];omega) (xs.length+1)
   rw [HN.out] at hpo
   rw [HQ.out] at hq2
   have HQ2:=zAA hq2
   clear hI hb1 hb2 hS hend hp hq2
   obtain ⟨A2,c2,hv2⟩:=bj hc.2.2.head
   dsimp only at hv2
   subst hv2
   obtain ⟨pz,hpz⟩:∃pz,cz l (k:Int) true (xs.length+1)=pz:=⟨_,rfl⟩
   rw [hpz] at hc HQ2 hpo
   obtain ⟨hpo1,hpo2⟩:=hpo
   have hwz:zAF.wrap (pz - (k:Int))=pz - (k:Int):=by rw [zAC];omega
   have HC:=zAA hc;have HK:=zAA hK;have HD:=zAA hD
   have HCd:=zAA (bM hc)
   have hx:=hc.2.1
   have hxd:=HCd.out.2.1
   clear hc hK hpz hD
   unfold dE fd at hx
   unfold dE at hxd
   have HKI:=zAA hxd.head;have HCU:=zAA hxd.tail.tail.tail.head
   clear hxd
   have b0:=hx.tail.tail.tail.tail.tail.head.cell 0;have b1:=hx.tail.tail.tail.tail.tail.head.cell 1;have b2:=hx.tail.tail.tail.tail.tail.tail.head.cell 0;have b3:=hx.tail.tail.tail.tail.tail.tail.tail.head.cell 0
   have bf0:=hx.tail.tail.tail.tail.tail.head.frozen 0;have bf1:=hx.tail.tail.tail.tail.tail.head.frozen 1;have bf2:=hx.tail.tail.tail.tail.tail.tail.head.frozen 0;have bf3:=hx.tail.tail.tail.tail.tail.tail.tail.head.frozen 0
   dsimp only at b0 b1 b2 b3 bf0 bf1 bf2 bf3
   clear hx
   gi_wp2_with fail
   go_wp2_with fail
   refine ai (fun w'=>aa [(w.heap.size+4,197,#[.int .i64 0,.slice A2 xs.length c2,.bool false]),(w.heap.size+3,302,#[.slice A n c,.int .i64 pz])] w') 9 (.take 0 (.take 1 (.take 2 (.take 3 (.take 4 (.take 5 (.take 6 (.take 7 (.step 8 .done))))))))) (by kernel_rfl) (by kernel_rfl) (by simp only [aR.out,Array.getD_eq_getD_getElem?,zAX,zAV,zAU,zA1];rfl) (by simp only [zA2,zA4];rfl) (aa.cons HKI.out (aa.cons HCU.out (ag _))) (fun PE hPE=>?_)
   iterate 8
    refine ah (v:=?_) rfl (by rfl) ?_ ?_
    rotate_left
    ·intro _ hSw;(try dsimp only at hSw);have z0:=hSw.head.cell 0;have z1:=hSw.head.cell 1;have z2:=hSw.tail.head.cell 0;have z3:=hSw.tail.head.cell 1;dsimp only at z0 z1 z2 z3;go_simp;(try with_reducible rfl)
    simp only [zAB,zAE,zAD]
   refine bG _ (w':=?_) rfl (by rfl) ?_ ?_ ?_
   rotate_left 1
   ·go_simp;(first|(with_reducible rfl)|(constructor<;>with_reducible rfl)|skip)
   ·exact aa.cons ((HKI.out.far (p:=⟨w.heap.size,0,none⟩) (by simp) (.int .i64 0)).far (p:=⟨w.heap.size,1,none⟩) (by simp) (.slice A2 xs.length c2)) (aa.cons ((HCU.out.far (p:=⟨w.heap.size,0,none⟩) (by simp) (.int .i64 0)).far (p:=⟨w.heap.size,1,none⟩) (by simp) (.slice A2 xs.length c2)) (ag _))
   refine hPE _ _ ?_
   clear hPE PE
   simp only [zAW,zA0]
   go_wp2_with fail
   refine ⟨rfl,?_⟩
   go_wp2_with fail
   have hc5:=bM (i7 0 (.slice A2 xs.length c2) (pz - (k:Int)) 0 (lE HC.out) (by simp))
   have hhD:w.heap.size+8≤D:=by have:=HD.out;rw [HS8.out] at this;exact this
   have hK5:(zAd ((((W2.setCell ⟨w.heap.size,0,none⟩ (.int .i64 0)).setCell ⟨w.heap.size,1,none⟩ (.slice A2 xs.length c2)).setCell ⟨w.heap.size+1,0,none⟩ (.int .i64 (pz - (k:Int)))).setCell ⟨w.heap.size+2,0,none⟩ (.int .i64 0))).heap[D]? =some (.deferred (some [])):=by
    show (zAb _ _ _).heap[D]? =_
    rw [Below.heap_setCell _ _ _ D (by show D≠w.heap.size+2;omega),Below.heap_setCell _ _ _ D (by show D≠w.heap.size+1;omega),Below.heap_setCell _ _ _ D (by show D≠w.heap.size;omega),Below.heap_setCell _ _ _ D (by show D≠w.heap.size;omega)]
    exact HK.out
   have hc6:=ia (o':= .deferred none) hc5 hK5 rfl (by omega)
   have hrr:r=(⟨0,xs.map (·.1)⟩,pz - (k:Int),0):=by
    have h:=HR.out
    rw [HQ2.out] at h
    exact h.symm.trans (if_neg (by simp))
   rw [hrr]
   exact ef hK5 (gy w.heap.size 0 (.slice A2 xs.length c2) (pz - (k:Int)) 0 _ _ hc6.2.1 rfl rfl rfl) ⟨.slice A2 xs.length c2,rfl,hc6.1,by show zAa _ _ _ _ _ (xs.map (·.1)).length _;rw [zA9];exact hc6.2.2.head⟩
  case stop=>
   rintro D cd pre W2 hD hsp ⟨⟨rfl,hbel,hcs,_⟩,hne⟩ hK
   have HBel:=zAA hbel;have HCS:=zAA hcs;have HK:=zAA hK;have HD:=zAA hD;have HNE:=zAA hne
   clear hbel hcs hK hsp hD hne
   have hrr:r=(⟨0,[]⟩,0,q.2.2):=by
    have h:=HR.out
    rw [if_pos (by simpa using HNE.out)] at h
    exact h.symm
   have HRR:=zAA hrr
   clear hrr
   gi_wp2_with fail
   rw [HRR.out]
   exact ef HK.out (gy w.heap.size 0 (.slice none 0 0) 0 q.2.2 _ _ (cF (o':= .deferred none) HCS.out HK.out rfl) rfl rfl rfl) ⟨.slice none 0 0,rfl,cq HBel.out (zAc HB8.out HD.out),zAI _ _ _ _⟩
 |true=>
  rw [if_pos (show true=true from rfl)] at hr
  by_cases hmore:8*(n:Int)<(k:Int)+8
  ·rw [if_pos hmore] at hr
   subst hr
   have Rd:=zAA (fun W=>de A n c (k:Int) 8 W (by omega) (by decide) (by decide) (by omega) hsz)
   clear hmore
   refine (callsIn_wide (n:=5)).1 ?_
   refine callsIn_of_wp_marks Tryz.func259 rfl trivial ?_ rfl
   simp only [Tryz.ntmps259,zAM,zAK,zAN,zAH,zAY,Array.replicate_succ,Array.replicate_zero,zAL,zAJ,zAS,zAO]
   refine wpIn_wide.2 ?_
   go_wp2_with (first|(go_at_call 84;refine (dd A n c _ hsz).mono ?_;rintro e w' ⟨rfl,rfl⟩)|(go_at_call 56;refine (Rd.out _).mono ?_;rintro e w' ⟨rfl,rfl⟩))
   simp only [zAZ,zAH]
   refine il (gy w.heap.size 0 (.slice none 0 0) 0 5 _ _ ?_ rfl rfl rfl) ⟨.slice none 0 0,rfl,?_,zAI _ _ _ _⟩
   ·unfold fd
    refine aa.cons ?_ (aa.cons ?_ (aa.cons ?_ (ag _)))
    all_goals (repeat (first|(refine aD (ab.new _ _ _) ?_;simp [zAP];done)|refine ab.alloc ?_ _))
   ·exact ((((((Below.refl _ _).alloc (zAG _) _).alloc (by simp) _).alloc (by simp;omega) _).alloc (by simp;omega) _).alloc (by simp;omega) _).alloc (by simp;omega) _
  ·rw [if_neg hmore] at hr
   have hk8:k+8≤8*n:=by omega
   obtain ⟨nb,hnb⟩:∃nb,aF l k 8=nb:=⟨_,rfl⟩
   dsimp only at hr
   rw [hnb] at hr
   have Rd:=zAA (fun W h=>fM (nb:Int) A n c l (k:Int) 8 W (by rw [zAT];show ((aF l k 8:Nat):Int)=_;rw [hnb]) h HN.out (by omega) (by decide) (by decide) (by omega) hsz)
   clear hmore hnb
   cases hz:((nb==0)||(nb==128)) with
   |true=>
    rw [hz,if_pos rfl] at hr
    subst hr
    have hz2:nb=0∨nb=128:=by simpa using hz
    clear hz
    rcases hz2 with rfl|rfl
    ·skip
     refine (callsIn_wide (n:=5)).1 ?_
     refine callsIn_of_wp_marks Tryz.func259 rfl trivial ?_ rfl
     simp only [Tryz.ntmps259,zAM,zAK,zAN,zAH,zAY,Array.replicate_succ,Array.replicate_zero,zAL,zAJ,zAS,zAO]
     refine wpIn_wide.2 ?_
     go_wp2_with (first|(go_at_call 84;refine (dd A n c _ hsz).mono ?_;rintro e w' ⟨rfl,rfl⟩)|(go_at_call 56;refine (Rd.out _ (HA.out.below (((((((Below.refl _ _).alloc (zAG _) _).alloc (by simp) _).alloc (by simp;omega) _).alloc (by simp;omega) _).alloc (by simp;omega) _).alloc (by simp;omega) _))).mono ?_;rintro e w' ⟨rfl,rfl⟩))
     simp only [zAZ,zAH]
     refine il (gy w.heap.size 0 (.slice none 0 0) 0 10 _ _ ?_ rfl rfl rfl) ⟨.slice none 0 0,rfl,?_,zAI _ _ _ _⟩
     ·unfold fd
      refine aa.cons ?_ (aa.cons ?_ (aa.cons ?_ (ag _)))
      all_goals (repeat (first|(refine aD (ab.new _ _ _) ?_;simp [zAP];done)|refine ab.alloc ?_ _))
     ·exact ((((((Below.refl _ _).alloc (zAG _) _).alloc (by simp) _).alloc (by simp;omega) _).alloc (by simp;omega) _).alloc (by simp;omega) _).alloc (by simp;omega) _
    ·skip
     refine (callsIn_wide (n:=5)).1 ?_
     refine callsIn_of_wp_marks Tryz.func259 rfl trivial ?_ rfl
     simp only [Tryz.ntmps259,zAM,zAK,zAN,zAH,zAY,Array.replicate_succ,Array.replicate_zero,zAL,zAJ,zAS,zAO]
     refine wpIn_wide.2 ?_
     go_wp2_with (first|(go_at_call 84;refine (dd A n c _ hsz).mono ?_;rintro e w' ⟨rfl,rfl⟩)|(go_at_call 56;refine (Rd.out _ (HA.out.below (((((((Below.refl _ _).alloc (zAG _) _).alloc (by simp) _).alloc (by simp;omega) _).alloc (by simp;omega) _).alloc (by simp;omega) _).alloc (by simp;omega) _))).mono ?_;rintro e w' ⟨rfl,rfl⟩))
     simp only [zAZ,zAH]
     refine il (gy w.heap.size 0 (.slice none 0 0) 0 10 _ _ ?_ rfl rfl rfl) ⟨.slice none 0 0,rfl,?_,zAI _ _ _ _⟩
     ·unfold fd
      refine aa.cons ?_ (aa.cons ?_ (aa.cons ?_ (ag _)))
      all_goals (repeat (first|(refine aD (ab.new _ _ _) ?_;simp [zAP];done)|refine ab.alloc ?_ _))
     ·exact ((((((Below.refl _ _).alloc (zAG _) _).alloc (by simp) _).alloc (by simp;omega) _).alloc (by simp;omega) _).alloc (by simp;omega) _).alloc (by simp;omega) _
   |false=>
    rw [hz,if_neg (by decide)] at hr
    have hz0:((nb:Int)==0)=false:=by simp at hz⊢;omega
    have hz1:((nb:Int)==128)=false:=by simp at hz⊢;omega
    have hwk:zAF.wrap ((k:Int)+8)=(k:Int)+8:=by rw [zAC];omega
    clear hz
    refine (callsIn_wide (n:=5)).1 ?_
    refine callsIn_of_wp_marks Tryz.func259 rfl trivial ?_ rfl
    simp only [Tryz.ntmps259,zAM,zAK,zAN,zAH,zAY,Array.replicate_succ,Array.replicate_zero,zAL,zAJ,zAS,zAO]
    refine wpIn_wide.2 ?_
    go_wp2_with (first|(go_at_call 84;refine (dd A n c _ hsz).mono ?_;rintro e w' ⟨rfl,rfl⟩)|(go_at_call 56;refine (Rd.out _ (HA.out.below (((((((Below.refl _ _).alloc (zAG _) _).alloc (by simp) _).alloc (by simp;omega) _).alloc (by simp;omega) _).alloc (by simp;omega) _).alloc (by simp;omega) _))).mono ?_;rintro e w' ⟨rfl,rfl⟩)|(go_at_call 277;refine (pd _ _ _).mono ?_;rintro e w' ⟨rfl,rfl⟩))
    have hc6:ay w ((w.heap.size+4,197,#[.int .i64 (nb:Int),.slice none 0 0,.bool true])::(w.heap.size+5,3,#[.int .i64 63])::(w.heap.size+3,302,#[.slice A n c,.int .i64 ((k:Int)+8)])::fd w.heap.size 0 (.slice none 0 0) 0 0) [] ((((((w.alloc (.cells #[.int .i64 0,.slice none 0 0] 93)).alloc (.cells #[.int .i64 0] 3)).alloc (.cells #[.int .i64 0] 26)).alloc (.cells #[.slice A n c,.int .i64 ((k:Int)+8)] 302)).alloc (.cells #[.int .i64 (nb:Int),.slice none 0 0,.bool true] 197)).alloc (.cells #[.int .i64 63] 3)):=by
     refine ⟨(((((((Below.refl _ _).alloc (zAG _) _).alloc (by simp) _).alloc (by simp;omega) _).alloc (by simp;omega) _).alloc (by simp;omega) _).alloc (by simp;omega) _),?_,aE _⟩
     unfold fd
     refine aa.cons ?_ (aa.cons ?_ (aa.cons ?_ (aa.cons ?_ (aa.cons ?_ (aa.cons ?_ (ag _))))))
     all_goals (repeat (first|(refine aD (ab.new _ _ _) ?_;simp [zAP];done)|refine ab.alloc ?_ _))
    have hs6:((((((w.alloc (.cells #[.int .i64 0,.slice none 0 0] 93)).alloc (.cells #[.int .i64 0] 3)).alloc (.cells #[.int .i64 0] 26)).alloc (.cells #[.slice A n c,.int .i64 ((k:Int)+8)] 302)).alloc (.cells #[.int .i64 (nb:Int),.slice none 0 0,.bool true] 197)).alloc (.cells #[.int .i64 63] 3)).heap.size=w.heap.size+6:=by simp
    simp only [zAZ,zAH]
    generalize (((((w.alloc (.cells #[.int .i64 0,.slice none 0 0] 93)).alloc (.cells #[.int .i64 0] 3)).alloc (.cells #[.int .i64 0] 26)).alloc (.cells #[.slice A n c,.int .i64 ((k:Int)+8)] 302)).alloc (.cells #[.int .i64 (nb:Int),.slice none 0 0,.bool true] 197)).alloc (.cells #[.int .i64 63] 3)=W6 at hc6 hs6⊢
    obtain ⟨q,hq⟩:∃q,bm l 66 ((k:Int)+8) false 63=q:=⟨_,rfl⟩
    rw [hq] at hr
    have HR:=zAA hr;have HQ:=zAA hq
    clear hr hq
    obtain ⟨hI0,hbc,hbf⟩:=wv (A:=A) (n:=n) (c:=c) (intra:=true) (dc:=(nb:Int)) (l:=l) (i:=((k:Int)+8)) (left0:=63) (first:=false) hc6 hs6 (by decide) (by decide)
    have hs8:((W6.alloc (.cells #[.pointer (some ⟨w.heap.size+3,0,none⟩)] 300)).alloc (.cells #[.bool false] 4)).heap.size=w.heap.size+8:=by simp [hs6]
    generalize (W6.alloc (.cells #[.pointer (some ⟨w.heap.size+3,0,none⟩)] 300)).alloc (.cells #[.bool false] 4)=W at hI0 hbc hbf hs8⊢
    have HI0:=zAA hI0;have HBC:=zAA hbc;have HBF:=zAA hbf;have HS8:=zAA hs8
    clear hI0 hbc hbf hs8 hc6 hs6
    have HB8:Hid (w.heap.size≤W.heap.size):=zAA (by rw [HS8.out];omega)
    refine (wpIn_wide (n:=5)).1 ?_
    refine tc (α:=fU) (enc:=fun x:fU=> #[.agg #[.int .i64 x.1.1,.int .i64 x.1.2],.int .i64 x.2])
     (IS:=fun pre W=>lM w A n c true (nb:Int) l ((k:Int)+8) false 63 pre W∧ab W (w.heap.size+3) 302 #[.slice A n c,.int .i64 ((k:Int)+8)]∧ab W (w.heap.size+7) 4 #[.bool false])
     (I:=fun pre W=>lM w A n c true (nb:Int) l ((k:Int)+8) false 63 pre W∧ab W (w.heap.size+3) 302 #[.slice A n c,.int .i64 (cz l ((k:Int)+8) false (pre.length+1))]∧ab W (w.heap.size+7) 4 #[.bool false])
     (I2:=fun pre W=>lM w A n c true (nb:Int) l ((k:Int)+8) false 63 pre W∧ab W (w.heap.size+3) 302 #[.slice A n c,.int .i64 (cz l ((k:Int)+8) false pre.length)]∧ab W (w.heap.size+7) 4 #[.bool false])
     (IE:=fun pre W=>lM w A n c true (nb:Int) l ((k:Int)+8) false 63 pre W∧ab W (w.heap.size+3) 302 #[.slice A n c,.int .i64 (cz l ((k:Int)+8) false (pre.length+1))]∧ab W (w.heap.size+7) 4 #[.bool false])
     (S:=fun xs=>mw l ((k:Int)+8) false xs∧(gK l ((k:Int)+8) false xs.length).2.1=true) (Sp:=mw l ((k:Int)+8) false)
     rfl (by decide) (gf:=288) (lb:= #[.pointer (some ⟨w.heap.size+6,0,none⟩),.pointer (some ⟨w.heap.size+7,0,none⟩)]) rfl trivial (enters_of Tryz.func288 (by kernel_rfl) rfl)
     (uM 4 (by decide) (w.heap.size+3) (w.heap.size+6) (w.heap.size+7) A n c l ((k:Int)+8) false HN.out hsz (by omega) (by rw [HN.out];omega) (by omega) _ (fun pre W v h=>Ar v h) (fun pre W v h=>Au v h) (fun pre A B h hb=>gC pre A B h hb) ?hC0 ?hCs) (fun _=>rfl)
     (fun cd _ W=>mY w (fd w.heap.size 0 (.slice none 0 0) 0 q.2.2) cd W∧q.2.2≠0)
     (fun pre x g W=>Iw w A n c true (nb:Int) l ((k:Int)+8) false 63 x g pre W∧ab W (w.heap.size+3) 302 #[.slice A n c,.int .i64 (cz l ((k:Int)+8) false (pre.length+1))]∧ab W (w.heap.size+7) 4 #[.bool false])
     (OwnFrom.and (bq HB8.out _ _ _) (OwnFrom.and (bp _ _ _) (bp _ _ _))) (OwnFrom.and (bq HB8.out _ _ _) (OwnFrom.and (bp _ _ _) (bp _ _ _))) (OwnFrom.and (bq HB8.out _ _ _) (OwnFrom.and (bp _ _ _) (bp _ _ _)))
     (fun cd=>OwnFrom.and (ik HB8.out _ _) (ownFrom_pure _ _)) (fun x g=>OwnFrom.and (bq HB8.out _ _ _) (OwnFrom.and (bp _ _ _) (bp _ _ _))) ⟨HI0.out,HBC.out,HBF.out⟩ ?round ?done ?stop
    case hC0=>
     rintro pre W' ⟨⟨k',hp,_⟩⟩
     exact hp.zero
    case hCs=>
     rintro pre W' ⟨⟨k',hp,hc⟩⟩
     have hx:=hc.2.1
     unfold dE at hx
     exact ⟨hx.tail.tail.head,HA.out.below hc.1,HT.out.below hc.1⟩
    case round=>
     apply Exists.intro
     refine And.intro ?_ ?_
     ·rintro lp pre x W' ⟨⟨⟨k',hp,hc⟩⟩,hb1,hb2⟩ hsp
      have HP:=zAA hp;have HC:=zAA hc;have HB1:=zAA hb1;have HB2:=zAA hb2
      clear hp hc hb1 hb2 hsp
      dsimp only
      gi_wp2
      obtain ⟨g0,hg0⟩:∃g0,W'.heap.size=g0:=⟨_,rfl⟩
      have hcc:=dO (ao HC.out (.cells #[.int .i64 x.1.1,.int .i64 x.1.2] 189)) (aD (ab.new W' 189 #[.int .i64 x.1.1,.int .i64 x.1.2]) hg0)
      rw [hg0]
      exact ⟨⟨g0,rfl,⟨⟨k',HP.out,hcc⟩⟩,HB1.out.alloc _,HB2.out.alloc _⟩,ce (KeepsFrom.refl _ _) _⟩
     ·rintro lp pre x g W' ⟨hJ,hb1,hb2⟩ hsp
      obtain ⟨left,v,hp,hc⟩:=Gv hJ hb1 hb2
      clear hJ hb1 hb2
      have hlast:=mp hsp
      obtain ⟨⟨q1,q2⟩,er⟩:=x
      dsimp only at hc
      obtain ⟨A2,c2,hv2⟩:=bj hc.2.2.head
      dsimp only at hv2
      subst hv2
      have HP:=zAA hp;have HC:=zAA hc;have HSP:=zAA hsp;have HLA:=zAA hlast
      have hx:=hc.2.1
      clear hp hc hsp hlast
      unfold dE fd at hx
      have hgn:g≠w.heap.size+5:=aS hx.head hx.tail.tail.head (by simp)
      have hgn':w.heap.size+5≠g:=fun h=>hgn h.symm
      have p0:=hx.head.cell 0;have p1:=hx.head.cell 1
      have k0:=hx.tail.head.cell 0;have k1:=hx.tail.head.cell 1;have k2:=hx.tail.head.cell 2;have kf1:=hx.tail.head.frozen 1
      have l0:=hx.tail.tail.head.cell 0;have lf:=hx.tail.tail.head.frozen 0
      have b0:=hx.tail.tail.tail.tail.tail.tail.head.cell 0;have b1:=hx.tail.tail.tail.tail.tail.tail.head.cell 1;have b2:=hx.tail.tail.tail.tail.tail.tail.tail.head.cell 0;have b3:=hx.tail.tail.tail.tail.tail.tail.tail.tail.head.cell 0
      have bf0:=hx.tail.tail.tail.tail.tail.tail.head.frozen 0;have bf1:=hx.tail.tail.tail.tail.tail.tail.head.frozen 1;have bf2:=hx.tail.tail.tail.tail.tail.tail.tail.head.frozen 0;have bf3:=hx.tail.tail.tail.tail.tail.tail.tail.tail.head.frozen 0
      dsimp only at p0 p1 k0 k1 k2 kf1 l0 lf b0 b1 b2 b3 bf0 bf1 bf2 bf3
      clear hx
      cases he:(er !=0) with
      |true=>
       have hne:er≠0:=by simpa using he
       have HNE:=zAA hne
       clear hne
       have hq2:q.2.2=er:=by rw [←HQ.out];exact HP.out.err HSP.out HNE.out
       have HQ2:=zAA hq2
       clear hq2
       gi_wp2_with fail
       refine ⟨ak (ak (ak (ak (KeepsFrom.refl _ _) _ _) _ _) _ _) _ _,⟨rfl,?_⟩,by rw [HQ2.out];exact HNE.out⟩
       rw [HQ2.out]
       exact i7 0 (.slice none 0 0) 0 er (kZ (lE (ar HC.out))) (by simp)
      |false=>
       have he0:er=0:=by simpa using he
       subst he0
       have hgk:=HLA.out
       obtain ⟨hg1,hg2⟩:=hgk
       have hok:=nt l (cz l ((k:Int)+8) false pre.length) (ib false pre.length) (je l ((k:Int)+8) false (by omega) (by rw [HN.out];omega) _).1 (je l ((k:Int)+8) false (by omega) (by rw [HN.out];omega) _).2
       have hq1:0≤q1∧q1≤63:=by
        have h1:=(Prod.mk.inj hg1).1
        have h2:=(Prod.mk.inj hg1).2
        have h3:=hok.2.2.2.1 h2.symm hg2
        have h4:(aL l (cz l ((k:Int)+8) false pre.length) (ib false pre.length)).1=(q1,q2):=h1.symm
        rw [h4] at h3
        exact ⟨h3.1,h3.2.1⟩
       obtain ⟨hq0,hq63⟩:=hq1
       clear hok hg1 hg2
       have hl0:=HP.out.pos
       have hls:=HP.out.sum
       have hw1:zAF.wrap (q1+1)=q1+1:=by rw [zAC];omega
       have hw2:zAF.wrap (left - (q1+1))=left - (q1+1):=by rw [zAC];omega
       have HLL:=zAA hls;have HL0:=zAA hl0
       clear hls hl0
       obtain ⟨lv,hlv⟩:∃lv,left - (q1+1)=lv:=⟨_,rfl⟩
       rw [hlv] at hw2
       have hw3:zAF.wrap lv=lv:=hw2
       have HLV:=zAA hlv
       have HCa:Hid (ay w (dE w.heap.size A n c true (nb:Int) lv (.slice A2 pre.length c2) (.int .i64 (cz l ((k:Int)+8) false (pre.length+1))) (.bool false)) [⟨w.heap.size,189,2,.slice A2 pre.length c2,pre.length,av bA (pre.map (·.1))⟩] (W'.setCell ⟨w.heap.size+5,0,none⟩ (.int .i64 lv))):=zAA (by
        have h2:=aT (ar HC.out) (g:=w.heap.size+5) (by omega) 0 (.int .i64 lv) (w.heap.size+5,3,#[.int .i64 left]) (by simp [dE]) rfl (by simp)
        simpa [cZ,dE,fd] using h2)
       by_cases hneg:lv<0
       ·have hq2:q.2.2=11:=by rw [←HQ.out];exact HP.out.run HSP.out rfl (by show left - (q1+1)<0;omega)
        have HQ2:=zAA hq2
        clear hq2
        gi_wp2_with fail
        refine ⟨ak (ak (ak (ak (ak (KeepsFrom.refl _ _) _ _) _ _) _ _) _ _) _ _,⟨rfl,?_⟩,by rw [HQ2.out];decide⟩
        rw [HQ2.out]
        exact i7 0 (.slice none 0 0) 0 11 (kZ (lE HCa.out)) (by simp)
       ·have HLE:=zAA (show pre.length≤64 from HP.out.len)
        gi_wp2_with (gi_at_builtin;refine kN DA rfl rfl 1 [.int .i64 q1,.int .i64 q2] rfl HCa.out (by rw [zA8];rfl) rfl (by intro u hu;simp at hu;rcases hu with rfl|rfl<;>rfl) (by have:=HLE.out;omega) ⟨zAG _,HCa.out.1.size⟩ (by simp [dE,fd]) (by simp) ?_;intro v5 W5 hc5 hg5;obtain ⟨A5,c5,e5⟩:=bj hc5.2.2.head;dsimp only at e5;subst e5;have HC5:=zAA hc5;have HG5:=zAA hg5;have hy:=hc5.2.1;clear hc5 hg5;unfold dE at hy;have y0:=hy.head.cell 0;have y1:=hy.head.cell 1;have y2:=hy.head.cell 2;have yf:=hy.head.frozen 1;dsimp only at y0 y1 y2 yf;clear hy)
        have hln:(pre++[(((q1,q2),0):fU)]).length=pre.length+1:=by simp
        have HCb:ay w (dE w.heap.size A n c true (nb:Int) lv (.slice A5 (pre.length+1) c5) (.int .i64 (cz l ((k:Int)+8) false (pre.length+1))) (.bool false)) [⟨w.heap.size,189,2,.slice A5 (pre.length+1) c5,(pre++[(((q1,q2),0):fU)]).length,av bA ((pre++[(((q1,q2),0):fU)]).map (·.1))⟩] (W5.setCell ⟨w.heap.size+4,1,none⟩ (.slice A5 (pre.length+1) c5)):=by
         have h2:=aT HC5.out (g:=w.heap.size+4) (by omega) 1 (.slice A5 (pre.length+1) c5) (w.heap.size+4,197,#[.int .i64 (nb:Int),.slice A2 pre.length c2,.bool true]) (by simp [dE]) rfl (by simp)
         rw [hln,zA3,im]
         simpa [cZ,dE,fd,gG,bA] using h2
        have h9:=wu (pre:=pre++[(((q1,q2),0):fU)]) (HP.out.next HSP.out rfl (by show 0≤left - (q1+1);have:=HLV.out;omega) (by show 0≤q1;omega)) (by show ay w (dE w.heap.size A n c true (nb:Int) (left - (q1+1)) _ _ _) _ _;rw [HLV.out];exact HCb)
        refine ⟨ak (di (ak (KeepsFrom.refl _ _) _ _) (ie (KeepsFrom.refl _ _) HG5.out (gw HCa.out.2.2.head))) _ _,trivial,h9.1,?_,h9.2.2⟩
        rw [hln]
        exact h9.2.1
    case done=>
     rintro D xs W2 hD ⟨hS,hend⟩ ⟨hI,hb1,hb2⟩ hK
     obtain ⟨left,v,hp,hc⟩:=zIO hI hb1 hb2
     have hq2:=hp.fin hend
     have hpo:=je l ((k:Int)+8) false (by omega) (by rw [HN.out];omega) (xs.length+1)
     rw [HN.out] at hpo
     rw [HQ.out] at hq2
     have HQ2:=zAA hq2
     clear hI hb1 hb2 hS hend hp hq2
     obtain ⟨A2,c2,hv2⟩:=bj hc.2.2.head
     dsimp only at hv2
     subst hv2
     obtain ⟨pz,hpz⟩:∃pz,cz l ((k:Int)+8) false (xs.length+1)=pz:=⟨_,rfl⟩
     rw [hpz] at hc HQ2 hpo
     obtain ⟨hpo1,hpo2⟩:=hpo
     have hwz:zAF.wrap (pz - (k:Int))=pz - (k:Int):=by rw [zAC];omega
     have HC:=zAA hc;have HK:=zAA hK;have HD:=zAA hD
     have HCd:=zAA (bM hc)
     have hx:=hc.2.1
     have hxd:=HCd.out.2.1
     clear hc hK hpz hD
     unfold dE fd at hx
     unfold dE at hxd
     have HKI:=zAA hxd.head;have HCU:=zAA hxd.tail.tail.tail.head
     clear hxd
     have b0:=hx.tail.tail.tail.tail.tail.head.cell 0;have b1:=hx.tail.tail.tail.tail.tail.head.cell 1;have b2:=hx.tail.tail.tail.tail.tail.tail.head.cell 0;have b3:=hx.tail.tail.tail.tail.tail.tail.tail.head.cell 0
     have bf0:=hx.tail.tail.tail.tail.tail.head.frozen 0;have bf1:=hx.tail.tail.tail.tail.tail.head.frozen 1;have bf2:=hx.tail.tail.tail.tail.tail.tail.head.frozen 0;have bf3:=hx.tail.tail.tail.tail.tail.tail.tail.head.frozen 0
     dsimp only at b0 b1 b2 b3 bf0 bf1 bf2 bf3
     clear hx
     gi_wp2_with fail
     go_wp2_with fail
     refine ai (fun w'=>aa [(w.heap.size+4,197,#[.int .i64 (nb:Int),.slice A2 xs.length c2,.bool true]),(w.heap.size+3,302,#[.slice A n c,.int .i64 pz])] w') 9 (.take 0 (.take 1 (.take 2 (.take 3 (.take 4 (.take 5 (.take 6 (.take 7 (.step 8 .done))))))))) (by kernel_rfl) (by kernel_rfl) (by simp only [aR.out,Array.getD_eq_getD_getElem?,zAX,zAV,zAU,zA1];rfl) (by simp only [zA2,zA4];rfl) (aa.cons HKI.out (aa.cons HCU.out (ag _))) (fun PE hPE=>?_)
     iterate 8
      refine ah (v:=?_) rfl (by rfl) ?_ ?_
      rotate_left
      ·intro _ hSw;(try dsimp only at hSw);have z0:=hSw.head.cell 0;have z1:=hSw.head.cell 1;have z2:=hSw.tail.head.cell 0;have z3:=hSw.tail.head.cell 1;dsimp only at z0 z1 z2 z3;go_simp;(try with_reducible rfl)
      simp only [zAB,zAE,zAD]
     refine bG _ (w':=?_) rfl (by rfl) ?_ ?_ ?_
     rotate_left 1
     ·go_simp;(first|(with_reducible rfl)|(constructor<;>with_reducible rfl)|skip)
     ·exact aa.cons ((HKI.out.far (p:=⟨w.heap.size,0,none⟩) (by simp) (.int .i64 (nb:Int))).far (p:=⟨w.heap.size,1,none⟩) (by simp) (.slice A2 xs.length c2)) (aa.cons ((HCU.out.far (p:=⟨w.heap.size,0,none⟩) (by simp) (.int .i64 (nb:Int))).far (p:=⟨w.heap.size,1,none⟩) (by simp) (.slice A2 xs.length c2)) (ag _))
     refine hPE _ _ ?_
     clear hPE PE
     simp only [zAW,zA0]
     go_wp2_with fail
     refine ⟨rfl,?_⟩
     go_wp2_with fail
     have hc5:=bM (i7 (nb:Int) (.slice A2 xs.length c2) (pz - (k:Int)) 0 (lE HC.out) (by simp))
     have hhD:w.heap.size+8≤D:=by have:=HD.out;rw [HS8.out] at this;exact this
     have hK5:(zAd ((((W2.setCell ⟨w.heap.size,0,none⟩ (.int .i64 (nb:Int))).setCell ⟨w.heap.size,1,none⟩ (.slice A2 xs.length c2)).setCell ⟨w.heap.size+1,0,none⟩ (.int .i64 (pz - (k:Int)))).setCell ⟨w.heap.size+2,0,none⟩ (.int .i64 0))).heap[D]? =some (.deferred (some [])):=by
      show (zAb _ _ _).heap[D]? =_
      rw [Below.heap_setCell _ _ _ D (by show D≠w.heap.size+2;omega),Below.heap_setCell _ _ _ D (by show D≠w.heap.size+1;omega),Below.heap_setCell _ _ _ D (by show D≠w.heap.size;omega),Below.heap_setCell _ _ _ D (by show D≠w.heap.size;omega)]
      exact HK.out
     have hc6:=ia (o':= .deferred none) hc5 hK5 rfl (by omega)
     have hrr:r=(⟨(nb:Int),xs.map (·.1)⟩,pz - (k:Int),0):=by
      have h:=HR.out
      rw [HQ2.out] at h
      exact h.symm.trans (if_neg (by simp))
     rw [hrr]
     exact ef hK5 (gy w.heap.size (nb:Int) (.slice A2 xs.length c2) (pz - (k:Int)) 0 _ _ hc6.2.1 rfl rfl rfl) ⟨.slice A2 xs.length c2,rfl,hc6.1,by show zAa _ _ _ _ _ (xs.map (·.1)).length _;rw [zA9];exact hc6.2.2.head⟩
    case stop=>
     rintro D cd pre W2 hD hsp ⟨⟨rfl,hbel,hcs,_⟩,hne⟩ hK
     have HBel:=zAA hbel;have HCS:=zAA hcs;have HK:=zAA hK;have HD:=zAA hD;have HNE:=zAA hne
     clear hbel hcs hK hsp hD hne
     have hrr:r=(⟨0,[]⟩,0,q.2.2):=by
      have h:=HR.out
      rw [if_pos (by simpa using HNE.out)] at h
      exact h.symm
     have HRR:=zAA hrr
     clear hrr
     gi_wp2_with fail
     rw [HRR.out]
     exact ef HK.out (gy w.heap.size 0 (.slice none 0 0) 0 q.2.2 _ _ (cF (o':= .deferred none) HCS.out HK.out rfl) rfl rfl rfl) ⟨.slice none 0 0,rfl,cq HBel.out (zAc HB8.out HD.out),zAI _ _ _ _⟩
def o7 (l:List UInt8) (a:Nat) (pre:List Nat):Prop:=∀k x,pre[k]? =some x→x=a+k∧x<8*l.length
theorem o7.snoc {l:List UInt8} {a:Nat} {pre:List Nat} (h:o7 l a pre) (hx:a+pre.length<8*l.length):o7 l a (pre++[a+pre.length]):=by
 intro k x hk
 rcases Nat.lt_trichotomy k pre.length with hlt|heq|hgt
 ·rw [List.getElem?_append_left hlt] at hk;exact h k x hk
 ·subst heq
  rw [zA7 (zAG _)] at hk
  simp at hk
  exact ⟨hk.symm,by omega⟩
 ·rw [zA7 (by omega),List.getElem?_eq_none (by simp;omega)] at hk
  cases hk
theorem yb {l:List UInt8} {a x:Nat} {pre:List Nat} (h:o7 l a (pre++[x])):x=a+pre.length∧x<8*l.length:=h pre.length x (by simp)
def tA (l:List UInt8) (i:Nat):Array Value:= #[.int .i64 (i:Int),.int .i64 ((aP l i:Nat):Int)]
def IM (gc:Nat) (w:World):Int:=match w.cell? ⟨gc,0,none⟩ with|some (.int .i64 x)=>x|_=>0
theorem An {w:World} {gc:Nat} {t:TypeId} {x:Int} (h:ab w gc t #[.int .i64 x]):IM gc w=x:=by
 unfold IM
 rw [h.cell 0]
 rfl
theorem uc (A:Option Addr) (m c:Nat) (a:Int) (w:World):Calls Tryz.prog 139 #[.slice A m c,.int .i64 a] w fun e w'=>e= .returned (.func (.func 183) #[] #[.pointer (some ⟨w.heap.size+1,0,none⟩),.pointer (some ⟨w.heap.size,0,none⟩)])∧w'=(w.alloc (.cells #[.slice A m c] 25)).alloc (.cells #[.int .i64 a] 3):=by
 go_enter Tryz.func139,Tryz.ntmps139
 go_wp2_with fail
 go_ret
 exact ⟨by simp,rfl⟩
set_option maxRecDepth 100000 in
set_option maxHeartbeats 8000000 in
theorem uv (n:Nat) (hn:1≤n) (ga gb:Nat) (A:Option Addr) (m c:Nat) (l:List UInt8) (a:Nat) (hl:l.length=m) (hsz:m≤2 ^ 40) (ha:a≤8*m) (C:List Nat→World→Prop)
  (hC1:∀pre W v,C pre W→C pre (W.setCell ⟨ga,0,none⟩ v)) (hCb:∀pre W W',C pre W→Below W.heap.size W W'→C pre W')
  (hCs:∀pre W,C pre W→ab W gb 25 #[.slice A m c]∧Sl W A (l.map af)):
  wj Fence.wide n Tryz.prog 183 #[.pointer (some ⟨ga,0,none⟩),.pointer (some ⟨gb,0,none⟩)] (tA l)
   (fun pre W=>C pre W∧ab W ga 3 #[.int .i64 (a:Int)])
   (fun pre W=>C pre W∧ab W ga 3 #[.int .i64 ((a+pre.length:Nat):Int)])
   (fun pre W=>C pre W∧ab W ga 3 #[.int .i64 (((a+pre.length:Nat):Int) - 1)])
   (fun pre W=>C pre W∧ab W ga 3 #[.int .i64 ((a+pre.length:Nat):Int)])
   (fun xs=>o7 l a xs∧8*m≤a+xs.length) (o7 l a):=by
 intro lp K Jx W hK hY h00 hk0
 refine callsIn_of_wp Tryz.func183 rfl trivial ?_ rfl
 simp only [Tryz.ntmps183,zAM,zAK,zAN,zAH,zAY,Array.replicate_succ,Array.replicate_zero,zAL,zAJ,zAS,zAO]
 have HY:=zAA hY;have HC1:=zAA hC1;have HCb:=zAA hCb;have HCs:=zAA hCs;have HK:=zAA hK;have HL:=zAA hl
 have H0:=zAA h00;have HK0:=zAA hk0;have HA8:=zAA ha
 clear hY hC1 hCb hCs hK hl h00 hk0 ha
 gi_wp2_with fail
 gi_loopw [] (fun wr=>∃(pre:List Nat),Hid (o7 l a pre)∧Hid (C pre wr)∧Hid (ab wr ga 3 #[.int .i64 ((a+pre.length:Nat):Int)])∧Hid (K wr)∧Hid (a+pre.length≤8*m)) (fun wr=>8*m - (IM ga wr).toNat)
 case atStart=>exact ⟨[],zAA (fun k x h=>by simp at h),zAA H0.out.1,zAA H0.out.2,HK0,HA8⟩
 case round=>
  obtain ⟨pre,HSP,HCr,HBc,HKr,HLE⟩:=hrel
  obtain ⟨p,hp⟩:∃p,a+pre.length=p:=⟨_,rfl⟩
  rw [hp] at HBc HLE
  have HP:=zAA hp
  obtain ⟨hb1,hA⟩:=HCs.out _ _ HCr.out
  have HS0:=zAA (show aa [(ga,3,#[.int .i64 (p:Int)]),(gb,25,#[.slice A m c])] wr.drew from aa.cons HBc.out (aa.cons hb1 (ag _)))
  have HA0:=zAA (show Sl wr.drew A (l.map af) from hA)
  have hB0:Below wr.heap.size wr wr.drew:=(Below.refl _ wr).drew
  have HC0:=zAA (HCb.out _ _ _ HCr.out hB0)
  have HKD:=zAA (HK.out.below HKr.out hB0)
  clear hp hb1 hA hB0
  gi_wp2_with fail
  refine kS (fun w'=>aa [(ga,3,#[.int .i64 (p:Int)]),(gb,25,#[.slice A m c])] w') 10 (.take 0 (.take 1 (.step 2 (.take 3 (.take 4 (.take 5 (.take 6 (.take 7 (.take 8 (.step 9 .done)))))))))) rfl (by kernel_rfl) (by kernel_rfl) (fun _ _ d _ _ h=>by cases d<;>exact h) (by simp only [aR.out,Array.getD_eq_getD_getElem?,zAX,zAV,zAU,zA1];rfl) (by simp only [zA2,zA4];rfl) (HS0.out) (fun PE hPE=>?_)
  iterate 2
   refine fH (v:=?_) rfl (by rfl) ?_ (fun _=>rfl) ?_
   rotate_left
   ·intro _ hSw;(try dsimp only at hSw);have z0:=hSw.head.cell 0;have z1:=hSw.tail.head.cell 0;(try dsimp only at z0 z1);go_simp;(try with_reducible rfl)
   simp only [zAB,zAE,zAD]
  refine lA (f:=84) rfl (by rfl) (by first|(go_simp;done)|(go_simp;rfl)) (dd A m c _ (by omega)) ?_
  rintro e w2 ⟨rfl,rfl⟩
  refine ⟨_,rfl,_,fun _ h=>h,HS0.out,?_⟩
  simp only [zAB,zAE,zAD]
  rcases Nat.lt_or_ge p (8*m) with hlt|hge
  ·have hlt':((p:Int)<8*(m:Int)):=by omega
   have hlt2:(decide ((p:Int)<8*(m:Int)))=true:=by simpa using hlt'
   iterate 6
    refine fH (v:=?_) rfl (by rfl) ?_ (fun _=>rfl) ?_
    rotate_left
    ·intro _ hSw;(try dsimp only at hSw);have z0:=hSw.head.cell 0;have z1:=hSw.tail.head.cell 0;(try dsimp only at z0 z1);go_simp;(try with_reducible rfl)
    simp only [zAB,zAE,zAD]
   have CB:=wB A m c l (p:Int) wr.drew HA0.out HL.out (by omega) (by omega)
   rw [zAT] at CB
   refine lA (f:=99) rfl (by rfl) (by first|(go_simp;done)|(go_simp;rfl)) CB ?_
   rintro e w2 ⟨rfl,rfl⟩
   refine ⟨_,rfl,_,fun _ h=>h,HS0.out,?_⟩
   simp only [zAB,zAE,zAD]
   have hsp:=HSP.out.snoc (by rw [HP.out,HL.out];exact hlt)
   rw [HP.out] at hsp
   obtain ⟨fn,tmps,assign,body,hyy,hR⟩:=HY.out pre p wr.drew ⟨HC0.out,by rw [HP.out];exact HS0.out.head⟩ HKD.out hsp
   have HR:=zAA hR;have HSP2:=zAA hsp
   dsimp only [tA] at hyy
   have hwp:zAF.wrap ((p:Int)+1)=(p:Int)+1:=by rw [zAC];omega
   have HLT:=zAA hlt
   clear hR hsp CB hlt
   refine hPE _ _ ?_
   clear hPE PE
   simp only [zAW,zA0]
   gi_wp2_with fail
   refine HR.out.mono ?_
   rintro e W3 (⟨rfl,hI3,hk3⟩|⟨rfl,hJx3⟩)
   ·have hI4:=hI3.2
    have e9:(((a+(pre++[p]).length:Nat):Int) - 1)=(p:Int):=by have:=HP.out;rw [zAQ,zAR];omega
    rw [e9] at hI4
    have HI4:=zAA hI4;have HC3:=zAA hI3.1;have HK3:=zAA hk3
    have z0:=hI4.cell 0;have z1:=hI4.frozen 0
    (try dsimp only at z0 z1)
    clear hI4 hI3 hk3 hyy e9
    gi_wp2_with fail
    have hset:=HI4.out.set_ 0 (.int .i64 ((p:Int)+1))
    refine ⟨⟨pre++[p],HSP2,zAA (HC1.out _ _ _ HC3.out),zAA ?_,zAA (HK.out.set HK3.out HI4.out (p:=⟨ga,0,none⟩)),zAA (by have:=HP.out;have:=HLT.out;rw [zAQ,zAR];omega)⟩,?_⟩
    ·have e9:((a+(pre++[p]).length:Nat):Int)=(p:Int)+1:=by have:=HP.out;rw [zAQ,zAR];omega
     rw [e9]
     exact hset
    ·have h9:=An (show ab _ ga 3 #[.int .i64 ((p:Int)+1)] from hset);have h10:=An HBc.out
     rw [h9,h10]
     have:=HLT.out
     omega
   ·clear hyy
    gi_wp2_with fail
    refine bodyPost_end (results_none rfl _ _ _) rfl ?_
    exact ⟨⟨_,rfl⟩,.inr ⟨_,HSP2.out,hJx3⟩⟩
  ·have hlt':¬((p:Int)<8*(m:Int)):=by omega
   have hlt2:(decide ((p:Int)<8*(m:Int)))=false:=by simpa using hlt'
   have HGE:=zAA hge
   clear hge
   iterate 2
    refine fH (v:=?_) rfl (by rfl) ?_ (fun _=>rfl) ?_
    rotate_left
    ·intro _ hSw;(try dsimp only at hSw);go_simp;(try with_reducible rfl)
    simp only [zAB,zAE,zAD]
   iterate 4
    refine lB rfl (by rfl) (fun _=>rfl) ?_
    simp only [zAB,zAE,zAD]
   refine jB (by rfl) rfl HS0.out ?_
   simp only [zAB,zAE,zAD]
   refine hPE _ _ ?_
   clear hPE PE
   simp only [zAW,zA0]
   gi_wp2_with (refine wpListIn_skip (by rfl) (by rfl) ?_)
   refine bodyPost_end (results_none rfl _ _ _) rfl ?_
   exact ⟨⟨_,rfl⟩,.inl ⟨pre,⟨HSP.out,by rw [HP.out];exact HGE.out⟩,⟨HC0.out,by have h:=HS0.out.head;rw [←HP.out] at h;simpa using h⟩,HKD.out⟩⟩
def jO (r:Nat×Int) (p:Nat):Int:=if r.2=0 then (r.1:Int) - p else 0
def Da (r:(Int×List UInt8)×Nat×Int) (p:Nat) (w:World) (e:Ending) (w':World):Prop:=
 ∃v,e= .returned (.tuple #[.int .i64 r.1.1,v,.int .i64 (jO r.2 p),.int .i64 r.2.2])∧Below w.heap.size w w'∧w'.ownsRow w.heap.size 5 1 v r.1.2.length (r.1.2.map af)
theorem nv {w W:World} {p:Nat} (e:Int) (he:e≠0) (hb:Below w.heap.size w W):Da ((0,[]),0,e) p w (.returned (.tuple #[.int .i64 0,.slice none 0 0,.int .i64 0,.int .i64 e])) W:=
 ⟨.slice none 0 0,by unfold jO;rw [if_neg he],hb,zAI _ _ _ _⟩
structure tj (l:List UInt8) (p:Nat) (pre:List UInt8):Prop where
 le:pre.length≤32
 eq:cB l 32 p=(pre++(cB l (32 - pre.length) (p+9*pre.length)).1,(cB l (32 - pre.length) (p+9*pre.length)).2.1,(cB l (32 - pre.length) (p+9*pre.length)).2.2)
theorem yi (l:List UInt8) (p:Nat):tj l p []:=⟨by decide,rfl⟩
theorem tj.next {l:List UInt8} {p:Nat} {pre:List UInt8} (h:tj l p pre) (h32:pre.length<32) (hb:aP l (p+9*pre.length)≠0) (h2:p+9*pre.length+9≤8*l.length):tj l p (pre++[UInt8.ofNat (aF l (p+9*pre.length+1) 8)]):=by
 refine ⟨by rw [zAQ,zAR];omega,?_⟩
 have e:=h.eq
 rw [show 32 - pre.length=(32 - (pre.length+1))+1 by omega,Ic hb h2] at e
 rw [e,zAQ,zAR,show p+9*(pre.length+1)=p+9*pre.length+9 by omega]
 simp
set_option maxRecDepth 100000 in
set_option maxHeartbeats 8000000 in
theorem DE (A:Option Addr) (n c:Nat) (l:List UInt8) (p:Nat) (w:World) (hA:Sl w A (l.map af)) (hn:l.length=n) (hsz:n≤2 ^ 40) (hp:p≤8*n):
  Calls Tryz.prog 88 #[.slice A n c,.int .i64 (p:Int)] w (Da (dH l p) p w):=by
 have HA:=zAA hA;have HN:=zAA hn;have HP:=zAA hp
 have CC:=zAA (fun W=>dd A n c W (by omega))
 have RM:=zAA (fun (i m:Int) W (h0:0≤i) (h1:0≤m) (h2:m≤32) (h3:8*(n:Int)<i+m)=>de A n c i m W h0 h1 h2 h3 (by omega))
 have RD:=zAA (fun (v i m:Int) W hv hr (h0:0≤i) (h1:0≤m) (h2:m≤32) (h3:i+m≤8*(n:Int))=>fM v A n c l i m W hv hr hn h0 h1 h2 h3 (by omega))
 have k1:¬((p:Int)<0):=by omega
 have k2:¬(8*(n:Int)<(p:Int)):=by omega
 obtain ⟨r,hr⟩:∃r,dH l p=r:=⟨_,rfl⟩
 rw [hr]
 unfold dH at hr
 by_cases h5:8*n<p+5
 ·rw [if_pos (by rw [HN.out];exact h5)] at hr
  subst hr
  have C1:=zAA (fun W=>RM.out (p:Int) 5 W (by omega) (by decide) (by decide) (by omega))
  clear hA hn hp h5 hsz RM RD
  go_enter Tryz.func88,Tryz.ntmps88
  go_wp2_with fail
  go_step3
  go_wp2_with (first|(go_at_call 84;refine (CC.out _).mono ?_;rintro e w2 ⟨rfl,rfl⟩)|(go_at_call 56;refine (C1.out _).mono ?_;rintro e w2 ⟨rfl,rfl⟩))
  (try rw [Exit.noGoto_ret])
  exact bodyPost_ret (by simp [results,Tryz.results88,go_sem]) rfl (nv 5 (by decide) (Below.refl _ _))
 rw [if_neg (by rw [HN.out];exact h5)] at hr
 have R5:=zAA (RD.out (aF l p 5:Nat) (p:Int) 5 w (by rw [zAT];rfl) HA.out (by omega) (by decide) (by decide) (by omega))
 by_cases h9:aF l p 5=0
 ·rw [if_pos h9] at hr
  subst hr
  rw [h9] at R5
  simp only [Int.natCast_zero] at R5
  clear hA hn hp h5 hsz RM RD h9
  go_enter Tryz.func88,Tryz.ntmps88
  go_wp2_with fail
  go_step3
  go_wp2_with (first|(go_at_call 84;refine (CC.out _).mono ?_;rintro e w2 ⟨rfl,rfl⟩)|(go_at_call 56;refine R5.out.mono ?_;rintro e w2 ⟨rfl,rfl⟩))
  (try rw [Exit.noGoto_ret])
  exact bodyPost_ret (by simp [results,Tryz.results88,go_sem]) rfl (nv 9 (by decide) (Below.refl _ _))
 rw [if_neg h9] at hr
 have h9b:(((aF l p 5:Nat):Int)==0)=false:=by simp [h9]
 have hq31:=gm l p 5
 generalize aF l p 5=q at*
 have HRR:=zAA hr
 have hpn:(p:Int)≤8*(n:Int):=by omega
 have hsz2:(n:Int)≤1099511627776:=by omega
 clear hA hn hp h5 h9 hr hsz hq31
 go_enter Tryz.func88,Tryz.ntmps88
 go_wp2_with fail
 go_step3
 go_wp2_with (first|(go_at_call 84;refine (CC.out _).mono ?_;rintro e w2 ⟨rfl,rfl⟩)|(go_at_call 56;refine R5.out.mono ?_;rintro e w2 ⟨rfl,rfl⟩))
 go_step3
 go_wp2_with fail
 go_loopg [10,11] 33 (fun gk v k=>fun wr=>∃(pre:List UInt8),pre.length+gk=33∧k= .int .i64 (((5+9*pre.length:Nat)):Int)∧Hid (tj l (p+5) pre)∧Hid (ay w [] [⟨w.heap.size,5,1,v,pre.length,pre.map af⟩] wr))
 case atStart=>exact ⟨[],rfl,rfl,zAA (yi _ _),zAA (iR (nY w) _ _ _)⟩
 case round=>
  obtain ⟨pre,hj,rfl,HS,HC⟩:=hrel
  obtain ⟨A5,c5,hv⟩:=bj HC.out.2.2.head
  dsimp only at hv
  subst hv
  have hle:=HS.out.le
  obtain ⟨j,hjl⟩:∃j,pre.length=j:=⟨_,rfl⟩
  obtain ⟨s,hs⟩:∃s,p+5+9*j=s:=⟨_,rfl⟩
  have heq:=HS.out.eq
  rw [hjl,hs] at heq
  rw [hjl] at hle hj⊢
  have HJL:=zAA hjl;have HSS:=zAA hs
  have HCJ:Hid (ay w [] [⟨w.heap.size,5,1,.slice A5 j c5,j,pre.map af⟩] wr):=zAA (by have h:=HC.out;rw [hjl] at h;exact h)
  have hw1:zAF.wrap ((p:Int)+((5+9*j:Nat):Int))=(s:Int):=by rw [zAC];omega
  have hw2:zAF.wrap ((s:Int)+1)=(s:Int)+1:=by rw [zAC];omega
  have hw3:zAF.wrap (((5+9*j:Nat):Int)+9)=((5+9*(j+1):Nat):Int):=by rw [zAC];omega
  have hw4:zAF.wrap (((5+9*j:Nat):Int)+1)=((s+1:Nat):Int) - (p:Int):=by rw [zAC];omega
  have hrr:=HRR.out
  rw [heq] at hrr
  by_cases h1:8*n<s+1
  ·have C1:=zAA (fun W=>RM.out (s:Int) 1 W (by omega) (by decide) (by decide) (by omega))
   rw [Bf (by rw [HN.out];exact h1),if_neg (by simp)] at hrr
   subst hrr
   clear hj hjl hs heq hle h1 RM RD hw2 hw3 hw4
   generalize ((5+9*j:Nat):Int)=kk at*
   go_wp2_with (go_at_call 56;refine (C1.out _).mono ?_;rintro e w2 ⟨rfl,rfl⟩)
   (try rw [Exit.noGoto_ret])
   exact bodyPost_ret (by simp [results,Tryz.results88,go_sem]) rfl (nv 5 (by decide) HC.out.1)
  have R1:=zAA (RD.out (aP l s:Nat) (s:Int) 1 wr (by rw [zAT,show (1:Int).toNat=1 from rfl,l5]) (HA.out.below HC.out.1) (by omega) (by decide) (by decide) (by omega))
  by_cases hb:aP l s=0
  ·rw [sP (by rw [HN.out];omega) hb,if_pos (by rfl)] at hrr
   have hb0:((aP l s:Nat):Int)=0:=by omega
   rw [hb0] at R1
   subst hrr
   clear hj hs heq hle h1 RM RD hw2 hw3 hb hb0
   generalize ((5+9*j:Nat):Int)=kk at*
   go_wp2_with (go_at_call 56;refine R1.out.mono ?_;rintro e w2 ⟨rfl,rfl⟩)
   (try rw [Exit.noGoto_ret])
   refine bodyPost_ret (v:= .tuple #[.int .i64 (q:Int),.slice A5 j c5,.int .i64 ((s:Int)+1 - (p:Int)),.int .i64 0]) (by simp [results,Tryz.results88,go_sem]) rfl ⟨.slice A5 j c5,?_,HC.out.1,?_⟩
   ·unfold jO
    rw [if_pos (by rfl)]
    simp
   ·have h:=HC.out.2.2.head
    simp only [List.append_nil]
    rw [hjl] at h⊢
    exact h
  have hb1:=rQ l s hb
  have hb0:((aP l s:Nat):Int)=1:=by omega
  rw [hb0] at R1
  have hlj:((j:Int)==32)=decide (j=32):=by rw [Bool.eq_iff_iff];simp;omega
  by_cases h32:j=32
  ·have e0:32 - j=0:=by omega
   rw [e0,ye (by rw [HN.out];omega) hb,if_neg (by simp)] at hrr
   have hlt:((j:Int)==32)=true:=by rw [hlj];simpa using h32
   subst hrr
   clear hj hs heq hle h1 RM RD hw2 hw3 hw4 hb hb0 hb1 hlj e0 h32
   generalize ((5+9*j:Nat):Int)=kk at*
   go_wp2_with (go_at_call 56;refine R1.out.mono ?_;rintro e w2 ⟨rfl,rfl⟩)
   (try rw [Exit.noGoto_ret])
   exact bodyPost_ret (by simp [results,Tryz.results88,go_sem]) rfl (nv 4 (by decide) HC.out.1)
  have hlt:((j:Int)==32)=false:=by rw [hlj];simpa using h32
  have e1:32 - j=(31 - j)+1:=by omega
  by_cases h9:8*n<s+9
  ·have C8:=zAA (fun W=>RM.out ((s:Int)+1) 8 W (by omega) (by decide) (by decide) (by omega))
   rw [e1,yh (by rw [HN.out];omega) hb (by rw [HN.out];exact h9),if_neg (by simp)] at hrr
   subst hrr
   clear hj hs heq hle h1 RM RD hw3 hw4 hb hb0 hb1 hlj e1 h32 h9
   generalize ((5+9*j:Nat):Int)=kk at*
   go_wp2_with fail
   refine R1.out.mono ?_
   rintro e w2 ⟨rfl,rfl⟩
   go_wp2_with fail
   refine (C8.out _).mono ?_
   rintro e w2 ⟨rfl,rfl⟩
   go_wp2_with fail
   (try rw [Exit.noGoto_ret])
   exact bodyPost_ret (by simp [results,Tryz.results88,go_sem]) rfl (nv 5 (by decide) HC.out.1)
  have R8:=zAA (RD.out (aF l (s+1) 8:Nat) ((s:Int)+1) 8 wr (by rw [show ((s:Int)+1).toNat=s+1 by omega];rfl) (HA.out.below HC.out.1) (by omega) (by decide) (by decide) (by omega))
  have hx:=gm l (s+1) 8
  have HNX:=zAA (HS.out.next (by rw [hjl];omega) (by rw [hjl,hs];exact hb) (by rw [hjl,hs,HN.out];omega))
  rw [hjl,hs] at HNX
  obtain ⟨x,hxx⟩:∃x,aF l (s+1) 8=x:=⟨_,rfl⟩
  rw [hxx] at R8 HNX hx
  have hwx:IntKind.u8.wrap (x:Int)=(x:Int):=by rw [IntKind.wrap_u8];omega
  have HBV:Hid (af (UInt8.ofNat x)= .int .u8 (x:Int)):=zAA (by unfold af;rw [gp _ (by omega)])
  have hjle:j≤32:=by omega
  have hg:∃g,gk=g+1:=⟨gk - 1,by omega⟩
  obtain ⟨g,rfl⟩:=hg
  have HJ:=zAA hj
  clear hj hs heq hle h1 RM RD hw4 hb hb0 hb1 hlj e1 h32 h9 hrr hxx hx
  obtain ⟨k2,hk2⟩:∃k:Int,((5+9*(j+1):Nat):Int)=k:=⟨_,rfl⟩
  rw [hk2] at hw3
  have HK2:=zAA hk2
  clear hk2
  generalize ((5+9*j:Nat):Int)=kk at*
  go_wp2_with fail
  refine R1.out.mono ?_
  rintro e w2 ⟨rfl,rfl⟩
  go_wp2_with fail
  refine R8.out.mono ?_
  rintro e w2 ⟨rfl,rfl⟩
  go_wp2_with (at_builtin;refine iV jn rfl rfl 1 [.int .u8 (x:Int)] rfl HCJ.out rfl rfl (by intro u hu;simp at hu;subst hu;rfl) (by omega) ⟨zAG _,HC.out.1.size⟩ (by simp) (by simp) ?_;intro v6 W6 hc6;have HC6:=zAA hc6;clear hc6)
  go_roundg g
  case measure=>omega
  case rel=>
   have hl2:(pre++[UInt8.ofNat x]).length=j+1:=by rw [zAQ,zAR,HJL.out]
   refine ⟨pre++[UInt8.ofNat x],by rw [hl2];have:=HJ.out;omega,?_,zAA HNX.out,zAA ?_⟩
   ·rw [hl2,HK2.out]
   ·have h:=HC6.out
    rw [hl2,zA3,List.map_singleton,HBV.out]
    exact h
def gZ (l:List UInt8) (p:Nat) (bad:Int) (k:Nat):Int×Nat×Int:=if bad≠0 then (0,p,bad) else if 8*l.length<p+k then (0,p,5) else ((aF l p k:Nat),p+k,0)
def cU (A:Option Addr) (n c:Nat) (p:Nat) (bad:Int):Array Value:= #[.slice A n c,.int .i64 (p:Int),.int .i64 bad]
structure Gu (g:Nat) (A:Option Addr) (n c:Nat) (r:Int×Nat×Int) (w:World) (e:Ending) (w':World):Prop where
 e:e= .returned (.int .i64 r.1)
 b:ab w' g 163 (cU A n c r.2.1 r.2.2)
 gb:w.grownBy w' (some g)
theorem lF (w:World) (g:Nat):w.grownBy w.drew (some g):=dh (Below.refl _ _).drew (zAG _)
theorem Fv {K:World→Prop} (hK:kT K) {A B:World} {g:Nat} {t:TypeId} {cs:Array Value} (h:K A) (hg:A.grownBy B (some g)) (hb:ab A g t cs):K B:=
 hK A B h (fun i o hi ho=>(hg.block i (Array.getElem?_eq_some_iff.1 hi).1 (fun e=>by
  cases e
  unfold ab at hb
  rw [hb] at hi;cases hi;cases ho)).trans hi)
theorem iS {g k:Nat} {t:TypeId} {cs:Array Value} {w w':World} (h:ab w k t cs) (hg:w.grownBy w' (some g)) (hne:k≠g):ab w' k t cs:=h.grown hg (fun e=>by cases e;exact hne rfl)
set_option maxRecDepth 100000 in
set_option maxHeartbeats 4000000 in
theorem oA (g:Nat) (A:Option Addr) (n c:Nat) (l:List UInt8) (p:Nat) (bad:Int) (k:Nat) (w:World) (hb:ab w g 163 (cU A n c p bad)) (hA:Sl w A (l.map af)) (hn:l.length=n) (hsz:n≤2 ^ 40) (hp:p≤8*n) (hk:k≤32):
  Calls Tryz.prog 141 #[.pointer (some ⟨g,0,none⟩),.int .i64 (k:Int)] w (Gu g A n c (gZ l p bad k) w):=by
 have HB:=zAA hb;have HA:=zAA hA;have HN:=zAA hn
 obtain ⟨r,hr⟩:∃r,gZ l p bad k=r:=⟨_,rfl⟩
 rw [hr]
 unfold gZ at hr
 unfold cU at hb
 have z0:=hb.cell 0;have z1:=hb.cell 1;have z2:=hb.cell 2;have f1:=hb.frozen 1;have f2:=hb.frozen 2
 (try dsimp only at z0 z1 z2 f1 f2)
 by_cases hbad:bad≠0
 ·rw [if_pos hbad] at hr
  subst hr
  have hq:(bad !=0)=true:=by simpa using hbad
  clear hb hA hn
  go_enter Tryz.func141,Tryz.ntmps141
  go_wp2_with fail
  go_ret
  exact ⟨rfl,HB.out,tC _ _⟩
 rw [if_neg hbad] at hr
 have hb0:bad=0:=by omega
 subst hb0
 have HBD:=zAA (show ab w.drew g 163 (cU A n c p 0) from HB.out)
 by_cases hlt:8*l.length<p+k
 ·rw [if_pos hlt] at hr
  subst hr
  have CR:=de A n c (p:Int) (k:Int) w.drew (by omega) (by omega) (by omega) (by omega) (by omega)
  have hset:=HBD.out.set_ 2 (.int .i64 5)
  unfold cU at hset
  simp only [zAB,zAE,zAD] at hset
  have HSE:=zAA hset
  have u0:=hset.cell 1
  (try dsimp only at u0)
  have HCR:=zAA CR
  clear hb hA hn hset CR hlt
  go_enter Tryz.func141,Tryz.ntmps141
  go_wp2_with fail
  refine ai (fun w'=>ab w' g 163 (cU A n c p 0)) 14 (.take 0 (.take 1 (.take 2 (.take 3 (.take 4 (.take 5 (.take 6 (.take 7 (.take 8 (.step 9 (.take 10 (.take 11 (.take 12 (.step 13 .done)))))))))))))) (by kernel_rfl) (by kernel_rfl) (by simp only [aR.out,Array.getD_eq_getD_getElem?,zAX,zAV,zAU,zA1];rfl) (by simp only [zA2,zA4];rfl) (HBD.out) (fun PE hPE=>?_)
  iterate 9
   refine ah (v:=?_) rfl (by rfl) ?_ ?_
   rotate_left
   ·intro _ hSw;(try dsimp only at hSw);have q:=hSw;unfold cU at q;have y0:=q.cell 0;have y1:=q.cell 1;(try dsimp only at y0 y1);go_simp;(try with_reducible rfl)
   simp only [zAB,zAE,zAD]
  refine aV (f:=56) rfl (by rfl) (by first|(go_simp;done)|(go_simp;rfl)) HCR.out ?_
  rintro e w2 ⟨rfl,rfl⟩
  refine ⟨_,rfl,_,fun _ h=>h,HBD.out,?_⟩
  simp only [zAB,zAE,zAD]
  iterate 3
   refine ah (v:=?_) rfl (by rfl) ?_ ?_
   rotate_left
   ·intro _ hSw;(try dsimp only at hSw);go_simp;(try with_reducible rfl)
   simp only [zAB,zAE,zAD]
  refine aw (v:=?_) (w':=?_) rfl (by rfl) ?_ ?_ ?_
  rotate_left 2
  ·go_simp;(try (constructor<;>with_reducible rfl))
  ·exact HBD.out
  simp only [zAB,zAE,zAD]
  refine hPE _ _ ?_
  clear hPE PE
  simp only [zAW,zA0]
  go_wp2_with fail
  refine ⟨rfl,?_⟩
  go_wp2_with fail
  go_ret
  exact ⟨rfl,HSE.out,(lF w g).trans (gO _ _ _ _)⟩
 ·rw [if_neg hlt] at hr
  subst hr
  have CR:=ja A n c l (p:Int) (k:Int) w.drew HA.out hn (by omega) (by omega) (by omega) (by omega) (by omega)
  rw [zAT,zAT] at CR
  have hset:=HBD.out.set_ 2 (.int .i64 0)
  unfold cU at hset
  simp only [zAB,zAE,zAD] at hset
  have hset2:=hset.set_ 1 (.int .i64 ((p:Int)+(k:Int)))
  simp only [zAB,zAE,zAD] at hset2
  have HSE:Hid (ab ((w.drew.setCell ⟨g,2,none⟩ (.int .i64 0)).setCell ⟨g,1,none⟩ (.int .i64 ((p:Int)+(k:Int)))) g 163 (cU A n c (p+k) 0)):=zAA (by unfold cU;rw [show ((p+k:Nat):Int)=(p:Int)+(k:Int) by omega];exact hset2)
  have u0:=hset.cell 1;have u1:=hset.frozen 1
  (try dsimp only at u0 u1)
  have hwk:zAF.wrap ((p:Int)+(k:Int))=(p:Int)+(k:Int):=by rw [zAC];omega
  have HCR:=zAA CR
  clear hb hA hn hset hset2 CR hlt
  generalize aF l p k=x at*
  go_enter Tryz.func141,Tryz.ntmps141
  go_wp2_with fail
  refine ai (fun w'=>ab w' g 163 (cU A n c p 0)) 14 (.take 0 (.take 1 (.take 2 (.take 3 (.take 4 (.take 5 (.take 6 (.take 7 (.take 8 (.step 9 (.take 10 (.take 11 (.take 12 (.step 13 .done)))))))))))))) (by kernel_rfl) (by kernel_rfl) (by simp only [aR.out,Array.getD_eq_getD_getElem?,zAX,zAV,zAU,zA1];rfl) (by simp only [zA2,zA4];rfl) (HBD.out) (fun PE hPE=>?_)
  iterate 9
   refine ah (v:=?_) rfl (by rfl) ?_ ?_
   rotate_left
   ·intro _ hSw;(try dsimp only at hSw);have q:=hSw;unfold cU at q;have y0:=q.cell 0;have y1:=q.cell 1;(try dsimp only at y0 y1);go_simp;(try with_reducible rfl)
   simp only [zAB,zAE,zAD]
  refine aV (f:=56) rfl (by rfl) (by first|(go_simp;done)|(go_simp;rfl)) HCR.out ?_
  rintro e w2 ⟨rfl,rfl⟩
  refine ⟨_,rfl,_,fun _ h=>h,HBD.out,?_⟩
  simp only [zAB,zAE,zAD]
  iterate 3
   refine ah (v:=?_) rfl (by rfl) ?_ ?_
   rotate_left
   ·intro _ hSw;(try dsimp only at hSw);go_simp;(try with_reducible rfl)
   simp only [zAB,zAE,zAD]
  refine aw (v:=?_) (w':=?_) rfl (by rfl) ?_ ?_ ?_
  rotate_left 2
  ·go_simp;(try (constructor<;>with_reducible rfl))
  ·exact HBD.out
  simp only [zAB,zAE,zAD]
  refine hPE _ _ ?_
  clear hPE PE
  simp only [zAW,zA0]
  go_wp2_with fail
  refine ⟨rfl,?_⟩
  go_wp2_with fail
  go_ret
  exact ⟨rfl,HSE.out,((lF w g).trans (gO _ _ _ _)).trans (gO _ _ _ _)⟩
theorem n8 (f:Int) (hf:f=0∨f=1) (w:World):Calls Tryz.prog 123 #[.int .i64 f] w fun e w'=>e= .returned (.int .i64 (nh f))∧w=w':=by
 rcases hf with rfl|rfl
 all_goals
  go_enter Tryz.func123,Tryz.ntmps123
  go_wp2_with fail
  go_ret
  exact ⟨rfl,rfl⟩
theorem qH (f:Int) (hf:f=0∨f=1) (w:World):Calls Tryz.prog 73 #[.int .i64 f] w fun e w'=>e= .returned (.bool true)∧w=w':=by
 have C:=zAA (n8 f hf w)
 rcases hf with rfl|rfl
 all_goals
  go_enter Tryz.func73,Tryz.ntmps73
  go_wp2_with (go_at_call 123;refine C.out.mono ?_;rintro e w2 ⟨rfl,rfl⟩)
  go_ret
  exact ⟨rfl,rfl⟩
theorem BQ (f:Int) (hf:f=0∨f=1) (w:World):Calls Tryz.prog 219 #[.int .i64 f] w fun e w'=>e= .returned (.int .i64 (m9 f))∧w=w':=by
 have C:=zAA (n8 f hf w)
 rcases hf with rfl|rfl
 all_goals
  go_enter Tryz.func219,Tryz.ntmps219
  go_wp2_with (go_at_call 123;refine C.out.mono ?_;rintro e w2 ⟨rfl,rfl⟩)
  go_ret
  exact ⟨by kernel_rfl,rfl⟩
theorem BR (f:Int) (hf:f=0∨f=1) (w:World):Calls Tryz.prog 124 #[.int .i64 f] w fun e w'=>e= .returned (.int .i64 (2 - f))∧w=w':=by
 rcases hf with rfl|rfl
 all_goals
  go_enter Tryz.func124,Tryz.ntmps124
  go_wp2_with fail
  go_ret
  exact ⟨rfl,rfl⟩
theorem BO (f:Int) (hf:f=0∨f=1) (w:World):Calls Tryz.prog 179 #[.int .i64 f] w fun e w'=>e= .returned (.tuple #[.int .i64 (nh f),.int .i64 (m9 f),.int .i64 (nh f*m9 f*3 / 2),.int .i64 0])∧w=w':=by
 have C:=zAA (n8 f hf w);have D:=zAA (BQ f hf w);have E:=zAA (qH f hf w)
 rcases hf with rfl|rfl
 all_goals
  go_enter Tryz.func179,Tryz.ntmps179
  go_wp2_with (first|(go_at_call 123;refine C.out.mono ?_;rintro e w2 ⟨rfl,rfl⟩)|(go_at_call 219;refine D.out.mono ?_;rintro e w2 ⟨rfl,rfl⟩)|(go_at_call 73;refine E.out.mono ?_;rintro e w2 ⟨rfl,rfl⟩))
  refine bodyPost_ret (by simp [results,Tryz.results179,go_sem];kernel_rfl) rfl ⟨rfl,rfl⟩
theorem wQ (f g a:Int) (hf:f=0∨f=1) (hg:1≤g∧g≤12) (ha:1≤a∧a≤33) (w:World):Calls Tryz.prog 218 #[.int .i64 f,.int .i64 g,.int .i64 a] w fun e w'=>e= .returned (.tuple #[.int .i64 (iC f g a),.int .i64 (iD g a)])∧w=w':=by
 obtain ⟨hg1,hg2⟩:=hg
 obtain ⟨ha1,ha2⟩:=ha
 have w1:zAF.wrap (a - 1)=a - 1:=by rw [zAC];omega
 have w2:zAF.wrap (g - 1)=g - 1:=by rw [zAC];omega
 have t1:(a - 1).tmod 11=(a - 1) % 11:=zA6 (by omega)
 have t2:(a - 1).tdiv 11=(a - 1) / 11:=zA5 (by omega)
 have t3:(g - 1).tmod 2=(g - 1) % 2:=zA6 (by omega)
 have t4:(g - 1).tdiv 2=(g - 1) / 2:=zA5 (by omega)
 have b1:0≤(a - 1) % 11∧(a - 1) % 11<11:=by omega
 have b2:0≤(a - 1) / 11∧(a - 1) / 11<3:=by omega
 have b3:0≤(g - 1) % 2∧(g - 1) % 2<2:=by omega
 have b4:0≤(g - 1) / 2∧(g - 1) / 2<6:=by omega
 unfold iC iD
 generalize (a - 1) % 11=r1 at*
 generalize (a - 1) / 11=r2 at*
 generalize (g - 1) % 2=r3 at*
 generalize (g - 1) / 2=r4 at*
 have v1:zAF.wrap r2=r2:=by rw [zAC];omega
 have v2:zAF.wrap r4=r4:=by rw [zAC];omega
 have v3:zAF.wrap (r1*16)=r1*16:=by rw [zAC];omega
 have v4:zAF.wrap (r2*16)=r2*16:=by rw [zAC];omega
 have v5:zAF.wrap (r3*176)=r3*176:=by rw [zAC];omega
 have v6:zAF.wrap (r4*48)=r4*48:=by rw [zAC];omega
 have v7:zAF.wrap (r1*16+r3*176)=r1*16+r3*176:=by rw [zAC];omega
 have v8:zAF.wrap (r2*16+r4*48)=r2*16+r4*48:=by rw [zAC];omega
 clear b1 b2 b3 b4 hg1 hg2 ha1 ha2
 rcases hf with rfl|rfl
 ·skip
  go_enter Tryz.func218,Tryz.ntmps218
  go_wp2_with fail
  go_ret2
  exact ⟨by simp,rfl⟩
 ·skip
  go_enter Tryz.func218,Tryz.ntmps218
  go_wp2_with fail
  go_ret2
  exact ⟨by simp,rfl⟩
def tg (f:Int) (w:World) (e:Ending) (w':World):Prop:=∃A c,e= .returned (.slice A (aQ f).length c)∧w'.ownsRow w.heap.size 3 1 (.slice A (aQ f).length c) (aQ f).length ((aQ f).map aY)∧Below w.heap.size w w'
def jp (f:Int) (j:Nat):Int:=1+(j:Int)*(2 - f)
theorem DH (f:Int) (hf:f=0∨f=1) (j:Nat) (hj:j<(aQ f).length):(aQ f).take (j+1)=(aQ f).take j++[jp f j]:=by
 rcases hf with rfl|rfl
 ·have:∀k:Fin 3,(aQ 0).take (k.1+1)=(aQ 0).take k.1++[jp 0 k.1]:=by decide
  exact this ⟨j,hj⟩
 ·have:∀k:Fin 12,(aQ 1).take (k.1+1)=(aQ 1).take k.1++[jp 1 k.1]:=by decide
  exact this ⟨j,hj⟩
set_option maxRecDepth 100000 in
set_option maxHeartbeats 4000000 in
theorem wR (f:Int) (hf:f=0∨f=1) (w:World):Calls Tryz.prog 74 #[.int .i64 f] w (tg f w):=by
 unfold tg
 have hg0:∀j:Nat,f=0→(aQ f).length=3:=fun _ h=>by subst h;rfl
 have HT:=zAA (DH f hf)
 have HST:=zAA (fun W=>BR f hf W)
 obtain ⟨L,hL⟩:∃L,(aQ f).length=L:=⟨_,rfl⟩
 obtain ⟨M,hM⟩:∃M:Int,M=if f=1 then 12 else 5:=⟨_,rfl⟩
 have hLM:∀j:Nat,j≤L→(jp f j≤M↔j<L):=by
  rcases hf with rfl|rfl
  ·have hL:3=L:=hL
   rw [if_neg (by decide)] at hM
   intro j hj
   unfold jp
   omega
  ·have hL:12=L:=hL
   rw [if_pos rfl] at hM
   intro j hj
   unfold jp
   omega
 have hL12:L≤12:=by rw [←hL];unfold aQ;split<;>decide
 have HLM:=zAA hLM;have HL:=zAA hL
 rw [hL]
 have hstep:∀j:Nat,jp f j+(2 - f)=jp f (j+1):=fun j=>by unfold jp;rcases hf with rfl|rfl<;>omega
 have HSP:=zAA hstep
 have hgb:∀j:Nat,j≤12→1≤jp f j∧jp f j≤25:=fun j hj=>by unfold jp;rcases hf with rfl|rfl<;>omega
 have HGB:=zAA hgb
 have HG0:Hid (jp f 0=1):=zAA (by unfold jp;simp)
 clear hg0 hLM hL hstep hgb
 have hM2:(f==1)=true∧M=12∨(f==1)=false∧M=5:=by
  rcases hf with rfl|rfl
  ·exact .inr ⟨rfl,by rw [hM];rfl⟩
  ·exact .inl ⟨rfl,by rw [hM];rfl⟩
 clear hM hf
 rcases hM2 with ⟨hf1,rfl⟩|⟨hf1,rfl⟩
 all_goals
  go_enter Tryz.func74,Tryz.ntmps74
  go_wp2_with fail
  go_loopg [2,4] L (fun gk v i=>fun wr=>∃(j:Nat),j+gk=L∧i= .int .i64 (jp f j)∧Hid (ay w [] [⟨w.heap.size,3,1,v,j,((aQ f).take j).map aY⟩] wr))
  case atStart=>exact ⟨0,by omega,by rw [HG0.out],zAA (iR (nY w) _ _ _)⟩
  case round=>
   obtain ⟨j,hj,rfl,HC⟩:=hrel
   obtain ⟨A,c,hv⟩:=bj HC.out.2.2.head
   dsimp only at hv
   subst hv
   have hb:=HGB.out j (by omega)
   have hst:=HSP.out j
   cases gk with
   |zero=>
    have hjb:j=L:=by omega
    subst hjb
    have hnl:¬(jp f j≤_):=fun h=>Nat.lt_irrefl _ ((HLM.out j (zAG _)).1 h)
    generalize jp f j=q at*
    clear hb hst
    go_wp2_with fail
    go_ret
    refine ⟨A,c,rfl,?_,HC.out.1⟩
    have h:=HC.out.2.2.head
    (try dsimp only at h)
    rw [List.take_of_length_le (by rw [HL.out];exact zAG _)] at h
    exact h
   |succ g=>
    have hnl:=(HLM.out j (by omega)).2 (by omega)
    have htk:=HT.out j (by rw [HL.out];omega)
    have HTK:=zAA htk;have HJ:=zAA hj;have HST2:=zAA hst
    obtain ⟨q,hq⟩:∃q,jp f j=q:=⟨_,rfl⟩
    have HQ:=zAA hq
    rw [hq] at hb hnl hst
    have hwq:zAF.wrap (q+(2 - f))=jp f (j+1):=by
     have:=HGB.out (j+1) (by omega)
     rw [hst,zAC];omega
    rw [hq]
    have hjl:j≤12:=by omega
    clear hb hst htk hj hq
    go_wp2_with (first|(at_builtin;refine iV mF rfl rfl 1 [.int .i64 q] rfl HC.out rfl rfl (by intro u hu;simp at hu;subst hu;rfl) (by omega) ⟨zAG _,HC.out.1.size⟩ (by simp) (by simp) ?_;intro v5 W5 hc5;have HC5:=zAA hc5;clear hc5)|(go_at_call 124;refine (HST.out _).mono ?_;rintro e w2 ⟨rfl,rfl⟩))
    go_roundg g
    case measure=>omega
    case rel=>
     refine ⟨j+1,by have:=HJ.out;omega,rfl,zAA ?_⟩
     rw [HTK.out,zA3,HQ.out]
     exact HC5.out
end Go.Proofs.YthhijgcfbjcgiaaGreatDoor
