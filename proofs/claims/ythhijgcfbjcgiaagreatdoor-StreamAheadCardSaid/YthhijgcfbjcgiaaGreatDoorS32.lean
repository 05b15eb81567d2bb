/- Find, Start, PicG, PicF, PicP -/
import Derived.Test.YthhijgcfbjcgiaaGreatDoorS26
import Derived.Test.YthhijgcfbjcgiaaGreatDoorS31
import Derived.Test.YthhijgcfbjcgiaaGreatDoorS27
import Derived.Test.YthhijgcfbjcgiaaGreatDoorS23
namespace Go.Proofs.YthhijgcfbjcgiaaGreatDoor
open Go Go.RowKit
attribute [local go_sem] Oper.semAt_some
open Go.Lib renaming hid→zAA
open Go.IntKind renaming wrap_i64→zAB,i64→zAE
open List renaming setIfInBounds_toArray→zAC,set_cons_succ→zAF,set_cons_zero→zAG,getElem?_cons_succ→zAH,getElem?_cons_zero→zAI,getElem?_toArray→zAJ,drop_succ_cons→zAK,length_append→zAL,append_toArray→zAO,drop_zero→zAP,map_cons→zAR,push_toArray→zAS,size_toArray→zAT,cons_append→zAU,length_cons→zAV,map_nil→zAW,mem_nil_iff→zAX,length_nil→zAZ,map_append→zA0,nil_append→zA1,take_of_length_le→zA2,length_singleton→zA3,mem_cons→zA4,append_assoc→zA8,length_take→zAa,take_zero→zAd
open Nat renaming le_refl→zAD,reduceAdd→zAM,reduceSub→zA5,le_trans→zA6,lt_succ_self→zAb,add_assoc→zAe,lt_or_ge→zAf,ne_of_lt→zAg,le_succ→zAh
open Option renaming getD_some→zAN
open Int renaming cast_ofNat_Int→zAQ,eq_ofNat_of_zero_le→zAY,toNat_natCast→zA7
open Go.World renaming ownsRow_nil→zA9,size_alloc→zAc
def kq (h:Nat) (i e:Int):List aI:=[(h,3,#[.int .i64 i]),(h+1,26,#[.int .i64 e])]
def oO (h:Nat) (A:Option Addr) (m c:Nat) (r:Nat) (u:Value):List aI:=(h+4,3,#[u])::(h+3,25,#[.slice A m c])::(h+2,3,#[.int .i64 (r:Int)])::kq h 0 0
def C9 (l:List UInt8) (a q:Nat):Prop:=a≤q∧jl l q∧∀j,a≤j→j<q→¬jl l j
def EP (l:List UInt8) (a:Nat) (w:World) (e:Ending) (w':World):Prop:=Below w.heap.size w w'∧((∃q:Nat,e= .returned (.tuple #[.int .i64 (q:Int),.int .i64 0])∧C9 l a q)∨(e= .returned (.tuple #[.int .i64 0,.int .i64 5])∧∀j,a≤j→¬jl l j))
def tT (w:World) (A:Option Addr) (m c:Nat) (l:List UInt8) (a:Nat):List Nat→World→Prop:=
 cR w (fun pre (_:Value)=>lO l a pre.length) (fun pre u=>oO w.heap.size A m c (iN l a pre.length) u) (fun _ _=>[])
theorem IV {w W:World} {A:Option Addr} {m c:Nat} {l:List UInt8} {a:Nat} {pre:List Nat} (v:Value) (h:tT w A m c l a pre W):tT w A m c l a pre (W.setCell ⟨w.heap.size+4,0,none⟩ v):=by
 obtain ⟨⟨u,hp,hc⟩⟩:=h
 refine ⟨⟨v,hp,?_⟩⟩
 have h2:=aT hc (g:=w.heap.size+4) (by omega) 0 v (w.heap.size+4,3,#[u]) (by simp [oO]) rfl (by simp)
 simpa [cZ,oO,kq] using h2
theorem DB (h:Nat) (i e:Int) (tmps:Array Value) (W:World) (hc:aa (kq h i e) W) (t4:tmps.getD 4 undef= .pointer (some ⟨h,0,none⟩)) (t5:tmps.getD 5 undef= .pointer (some ⟨h+1,0,none⟩)):
  (results Tryz.f83 tmps).run Tryz.prog W= .ok (.tuple #[.int .i64 i,.int .i64 e]) W:=by
 unfold kq at hc
 have h4:W.cell? ⟨h,0,none⟩=some (.int .i64 i):=hc.head.cell 0
 have h5:W.cell? ⟨h+1,0,none⟩=some (.int .i64 e):=hc.tail.head.cell 0
 have t4':tmps[4]?.getD undef= .pointer (some ⟨h,0,none⟩):=by simpa using t4
 have t5':tmps[5]?.getD undef= .pointer (some ⟨h+1,0,none⟩):=by simpa using t5
 simp [results,Tryz.results83,t4',t5',asAddr,h4,h5,go_sem]
set_option maxRecDepth 100000 in
set_option maxHeartbeats 8000000 in
theorem Di (A:Option Addr) (m c:Nat) (l:List UInt8) (a:Nat) (w:World) (hA:Sl w A (l.map af)) (hl:l.length=m) (hsz:m≤2 ^ 40) (ha:a≤8*m):
  Calls Tryz.prog 83 #[.slice A m c,.int .i64 (a:Int)] w (EP l a w):=by
 have HA:=zAA hA;have HL:=zAA hl;have HA8:=zAA ha
 have h0:¬((a:Int)<0):=by omega
 clear hA hl ha
 refine (callsIn_wide (n:=5)).1 ?_
 refine callsIn_of_wp_marks Tryz.func83 rfl trivial ?_ rfl
 simp only [Tryz.ntmps83,zAT,zAV,zAZ,zAM,zA5,Array.replicate_succ,Array.replicate_zero,zAS,zAO,zA1,zAU]
 refine wpIn_wide.2 ?_
 go_wp2_with fail
 go_step3
 go_wp2_with fail
 go_step3
 go_wp2_with (go_at_call 139;refine (uc _ _ _ _ _).mono ?_;rintro e w' ⟨rfl,rfl⟩)
 simp only [zAe,zAM]
 have hc0:ay w (oO w.heap.size A m c 0 (.int .i64 (a:Int))) [] (((((w.alloc (.cells #[.int .i64 0] 3)).alloc (.cells #[.int .i64 0] 26)).alloc (.cells #[.int .i64 0] 3)).alloc (.cells #[.slice A m c] 25)).alloc (.cells #[.int .i64 (a:Int)] 3)):=by
  refine ⟨((((((Below.refl _ _).alloc (zAD _) _).alloc (by simp) _).alloc (by simp;omega) _).alloc (by simp;omega) _).alloc (by simp;omega) _),?_,aE _⟩
  unfold oO kq
  refine aa.cons ?_ (aa.cons ?_ (aa.cons ?_ (aa.cons ?_ (aa.cons ?_ (ag _)))))
  all_goals (repeat (first|(refine aD (ab.new _ _ _) ?_;simp [zAc];done)|refine ab.alloc ?_ _))
 have hs5:(((((w.alloc (.cells #[.int .i64 0] 3)).alloc (.cells #[.int .i64 0] 26)).alloc (.cells #[.int .i64 0] 3)).alloc (.cells #[.slice A m c] 25)).alloc (.cells #[.int .i64 (a:Int)] 3)).heap.size=w.heap.size+5:=by simp
 generalize ((((w.alloc (.cells #[.int .i64 0] 3)).alloc (.cells #[.int .i64 0] 26)).alloc (.cells #[.int .i64 0] 3)).alloc (.cells #[.slice A m c] 25)).alloc (.cells #[.int .i64 (a:Int)] 3)=W at hc0 hs5⊢
 have HB8:Hid (w.heap.size≤W.heap.size):=zAA (by rw [hs5];omega)
 have HS5:=zAA hs5
 have HBC:=zAA (show ab W (w.heap.size+4) 3 #[.int .i64 (a:Int)] from hc0.2.1.head)
 have HI0:Hid (tT w A m c l a [] W):=zAA ⟨⟨.int .i64 (a:Int),zk l a,hc0⟩⟩
 clear hc0 hs5
 refine (wpIn_wide (n:=5)).1 ?_
 refine tc (α:=Nat) (enc:=tA l)
  (IS:=fun pre W=>tT w A m c l a pre W∧ab W (w.heap.size+4) 3 #[.int .i64 (a:Int)])
  (I:=fun pre W=>tT w A m c l a pre W∧ab W (w.heap.size+4) 3 #[.int .i64 ((a+pre.length:Nat):Int)])
  (I2:=fun pre W=>tT w A m c l a pre W∧ab W (w.heap.size+4) 3 #[.int .i64 (((a+pre.length:Nat):Int) - 1)])
  (IE:=fun pre W=>tT w A m c l a pre W∧ab W (w.heap.size+4) 3 #[.int .i64 ((a+pre.length:Nat):Int)])
  (S:=fun xs=>o7 l a xs∧8*m≤a+xs.length) (Sp:=o7 l a)
  rfl (by decide) (gf:=183) (lb:= #[.pointer (some ⟨w.heap.size+4,0,none⟩),.pointer (some ⟨w.heap.size+3,0,none⟩)]) rfl trivial (enters_of Tryz.func183 (by kernel_rfl) rfl)
  (uv 4 (by decide) (w.heap.size+4) (w.heap.size+3) A m c l a HL.out hsz HA8.out _ (fun pre W v h=>IV v h) (fun pre A B h hb=>gC pre A B h hb) ?hCs) (fun _=>rfl)
  (fun cd pre W=>mY w (kq w.heap.size (((a+pre.length:Nat):Int) - 16) 0) cd W∧C9 l a (a+pre.length - 16)∧16≤a+pre.length)
  (fun pre x g W=>tT w A m c l a pre W∧ab W (w.heap.size+4) 3 #[.int .i64 ((a+pre.length:Nat):Int)])
  (OwnFrom.and (bq HB8.out _ _ _) (bp _ _ _)) (OwnFrom.and (bq HB8.out _ _ _) (bp _ _ _)) (OwnFrom.and (bq HB8.out _ _ _) (bp _ _ _))
  (fun cd=>?hIx) (fun x g=>OwnFrom.and (bq HB8.out _ _ _) (bp _ _ _)) ⟨HI0.out,HBC.out⟩ ?round ?done ?stop
 case hCs=>
  rintro pre W' ⟨⟨u,hp,hc⟩⟩
  have hx:=hc.2.1
  unfold oO at hx
  exact ⟨hx.tail.head,HA.out.below hc.1⟩
 case hIx=>
  rintro s W1 W2 row ⟨⟨h1,h2⟩,h3⟩ hg hr
  exact ⟨⟨h1,h2.grown hg (fun r e=>⟨zA6 HB8.out (hr r e).1,(hr r e).2⟩)⟩,h3⟩
 case round=>
  apply Exists.intro
  refine And.intro ?_ ?_
  ·rintro lp pre x W' ⟨hI,hb⟩ hsp
   have HI:=zAA hI;have HB:=zAA hb
   clear hI hb hsp
   dsimp only [tA]
   gi_wp2
   obtain ⟨g0,hg0⟩:∃g0,W'.heap.size=g0:=⟨_,rfl⟩
   exact ⟨⟨g0,rfl,HI.out,HB.out⟩,KeepsFrom.refl _ _⟩
  ·rintro lp pre x g W' ⟨⟨⟨u,hp,hc⟩⟩,hb⟩ hsp
   obtain ⟨hx1,hx2⟩:=yb hsp
   have hu:=nq (show ab W' (w.heap.size+4) 3 #[u] from hc.2.1.head) hb
   simp at hu
   subst hu
   have HC:=zAA hc;have HP:=zAA hp;have HX1:=zAA hx1;have HX2:=zAA hx2
   have hx:=hc.2.1
   unfold oO kq at hx
   have y0:=hx.tail.tail.head.cell 0;have y1:=hx.tail.tail.head.frozen 0;have y2:=hx.tail.tail.tail.head.cell 0;have y3:=hx.tail.tail.tail.head.frozen 0;have y4:=hx.tail.tail.tail.tail.head.cell 0;have y5:=hx.tail.tail.tail.tail.head.frozen 0
   (try dsimp only at y0 y1 y2 y3 y4 y5)
   clear hx hc hb hsp hp hx1 hx2
   have hrl:=tN l a pre.length
   obtain ⟨r,hr⟩:∃r,iN l a pre.length=r:=⟨_,rfl⟩
   have HR:=zAA hr
   rw [hr] at y0 hrl
   have hlen:pre.length≤8*l.length:=by have:=HX1.out;have:=HX2.out;omega
   have hl2:=HL.out
   have hx8:=HX2.out
   rw [hl2] at hlen hx8
   have hpl:(pre++[x]).length=pre.length+1:=by rw [zAL,zA3]
   have HPL:=zAA hpl
   by_cases hbz:aP l x=0
   ·have hb0:((aP l x:Nat):Int)=0:=by omega
    have hw1:zAE.wrap ((r:Int)+1)=(r:Int)+1:=by rw [zAB];omega
    have HBZ:=zAA hbz
    clear hbz hr hrl hlen hx8 hl2 hpl
    rw [hb0]
    gi_wp2_with fail
    refine ⟨ak (KeepsFrom.refl _ _) _ _,trivial,⟨⟨.int .i64 ((a+pre.length:Nat):Int),?_,?_⟩⟩,?_⟩
    ·rw [HPL.out];exact vO HP.out (by rw [←HX1.out];exact HBZ.out)
    ·have h2:=aT HC.out (g:=w.heap.size+2) (by omega) 0 (.int .i64 ((r:Int)+1)) (w.heap.size+2,3,#[.int .i64 (r:Int)]) (by simp [oO,HR.out]) rfl (by simp)
     have e1:iN l a (pre++[x]).length=r+1:=by rw [HPL.out,iN,if_pos (by rw [←HX1.out];exact HBZ.out),HR.out]
     rw [e1]
     simpa [cZ,oO,kq,HR.out] using h2
    ·have h2:=HC.out.2.1.head.far (p:=⟨w.heap.size+2,0,none⟩) (by simp) (.int .i64 ((r:Int)+1))
     refine cast (congrArg (fun v:Int=>ab _ _ _ #[.int .i64 v]) ?_) h2
     have:=HPL.out
     omega
   ·have hb1:=rQ l x hbz
    have hb0:((aP l x:Nat):Int)=1:=by omega
    have HB1:=zAA hb1
    rcases zAf r 15 with hr15|hr15
    ·have hg15:¬((15:Int)≤(r:Int)):=by omega
     have hg15':decide ((15:Int)≤(r:Int))=false:=by simpa using hg15
     have HR15:=zAA hr15
     clear hbz hb1 hr hrl hlen hx8 hl2 hpl hr15
     rw [hb0]
     gi_wp2_with fail
     refine ⟨ak (KeepsFrom.refl _ _) _ _,trivial,⟨⟨.int .i64 ((a+pre.length:Nat):Int),?_,?_⟩⟩,?_⟩
     ·rw [HPL.out];exact Cc HP.out (by rw [HR.out];exact HR15.out)
     ·have h2:=aT HC.out (g:=w.heap.size+2) (by omega) 0 (.int .i64 0) (w.heap.size+2,3,#[.int .i64 (r:Int)]) (by simp [oO,HR.out]) rfl (by simp)
      have e1:iN l a (pre++[x]).length=0:=by rw [HPL.out,iN,if_neg (by rw [←HX1.out,HB1.out];decide)]
      rw [e1]
      simpa [cZ,oO,kq,HR.out] using h2
     ·have h2:=HC.out.2.1.head.far (p:=⟨w.heap.size+2,0,none⟩) (by simp) (.int .i64 0)
      refine cast (congrArg (fun v:Int=>ab _ _ _ #[.int .i64 v]) ?_) h2
      have:=HPL.out
      omega
    ·have hg15:((15:Int)≤(r:Int)):=by omega
     have hg15':decide ((15:Int)≤(r:Int))=true:=by simpa using hg15
     have hfo:=BC HP.out (by rw [←HX1.out];exact HX2.out) (by rw [HR.out];exact hr15) (by rw [←HX1.out];exact HB1.out)
     have hx15:15≤x:=by have:=HX1.out;omega
     have hw1:zAE.wrap ((x:Int) - 15)=(x:Int) - 15:=by rw [zAB];omega
     have HFO:=zAA hfo;have HX15:=zAA hx15
     clear hbz hb1 hr hrl hlen hx8 hl2 hpl hr15 hfo hx15
     rw [hb0]
     gi_wp2_with fail
     refine ⟨ak (ak (KeepsFrom.refl _ _) _ _) _ _,⟨rfl,?_⟩,?_,?_⟩
     ·have e1:((a+(pre++[x]).length:Nat):Int) - 16=(x:Int) - 15:=by have:=HX1.out;rw [HPL.out];omega
      rw [e1]
      have h2:=ar (ar (ar HC.out))
      have h3:=aT h2 (g:=w.heap.size) (by omega) 0 (.int .i64 ((x:Int) - 15)) (w.heap.size,3,#[.int .i64 0]) (by simp [kq]) rfl (by simp)
      have h4:=aT h3 (g:=w.heap.size+1) (by omega) 0 (.int .i64 0) (w.heap.size+1,26,#[.int .i64 0]) (by simp [kq,cZ]) rfl (by simp)
      simpa [cZ,kq] using h4
     ·have e1:a+(pre++[x]).length - 16=a+pre.length - 15:=by rw [HPL.out];omega
      rw [e1]
      have h:=HFO.out
      exact ⟨by omega,h.2⟩
     ·have:=HX1.out;have:=HX15.out;rw [HPL.out];omega
 case done=>
  rintro D xs W2 hD ⟨hS,hend⟩ ⟨⟨⟨u,hp,hc⟩⟩,hb⟩ hK
  have HC:=zAA hc;have HK:=zAA hK;have HD:=zAA hD
  have HN:Hid (∀j,a≤j→¬jl l j):=zAA (fun j h1 h2=>hp j h1 (by have:=h2.1;have:=HL.out;omega) h2)
  have hx:=hc.2.1
  unfold oO kq at hx
  have y2:=hx.tail.tail.tail.head.cell 0;have y3:=hx.tail.tail.tail.head.frozen 0;have y4:=hx.tail.tail.tail.tail.head.cell 0;have y5:=hx.tail.tail.tail.tail.head.frozen 0
  (try dsimp only at y2 y3 y4 y5)
  clear hx hc hb hS hend hp hK hD
  gi_wp2_with fail
  go_wp2_with fail
  have hc5:ay w (kq w.heap.size 0 5) [] ((W2.setCell ⟨w.heap.size,0,none⟩ (.int .i64 0)).setCell ⟨w.heap.size+1,0,none⟩ (.int .i64 5)):=by
   have h2:=ar (ar (ar HC.out))
   have h3:=aT h2 (g:=w.heap.size) (by omega) 0 (.int .i64 0) (w.heap.size,3,#[.int .i64 0]) (by simp [kq]) rfl (by simp)
   have h4:=aT h3 (g:=w.heap.size+1) (by omega) 0 (.int .i64 5) (w.heap.size+1,26,#[.int .i64 0]) (by simp [kq,cZ]) rfl (by simp)
   simpa [cZ,kq] using h4
  have hK5:((W2.setCell ⟨w.heap.size,0,none⟩ (.int .i64 0)).setCell ⟨w.heap.size+1,0,none⟩ (.int .i64 5)).heap[D]? =some (.deferred (some [])):=by
   have hhD:=HD.out;rw [HS5.out] at hhD
   rw [Below.heap_setCell _ _ _ D (by show D≠w.heap.size+1;omega),Below.heap_setCell _ _ _ D (by show D≠w.heap.size;omega)]
   exact HK.out
  have hc6:=ia (o':= .deferred none) hc5 hK5 rfl (by have:=HD.out;have:=HB8.out;omega)
  exact ef hK5 (DB w.heap.size 0 5 _ _ hc6.2.1 rfl rfl) ⟨hc6.1,.inr ⟨rfl,HN.out⟩⟩
 case stop=>
  rintro D cd pre W2 hD hsp ⟨⟨rfl,hbel,hcs,_⟩,hfo,h16⟩ hK
  have HBel:=zAA hbel;have HCS:=zAA hcs;have HK:=zAA hK;have HD:=zAA hD;have HFO:=zAA hfo;have H16:=zAA h16
  clear hbel hcs hK hsp hD hfo h16
  gi_wp2_with fail
  exact ef HK.out (DB w.heap.size _ 0 _ _ (cF (o':= .deferred none) HCS.out HK.out rfl) rfl rfl) ⟨cq HBel.out (zA6 HB8.out HD.out),.inl ⟨a+pre.length - 16,by rw [show ((a+pre.length - 16:Nat):Int)=((a+pre.length:Nat):Int) - 16 by have:=H16.out;omega],HFO.out⟩⟩
def nk (h:Nat) (i m e:Int):List aI:=[(h+2,3,#[.int .i64 i]),(h+3,3,#[.int .i64 m]),(h+4,26,#[.int .i64 e])]
def qz (h:Nat) (A:Option Addr) (m c:Nat) (a:Nat) (u:Value):List aI:=(h+6,3,#[u])::(h+5,25,#[.slice A m c])::(h,25,#[.slice A m c])::(h+1,3,#[.int .i64 (a:Int)])::nk h 0 0 0
def vb (l:List UInt8) (a:Nat):Int:=if (cu l a).2.2=0 then ((cu l a).2.1:Int) - a else 0
def wk (l:List UInt8) (a:Nat):Value:= .tuple #[.int .i64 (cu l a).1,.int .i64 (vb l a),.int .i64 (cu l a).2.2]
def JZ (l:List UInt8) (a k:Nat):Prop:=∀j,a≤j→j<a+k→aP l j=0
def tW (w:World) (A:Option Addr) (m c:Nat) (l:List UInt8) (a:Nat):List Nat→World→Prop:=
 cR w (fun pre (_:Value)=>JZ l a pre.length) (fun _ u=>qz w.heap.size A m c a u) (fun _ _=>[])
theorem Jf {w W:World} {A:Option Addr} {m c:Nat} {l:List UInt8} {a:Nat} {pre:List Nat} (v:Value) (h:tW w A m c l a pre W):tW w A m c l a pre (W.setCell ⟨w.heap.size+6,0,none⟩ v):=by
 obtain ⟨⟨u,hp,hc⟩⟩:=h
 refine ⟨⟨v,hp,?_⟩⟩
 have h2:=aT hc (g:=w.heap.size+6) (by omega) 0 v (w.heap.size+6,3,#[u]) (by simp [qz]) rfl (by simp)
 simpa [cZ,qz,nk] using h2
theorem sQ {w W:World} {A:Option Addr} {m c:Nat} {a:Nat} {u:Value} (i k e:Int) (hc:ay w (qz w.heap.size A m c a u) [] W):ay w (nk w.heap.size i k e) [] (((W.setCell ⟨w.heap.size+2,0,none⟩ (.int .i64 i)).setCell ⟨w.heap.size+3,0,none⟩ (.int .i64 k)).setCell ⟨w.heap.size+4,0,none⟩ (.int .i64 e)):=by
 have h2:=ar (ar (ar (ar hc)))
 have h3:=aT h2 (g:=w.heap.size+2) (by omega) 0 (.int .i64 i) (w.heap.size+2,3,#[.int .i64 0]) (by simp [nk]) rfl (by simp)
 have h4:=aT h3 (g:=w.heap.size+3) (by omega) 0 (.int .i64 k) (w.heap.size+3,3,#[.int .i64 0]) (by simp [nk,cZ]) rfl (by simp)
 have h5:=aT h4 (g:=w.heap.size+4) (by omega) 0 (.int .i64 e) (w.heap.size+4,26,#[.int .i64 0]) (by simp [nk,cZ]) rfl (by simp)
 simpa [cZ,nk] using h5
theorem Ev (h:Nat) (i k e:Int) (tmps:Array Value) (W:World) (hc:aa (nk h i k e) W) (t4:tmps.getD 4 undef= .pointer (some ⟨h+2,0,none⟩)) (t5:tmps.getD 5 undef= .pointer (some ⟨h+3,0,none⟩)) (t6:tmps.getD 6 undef= .pointer (some ⟨h+4,0,none⟩)):
  (results Tryz.f140 tmps).run Tryz.prog W= .ok (.tuple #[.int .i64 i,.int .i64 k,.int .i64 e]) W:=by
 unfold nk at hc
 have h4:W.cell? ⟨h+2,0,none⟩=some (.int .i64 i):=hc.head.cell 0
 have h5:W.cell? ⟨h+3,0,none⟩=some (.int .i64 k):=hc.tail.head.cell 0
 have h6:W.cell? ⟨h+4,0,none⟩=some (.int .i64 e):=hc.tail.tail.head.cell 0
 have t4':tmps[4]?.getD undef= .pointer (some ⟨h+2,0,none⟩):=by simpa using t4
 have t5':tmps[5]?.getD undef= .pointer (some ⟨h+3,0,none⟩):=by simpa using t5
 have t6':tmps[6]?.getD undef= .pointer (some ⟨h+4,0,none⟩):=by simpa using t6
 simp [results,Tryz.results140,t4',t5',t6',asAddr,h4,h5,h6,go_sem]
set_option maxRecDepth 100000 in
set_option maxHeartbeats 8000000 in
theorem Bw (A:Option Addr) (m c:Nat) (l:List UInt8) (a:Nat) (w:World) (hA:Sl w A (l.map af)) (hl:l.length=m) (hsz:m≤2 ^ 40) (ha:a≤8*m):
  Calls Tryz.prog 140 #[.slice A m c,.int .i64 (a:Int)] w fun e w'=>e= .returned (wk l a)∧Below w.heap.size w w':=by
 have HA:=zAA hA;have HL:=zAA hl;have HA8:=zAA ha
 have h0:¬((a:Int)<0):=by omega
 obtain ⟨v1,hv1⟩:∃v,(cu l a).1=v:=⟨_,rfl⟩
 obtain ⟨v2,hv2⟩:∃v,vb l a=v:=⟨_,rfl⟩
 obtain ⟨v3,hv3⟩:∃v,(cu l a).2.2=v:=⟨_,rfl⟩
 have HV:Hid ((cu l a).1=v1∧vb l a=v2∧(cu l a).2.2=v3):=zAA ⟨hv1,hv2,hv3⟩
 unfold wk
 rw [hv1,hv2,hv3]
 clear hA hl ha hv1 hv2 hv3
 refine (callsIn_wide (n:=5)).1 ?_
 refine callsIn_of_wp_marks Tryz.func140 rfl trivial ?_ rfl
 simp only [Tryz.ntmps140,zAT,zAV,zAZ,zAM,zA5,Array.replicate_succ,Array.replicate_zero,zAS,zAO,zA1,zAU]
 refine wpIn_wide.2 ?_
 go_wp2_with (go_at_call 139;refine (uc _ _ _ _ _).mono ?_;rintro e w' ⟨rfl,rfl⟩)
 simp only [zAe,zAM]
 have hc0:ay w (qz w.heap.size A m c a (.int .i64 (a:Int))) [] (((((((w.alloc (.cells #[.slice A m c] 25)).alloc (.cells #[.int .i64 (a:Int)] 3)).alloc (.cells #[.int .i64 0] 3)).alloc (.cells #[.int .i64 0] 3)).alloc (.cells #[.int .i64 0] 26)).alloc (.cells #[.slice A m c] 25)).alloc (.cells #[.int .i64 (a:Int)] 3)):=by
  refine ⟨((((((((Below.refl _ _).alloc (zAD _) _).alloc (by simp) _).alloc (by simp;omega) _).alloc (by simp;omega) _).alloc (by simp;omega) _).alloc (by simp;omega) _).alloc (by simp;omega) _),?_,aE _⟩
  unfold qz nk
  refine aa.cons ?_ (aa.cons ?_ (aa.cons ?_ (aa.cons ?_ (aa.cons ?_ (aa.cons ?_ (aa.cons ?_ (ag _)))))))
  all_goals (repeat (first|(refine aD (ab.new _ _ _) ?_;simp [zAc];done)|refine ab.alloc ?_ _))
 have hs5:(((((((w.alloc (.cells #[.slice A m c] 25)).alloc (.cells #[.int .i64 (a:Int)] 3)).alloc (.cells #[.int .i64 0] 3)).alloc (.cells #[.int .i64 0] 3)).alloc (.cells #[.int .i64 0] 26)).alloc (.cells #[.slice A m c] 25)).alloc (.cells #[.int .i64 (a:Int)] 3)).heap.size=w.heap.size+7:=by simp
 generalize (((((((w.alloc (.cells #[.slice A m c] 25)).alloc (.cells #[.int .i64 (a:Int)] 3)).alloc (.cells #[.int .i64 0] 3)).alloc (.cells #[.int .i64 0] 3)).alloc (.cells #[.int .i64 0] 26)).alloc (.cells #[.slice A m c] 25)).alloc (.cells #[.int .i64 (a:Int)] 3))=W at hc0 hs5⊢
 have HB8:Hid (w.heap.size≤W.heap.size):=zAA (by rw [hs5];omega)
 have HS5:=zAA hs5
 have HBC:=zAA (show ab W (w.heap.size+6) 3 #[.int .i64 (a:Int)] from hc0.2.1.head)
 have HI0:Hid (tW w A m c l a [] W):=zAA ⟨⟨.int .i64 (a:Int),(fun j h1 h2=>by simp at h2;omega),hc0⟩⟩
 clear hc0 hs5
 refine (wpIn_wide (n:=5)).1 ?_
 refine tc (α:=Nat) (enc:=tA l)
  (IS:=fun pre W=>tW w A m c l a pre W∧ab W (w.heap.size+6) 3 #[.int .i64 (a:Int)])
  (I:=fun pre W=>tW w A m c l a pre W∧ab W (w.heap.size+6) 3 #[.int .i64 ((a+pre.length:Nat):Int)])
  (I2:=fun pre W=>tW w A m c l a pre W∧ab W (w.heap.size+6) 3 #[.int .i64 (((a+pre.length:Nat):Int) - 1)])
  (IE:=fun pre W=>tW w A m c l a pre W∧ab W (w.heap.size+6) 3 #[.int .i64 ((a+pre.length:Nat):Int)])
  (S:=fun xs=>o7 l a xs∧8*m≤a+xs.length) (Sp:=o7 l a)
  rfl (by decide) (gf:=183) (lb:= #[.pointer (some ⟨w.heap.size+6,0,none⟩),.pointer (some ⟨w.heap.size+5,0,none⟩)]) rfl trivial (enters_of Tryz.func183 (by kernel_rfl) rfl)
  (uv 4 (by decide) (w.heap.size+6) (w.heap.size+5) A m c l a HL.out hsz HA8.out _ (fun pre W v h=>Jf v h) (fun pre A B h hb=>gC pre A B h hb) ?hCs) (fun _=>rfl)
  (fun cd pre W=>mY w (nk w.heap.size v1 v2 v3) cd W)
  (fun pre x g W=>tW w A m c l a pre W∧ab W (w.heap.size+6) 3 #[.int .i64 ((a+pre.length:Nat):Int)])
  (OwnFrom.and (bq HB8.out _ _ _) (bp _ _ _)) (OwnFrom.and (bq HB8.out _ _ _) (bp _ _ _)) (OwnFrom.and (bq HB8.out _ _ _) (bp _ _ _))
  (fun cd=>ik HB8.out _ _) (fun x g=>OwnFrom.and (bq HB8.out _ _ _) (bp _ _ _)) ⟨HI0.out,HBC.out⟩ ?round ?done ?stop
 case hCs=>
  rintro pre W' ⟨⟨u,hp,hc⟩⟩
  have hx:=hc.2.1
  unfold qz at hx
  exact ⟨hx.tail.head,HA.out.below hc.1⟩
 case round=>
  apply Exists.intro
  refine And.intro ?_ ?_
  ·rintro lp pre x W' ⟨hI,hb⟩ hsp
   have HI:=zAA hI;have HB:=zAA hb
   clear hI hb hsp
   dsimp only [tA]
   gi_wp2
   obtain ⟨g0,hg0⟩:∃g0,W'.heap.size=g0:=⟨_,rfl⟩
   exact ⟨⟨g0,rfl,HI.out,HB.out⟩,KeepsFrom.refl _ _⟩
  ·rintro lp pre x g W' ⟨⟨⟨u,hp,hc⟩⟩,hb⟩ hsp
   obtain ⟨hx1,hx2⟩:=yb hsp
   have hu:=nq (show ab W' (w.heap.size+6) 3 #[u] from hc.2.1.head) hb
   simp at hu
   subst hu
   have HC:=zAA hc;have HP:=zAA hp;have HX1:=zAA hx1;have HX2:=zAA hx2;have HB:=zAA hb
   have hpl:(pre++[x]).length=pre.length+1:=by rw [zAL,zA3]
   have HPL:=zAA hpl
   have hl2:=HL.out
   have hx8:x<8*m:=by rw [←hl2];exact hx2
   have hxa:a≤x:=by omega
   have hx:=hc.2.1
   unfold qz nk at hx
   have y0:=hx.tail.tail.head.cell 0;have y1:=hx.tail.tail.tail.head.cell 0
   (try dsimp only at y0 y1)
   by_cases hbz:aP l x=0
   ·have hb0:((aP l x:Nat):Int)=0:=by omega
    have HBZ:=zAA hbz
    clear hbz hpl hl2 hx8 hxa hx hc hb hsp hp hx1 hx2
    rw [hb0]
    gi_wp2_with fail
    refine ⟨KeepsFrom.refl _ _,trivial,⟨⟨.int .i64 ((a+pre.length:Nat):Int),?_,HC.out⟩⟩,?_⟩
    ·rw [HPL.out]
     intro j h1 h2
     rcases zAf j (a+pre.length) with h3|h3
     ·exact HP.out j h1 h3
     ·have:j=x:=by have:=HX1.out;omega
      rw [this];exact HBZ.out
    ·refine cast (congrArg (fun v:Int=>ab _ _ _ #[.int .i64 v]) ?_) HB.out
     have:=HPL.out
     omega
   ·have hb1:=rQ l x hbz
    have hb0:((aP l x:Nat):Int)=1:=by omega
    have hst:=Ex (l:=l) (p:=a) (z:=pre.length) (by omega) hp (by rw [←hx1];exact hbz)
    have f0:=hx.tail.tail.tail.tail.head.frozen 0;have f1:=hx.tail.tail.tail.tail.tail.head.frozen 0;have f2:=hx.tail.tail.tail.tail.tail.tail.head.frozen 0
    have g0:=hx.tail.tail.tail.tail.head.cell 0;have g1:=hx.tail.tail.tail.tail.tail.head.cell 0;have g2:=hx.tail.tail.tail.tail.tail.tail.head.cell 0
    (try dsimp only at f0 f1 f2 g0 g1 g2)
    have hz:(pre.length:Int)=(x:Int) - (a:Int):=by omega
    have hwd:zAE.wrap ((x:Int) - (a:Int))=(x:Int) - (a:Int):=by rw [zAB];omega
    by_cases h15:pre.length<15
    ·rw [if_pos h15] at hst
     have h15i:(x:Int) - (a:Int)<15:=by omega
     have hvv:v1=0∧v2=0∧v3=7:=by
      obtain ⟨q1,q2,q3⟩:=HV.out
      unfold vb at q2
      rw [hst] at q1 q2 q3
      exact ⟨q1.symm,q2.symm,q3.symm⟩
     obtain ⟨rfl,rfl,rfl⟩:=hvv
     clear hbz hpl hl2 hx8 hxa hx hc hb hsp hp hx1 hx2 hb1 hst h15 hz
     rw [hb0]
     gi_wp2_with fail
     exact ⟨ak (ak (ak (KeepsFrom.refl _ _) _ _) _ _) _ _,rfl,sQ 0 0 7 HC.out⟩
    ·rw [if_neg h15] at hst
     have h15i:¬(x:Int) - (a:Int)<15:=by omega
     have hw1:zAE.wrap ((x:Int)+1)=(x:Int)+1:=by rw [zAB];omega
     by_cases h5:8*l.length<a+pre.length+5
     ·rw [if_pos h5] at hst
      have hvv:v1=0∧v2=0∧v3=5:=by
       obtain ⟨q1,q2,q3⟩:=HV.out
       unfold vb at q2
       rw [hst] at q1 q2 q3
       exact ⟨q1.symm,q2.symm,q3.symm⟩
      obtain ⟨rfl,rfl,rfl⟩:=hvv
      have CR:=zAA (fun W=>de A m c ((x:Int)+1) 4 W (by omega) (by omega) (by omega) (by omega) (by omega))
      clear hbz hpl hl2 hx8 hxa hx hc hb hsp hp hx1 hx2 hb1 hst h15 hz h5
      rw [hb0]
      gi_wp2_with (refine ⟨trivial,?_⟩;gi_at_call 56;refine (callsIn_wide.2 (CR.out _)).mono ?_;rintro e w2 ⟨rfl,rfl⟩)
      exact ⟨ak (ak (ak (KeepsFrom.refl _ _) _ _) _ _) _ _,rfl,sQ 0 0 5 HC.out⟩
     ·rw [if_neg h5] at hst
      have hvv:v1=((aF l (x+1) 4:Nat):Int)∧v2=(x:Int)+5 - (a:Int)∧v3=0:=by
       obtain ⟨q1,q2,q3⟩:=HV.out
       unfold vb at q2
       rw [hst] at q1 q2 q3
       rw [if_pos rfl] at q2
       dsimp only at q1 q2 q3
       refine ⟨by rw [←q1,hx1],?_,q3.symm⟩
       rw [←q2,hx1];push_cast;omega
      obtain ⟨rfl,rfl,rfl⟩:=hvv
      have CR:=zAA (ja A m c l ((x:Int)+1) 4 W' (HA.out.below hc.1) HL.out (by omega) (by omega) (by omega) (by omega) (by omega))
      rw [show ((x:Int)+1).toNat=x+1 by omega,show (4:Int).toNat=4 from rfl] at CR
      have hw5:zAE.wrap ((x:Int)+5)=(x:Int)+5:=by rw [zAB];omega
      have hw6:zAE.wrap ((x:Int)+5 - (a:Int))=(x:Int)+5 - (a:Int):=by rw [zAB];omega
      have HCD:=zAA (bM hc)
      have HY:Hid (ab W'.drew (w.heap.size+1) 3 #[.int .i64 (a:Int)]):=zAA (by have h:=HCD.out.2.1;unfold qz at h;exact h.tail.tail.tail.head)
      generalize aF l (x+1) 4=nn at*
      clear hbz hpl hl2 hx8 hxa hx hc hb hsp hp hx1 hx2 hb1 hst h15 hz h5
      rw [hb0]
      gi_wp2_with (refine ⟨trivial,?_⟩;gi_at_call 56;refine (callsIn_wide.2 CR.out).mono ?_;rintro e w2 ⟨rfl,rfl⟩)
      refine fm (fun w'=>ab w' (w.heap.size+1) 3 #[.int .i64 (a:Int)]) 6 (.take 0 (.take 1 (.take 2 (.take 3 (.take 4 (.step 5 .done)))))) (by kernel_rfl) (by kernel_rfl) (by simp only [aR.out,Array.getD_eq_getD_getElem?,zAJ,zAI,zAH,zAN];rfl) (by simp only [zAR,zAW];rfl) (HY.out) (fun PE hPE=>?_)
      iterate 5
       refine ah (v:=?_) rfl (by rfl) ?_ ?_
       rotate_left
       ·intro _ hSw;(try dsimp only at hSw);have z0:=hSw.cell 0;(try dsimp only at z0);go_simp;(try with_reducible rfl)
       simp only [zAC,zAG,zAF]
      refine bG _ (w':=?_) rfl (by rfl) ?_ ?_ ?_
      rotate_left 1
      ·go_simp;(first|(with_reducible rfl)|(constructor<;>with_reducible rfl)|skip)
      ·exact HY.out.far (by simp) _
      refine hPE _ _ ?_
      clear hPE PE
      simp only [zAK,zAP]
      go_wp2_with fail
      refine ⟨rfl,?_⟩
      gi_wp2_with fail
      exact ⟨fb (ak (ak (ak (KeepsFrom.refl _ _) _ _) _ _) _ _),rfl,bM (sQ _ _ 0 HC.out)⟩
 case done=>
  rintro D xs W2 hD ⟨hS,hend⟩ ⟨⟨⟨u,hp,hc⟩⟩,hb⟩ hK
  have HC:=zAA hc;have HK:=zAA hK;have HD:=zAA hD
  have hst:=Ew (l:=l) (p:=a) (fun j h1 h2=>hp j h1 (by have:=HL.out;omega))
  have hvv:v1=0∧v2=0∧v3=5:=by
   obtain ⟨q1,q2,q3⟩:=HV.out
   unfold vb at q2
   rw [hst] at q1 q2 q3
   exact ⟨q1.symm,q2.symm,q3.symm⟩
  obtain ⟨rfl,rfl,rfl⟩:=hvv
  have hx:=hc.2.1
  unfold qz nk at hx
  have f0:=hx.tail.tail.tail.tail.head.frozen 0;have f1:=hx.tail.tail.tail.tail.tail.head.frozen 0;have f2:=hx.tail.tail.tail.tail.tail.tail.head.frozen 0
  have g0:=hx.tail.tail.tail.tail.head.cell 0;have g1:=hx.tail.tail.tail.tail.tail.head.cell 0;have g2:=hx.tail.tail.tail.tail.tail.tail.head.cell 0
  (try dsimp only at f0 f1 f2 g0 g1 g2)
  clear hx hc hb hS hend hp hK hD hst
  gi_wp2_with fail
  go_wp2_with fail
  have hc5:=sQ 0 0 5 HC.out
  have hK5:(((W2.setCell ⟨w.heap.size+2,0,none⟩ (.int .i64 0)).setCell ⟨w.heap.size+3,0,none⟩ (.int .i64 0)).setCell ⟨w.heap.size+4,0,none⟩ (.int .i64 5)).heap[D]? =some (.deferred (some [])):=by
   have hhD:=HD.out;rw [HS5.out] at hhD
   rw [Below.heap_setCell _ _ _ D (by show D≠w.heap.size+4;omega),Below.heap_setCell _ _ _ D (by show D≠w.heap.size+3;omega),Below.heap_setCell _ _ _ D (by show D≠w.heap.size+2;omega)]
   exact HK.out
  have hc6:=ia (o':= .deferred none) hc5 hK5 rfl (by have:=HD.out;have:=HB8.out;omega)
  exact ef hK5 (Ev w.heap.size 0 0 5 _ _ hc6.2.1 rfl rfl rfl) ⟨rfl,hc6.1⟩
 case stop=>
  rintro D cd pre W2 hD hsp ⟨rfl,hbel,hcs,_⟩ hK
  have HBel:=zAA hbel;have HCS:=zAA hcs;have HK:=zAA hK;have HD:=zAA hD
  clear hbel hcs hK hsp hD
  gi_wp2_with fail
  exact ef HK.out (Ev w.heap.size v1 v2 v3 _ _ (cF (o':= .deferred none) HCS.out HK.out rfl) rfl rfl rfl) ⟨rfl,cq HBel.out (zA6 HB8.out HD.out)⟩
def IB (r:nH×Nat×Int) (p:Nat) (w:World) (e:Ending) (w':World):Prop:=
 ∃v,e= .returned (.tuple #[.agg #[.int .i64 r.1.tm,.int .i64 r.1.ty,v],.int .i64 (jO r.2 p),.int .i64 r.2.2])∧Below w.heap.size w w'∧w'.ownsRow w.heap.size 5 1 v r.1.sp.length (r.1.sp.map af)
def dX (tm ty:Int) (v:Value):Array Value:= #[.int .i64 tm,.int .i64 ty,v]
def qy (h gh gb g:Nat) (tm ty:Int) (v:Value):List aI:=[(gh,32,dX tm ty v),(gb,161,#[.pointer (some ⟨g,0,none⟩)]),(h,32,dX 0 0 (.slice none 0 0))]
def tU (w:World) (gh gb g:Nat) (tm ty:Int):List UInt8→World→Prop:=
 cR w (fun _ (_:Value)=>True) (fun _ v=>qy w.heap.size gh gb g tm ty v) (fun pre v=>[⟨w.heap.size,5,1,v,pre.length,pre.map af⟩])
theorem E7 {L:List aI} {W W':World} {g:Nat} (h:aa L W) (hg:W.grownBy W' (some g)) (hL:∀p∈L,p.1≠g):aa L W':=fun p hp=>iS (h p hp) hg (hL p hp)
theorem F5 {R:List a9} {W W':World} {g:Nat} {t:TypeId} {cs:Array Value} (h:ap R W) (hg:ab W g t cs) (hb:W.grownBy W' (some g)) (hR:∀r∈R,r.e≠t):ap R W':=fun r hr=>se (h r hr) hb hg (hR r hr)
theorem GN {w W W':World} {L:List aI} {R:List a9} {g:Nat} {t:TypeId} {cs:Array Value} (hc:ay w L R W) (hg:W.grownBy W' (some g)) (hw:w.heap.size≤g) (hb:ab W g t cs) (hL:∀p∈L,p.1≠g) (hR:∀r∈R,r.e≠t):ay w L R W':=
 ⟨sf hc.1 hg hc.1.size hw,E7 hc.2.1 hg hL,F5 hc.2.2 hb hg hR⟩
theorem JJ {w W W':World} {gh gb g:Nat} {tm ty:Int} {pre:List UInt8} {cs:Array Value} (h:tU w gh gb g tm ty pre W) (hb:ab W g 163 cs) (hg:W.grownBy W' (some g)) (hw:w.heap.size≤g) (h1:gh≠g) (h2:gb≠g) (h3:w.heap.size≠g):tU w gh gb g tm ty pre W':=by
 obtain ⟨⟨v,hp,hc⟩⟩:=h
 refine ⟨⟨v,hp,GN hc hg hw hb ?_ (by simp)⟩⟩
 intro q hq
 simp only [qy,zA4,zAX,or_false] at hq
 rcases hq with rfl|rfl|rfl
 ·exact h1
 ·exact h2
 ·exact h3
theorem xP (h:Nat) (tm ty:Int) (v:Value) (n e:Int) (tmps:Array Value) (W:World) (hb:ab W h 32 (dX tm ty v)) (t4:tmps.getD 4 undef= .pointer (some ⟨h,0,none⟩)) (t5:tmps.getD 5 undef= .int .i64 n) (t6:tmps.getD 6 undef= .int .i64 e):
  (results Tryz.f86 tmps).run Tryz.prog W= .ok (.tuple #[.agg #[.int .i64 tm,.int .i64 ty,v],.int .i64 n,.int .i64 e]) W:=by
 unfold dX at hb
 have c0:=hb.cell 0;have c1:=hb.cell 1;have c2:=hb.cell 2
 simp at c0 c1 c2
 have t4':tmps[4]?.getD undef= .pointer (some ⟨h,0,none⟩):=by simpa using t4
 have t5':tmps[5]?.getD undef= .int .i64 n:=by simpa using t5
 have t6':tmps[6]?.getD undef= .int .i64 e:=by simpa using t6
 simp [results,Tryz.results86,t4',t5',t6',asAddr,c0,c1,c2,go_sem]
theorem Ee {w W:World} {gh gb g:Nat} {tm ty:Int} {v:Value} {R:List a9} (a b:Int) (u:Value) (hc:ay w (qy w.heap.size gh gb g tm ty v) R W) (_hne:gh≠w.heap.size) (hR:∀r∈R,r.e≠32):
  ay w [(w.heap.size,32,dX a b u)] R (((W.setCell ⟨w.heap.size,0,none⟩ (.int .i64 a)).setCell ⟨w.heap.size,1,none⟩ (.int .i64 b)).setCell ⟨w.heap.size,2,none⟩ u):=by
 have h2:ay w [(w.heap.size,32,dX 0 0 (.slice none 0 0))] R W:=ar (ar hc)
 have h3:=aT h2 (g:=w.heap.size) (zAD _) 0 (.int .i64 a) (w.heap.size,32,dX 0 0 (.slice none 0 0)) (by simp) rfl hR
 have h4:=aT h3 (g:=w.heap.size) (zAD _) 1 (.int .i64 b) (w.heap.size,32,dX a 0 (.slice none 0 0)) (by simp [cZ,dX]) rfl hR
 have h5:=aT h4 (g:=w.heap.size) (zAD _) 2 u (w.heap.size,32,dX a b (.slice none 0 0)) (by simp [cZ,dX]) rfl hR
 simpa [cZ,dX] using h5
theorem Ff {L:List aI} {W:World} {k:Nat} (h:aa L W) (hL:∀q∈L,q.1≠k) (a b u:Value):aa L (((W.setCell ⟨k,0,none⟩ a).setCell ⟨k,1,none⟩ b).setCell ⟨k,2,none⟩ u):=
 ((h.far (p:=⟨k,0,none⟩) hL a).far (p:=⟨k,1,none⟩) hL b).far (p:=⟨k,2,none⟩) hL u
set_option maxRecDepth 100000 in
set_option maxHeartbeats 8000000 in
theorem Hx (A:Option Addr) (n c:Nat) (l:List UInt8) (p:Nat) (w:World) (hA:Sl w A (l.map af)) (hl:l.length=n) (hsz:n≤2 ^ 40) (hp:p≤8*n):
  Calls Tryz.prog 86 #[.slice A n c,.int .i64 (p:Int)] w (IB (eo l p) p w):=by
 have HA:=zAA hA;have HL:=zAA hl
 have h0:¬((p:Int)<0):=by omega
 obtain ⟨r,hr⟩:∃r,eo l p=r:=⟨_,rfl⟩
 rw [hr]
 have HR:=zAA hr
 have ha1:=(Below.refl _ w).alloc (zAD _) (.cells (dX 0 0 (.slice none 0 0)) 32)
 have ha2:=ha1.alloc ha1.size (.cells (cU A n c p 0) 163)
 have hb0:ab ((w.alloc (.cells (dX 0 0 (.slice none 0 0)) 32)).alloc (.cells (cU A n c p 0) 163)) w.heap.size 32 (dX 0 0 (.slice none 0 0)):=(ab.new _ _ _).alloc _
 have hb1:ab ((w.alloc (.cells (dX 0 0 (.slice none 0 0)) 32)).alloc (.cells (cU A n c p 0) 163)) (w.heap.size+1) 163 (cU A n c p 0):=aD (ab.new _ _ _) (by simp)
 obtain ⟨r1,hr1⟩:∃r,gZ l p 0 5=r:=⟨_,rfl⟩
 have hT1:∀W,ab W (w.heap.size+1) 163 (cU A n c p 0)→Below w.heap.size w W→Calls Tryz.prog 141 #[.pointer (some ⟨w.heap.size+1,0,none⟩),.int .i64 5] W (Gu (w.heap.size+1) A n c r1 W):=fun W h1 h2=>by
  rw [←hr1];exact oA (w.heap.size+1) A n c l p 0 5 W h1 (HA.out.below h2) hl hsz hp (by decide)
 have hp2:r1.2.1≤8*n:=by
  rw [←hr1];unfold gZ
  rw [if_neg (by simp)]
  split
  ·exact hp
  ·dsimp only;omega
 obtain ⟨r2,hr2⟩:∃r,gZ l r1.2.1 r1.2.2 6=r:=⟨_,rfl⟩
 have hT2:∀W,ab W (w.heap.size+1) 163 (cU A n c r1.2.1 r1.2.2)→Below w.heap.size w W→Calls Tryz.prog 141 #[.pointer (some ⟨w.heap.size+1,0,none⟩),.int .i64 6] W (Gu (w.heap.size+1) A n c r2 W):=fun W h1 h2=>by
  rw [←hr2];exact oA (w.heap.size+1) A n c l r1.2.1 r1.2.2 6 W h1 (HA.out.below h2) hl hsz hp2 (by decide)
 have hres:(8*l.length<p+11∧r2.2.2=5∧r2.2.1≤8*n)∨(¬8*l.length<p+11∧r1.1=(aF l p 5:Nat)∧r2=(((aF l (p+5) 6:Nat):Int),p+11,(0:Int))):=by
  unfold gZ at hr1
  rw [if_neg (by simp)] at hr1
  by_cases h5:8*l.length<p+5
  ·rw [if_pos h5] at hr1
   subst hr1
   unfold gZ at hr2
   rw [if_pos (by simp)] at hr2
   subst hr2
   exact .inl ⟨by omega,rfl,hp⟩
  ·rw [if_neg h5] at hr1
   subst hr1
   unfold gZ at hr2
   rw [if_neg (by simp)] at hr2
   dsimp only at hr2⊢
   by_cases h6:8*l.length<p+5+6
   ·rw [if_pos h6] at hr2
    subst hr2
    exact .inl ⟨by omega,rfl,hp2⟩
   ·rw [if_neg h6] at hr2
    exact .inr ⟨by omega,rfl,hr2.symm⟩
 have HT1:=zAA hT1;have HT2:=zAA hT2;have HRES:=zAA hres
 have HB0:=zAA hb0;have HB1:=zAA hb1;have HA2:=zAA ha2
 clear hA hl hr ha1 ha2 hb0 hb1 hr1 hr2 hT1 hT2 hres hp2
 refine (callsIn_wide (n:=5)).1 ?_
 refine callsIn_of_wp_marks Tryz.func86 rfl trivial ?_ rfl
 simp only [Tryz.ntmps86,zAT,zAV,zAZ,zAM,zA5,Array.replicate_succ,Array.replicate_zero,zAS,zAO,zA1,zAU]
 refine wpIn_wide.2 ?_
 go_wp2_with fail
 refine (HT1.out _ HB1.out HA2.out).mono ?_
 rintro e w2 ⟨rfl,hb2,hg2⟩
 have HA3:=zAA (sf HA2.out hg2 HA2.out.size (zAh _))
 have HB3:=zAA (iS HB0.out hg2 (zAg (zAb _)))
 have HC3:=zAA hb2
 clear hb2 hg2
 go_wp2_with fail
 refine (HT2.out _ HC3.out HA3.out).mono ?_
 rintro e w3 ⟨rfl,hb3,hg3⟩
 have HA4:=zAA (sf HA3.out hg3 HA3.out.size (zAh _))
 have HB4:=zAA (iS HB3.out hg3 (zAg (zAb _)))
 have HC4:=zAA hb3
 clear hb3 hg3 HT1 HT2 HA2 HA3 HB0 HB1 HB3 HC3
 obtain ⟨tm,htm⟩:∃tm,r1.1=tm:=⟨_,rfl⟩
 obtain ⟨ty,p2,bad⟩:=r2
 rw [htm]
 dsimp only at HRES HC4⊢
 rw [htm] at HRES
 obtain ⟨g,hg⟩:∃g,w.heap.size+1=g:=⟨_,rfl⟩
 rw [hg] at HC4⊢
 have HG:=zAA hg
 obtain ⟨gh,hgh⟩:∃gh,w3.heap.size=gh:=⟨_,rfl⟩
 have HGH:=zAA hgh
 clear hg hgh htm r1
 go_wp2_with (go_at_call 142;refine (Ef _ _).mono ?_;rintro e w' ⟨rfl,rfl⟩)
 rw [HGH.out]
 have hgl:g<w3.heap.size:=HC4.out.lt
 have hgw:w.heap.size<g:=by have:=HG.out;omega
 have hc0:ay w (qy w.heap.size gh (gh+1) g tm ty (.slice none 0 0)) [⟨w.heap.size,5,1,.slice none 0 0,0,[]⟩] ((w3.alloc (.cells #[.int .i64 tm,.int .i64 ty,.slice none 0 0] 32)).alloc (.cells #[.pointer (some ⟨g,0,none⟩)] 161)):=by
  have h1:=HA4.out.alloc HA4.out.size (.cells #[.int .i64 tm,.int .i64 ty,.slice none 0 0] 32)
  refine ⟨h1.alloc h1.size _,?_,ap.cons (zA9 _ _ _ _) (aE _)⟩
  unfold qy dX
  refine aa.cons ?_ (aa.cons ?_ (aa.cons ?_ (ag _)))
  ·exact (aD (ab.new _ _ _) HGH.out).alloc _
  ·exact aD (ab.new _ _ _) (by simp [HGH.out])
  ·exact ((HB4.out).alloc _).alloc _
 have hcu:ab ((w3.alloc (.cells #[.int .i64 tm,.int .i64 ty,.slice none 0 0] 32)).alloc (.cells #[.pointer (some ⟨g,0,none⟩)] 161)) g 163 (cU A n c p2 bad):=(HC4.out.alloc _).alloc _
 have hne1:gh≠g:=by have:=HGH.out;omega
 have hne2:gh+1≠g:=by have:=HGH.out;omega
 have hne3:w.heap.size≠g:=by omega
 have hne4:gh≠w.heap.size:=by have:=HGH.out;omega
 generalize (w3.alloc (.cells #[.int .i64 tm,.int .i64 ty,.slice none 0 0] 32)).alloc (.cells #[.pointer (some ⟨g,0,none⟩)] 161)=W at hc0 hcu⊢
 have HB8:Hid (w.heap.size≤W.heap.size):=zAA hc0.1.size
 have HB9:Hid (w.heap.size<W.heap.size):=zAA hc0.2.1.tail.tail.head.lt
 have HCU:=zAA hcu
 have HI0:Hid (tU w gh (gh+1) g tm ty [] W):=zAA ⟨⟨.slice none 0 0,trivial,hc0⟩⟩
 have hp8:p2≤8*n:=by
  rcases HRES.out with ⟨_,_,h⟩|⟨h1,_,h⟩
  ·exact h
  ·have:p2=p+11:=(Prod.mk.inj (Prod.mk.inj h).2).1
   have:=HL.out
   omega
 have HN:Hid (gh≠g∧gh+1≠g∧w.heap.size≠g∧gh≠w.heap.size∧w.heap.size≤g∧w.heap.size≤gh):=zAA ⟨hne1,hne2,hne3,hne4,by omega,by have:=HA4.out.size;have:=HGH.out;omega⟩
 have HP8:=zAA hp8
 clear hc0 hcu hne1 hne2 hne3 hne4 hgl hgw hp8 HA4 HB4 HC4 HG HGH w3
 refine (wpIn_wide (n:=5)).1 ?_
 refine tc (α:=UInt8) (enc:=BJ)
  (IS:=fun pre W=>tU w gh (gh+1) g tm ty pre W∧ab W g 163 (cU A n c p2 bad))
  (I:=fun pre W=>tU w gh (gh+1) g tm ty pre W∧ab W g 163 (cU A n c (p2+9*(pre.length+1)) 0))
  (I2:=fun pre W=>tU w gh (gh+1) g tm ty pre W∧ab W g 163 (cU A n c (p2+9*pre.length) 0))
  (IE:=fun pre W=>tU w gh (gh+1) g tm ty pre W∧ab W g 163 (cU A n c (eR l p2 bad pre.length).1 (eR l p2 bad pre.length).2))
  (S:=o6 l p2 bad) (Sp:=Ah l p2)
  rfl (by decide) (gf:=184) (lb:= #[.pointer (some ⟨gh+1,0,none⟩)]) rfl trivial (enters_of Tryz.func184 (by kernel_rfl) rfl)
  (Eu 4 (by decide) g (gh+1) A n c l p2 bad HL.out hsz HP8.out _ (fun pre W W' cs h hb hg=>JJ h hb hg HN.out.2.2.2.2.1 HN.out.1 HN.out.2.1 HN.out.2.2.1) ?hCs) (fun _=>rfl)
  (fun _ _ _=>False)
  (fun pre x k W=>tU w gh (gh+1) g tm ty pre W∧ab W g 163 (cU A n c (p2+9*(pre.length+1)) 0))
  (OwnFrom.and (bq HB8.out _ _ _) (bp _ _ _)) (OwnFrom.and (bq HB8.out _ _ _) (bp _ _ _)) (OwnFrom.and (bq HB8.out _ _ _) (bp _ _ _))
  (fun cd _ _ _ _ h _ _=>h) (fun x k=>OwnFrom.and (bq HB8.out _ _ _) (bp _ _ _)) ⟨HI0.out,HCU.out⟩ ?round ?done ?stop
 case hCs=>
  rintro pre W' ⟨⟨v,hp,hc⟩⟩
  exact ⟨hc.2.1.tail.head,HA.out.below hc.1⟩
 case stop=>
  intro D cd pre W2 hD hsp hf
  exact hf.elim
 case round=>
  apply Exists.intro
  refine And.intro ?_ ?_
  ·rintro lp pre x W' ⟨hI,hb⟩ hsp
   have HI:=zAA hI;have HB:=zAA hb
   clear hI hb hsp
   dsimp only [BJ]
   gi_wp2
   obtain ⟨g0,hg0⟩:∃g0,W'.heap.size=g0:=⟨_,rfl⟩
   exact ⟨⟨g0,rfl,HI.out,HB.out⟩,KeepsFrom.refl _ _⟩
  ·rintro lp pre x k W' ⟨⟨⟨v,hp,hc⟩⟩,hb⟩ hsp
   obtain ⟨A2,c2,hv2⟩:=bj hc.2.2.head
   dsimp only at hv2
   subst hv2
   have HC:=zAA hc;have HB:=zAA hb
   have hx:=hc.2.1.head
   unfold dX at hx
   have y0:=hx.cell 2;have y1:=hx.frozen 2
   (try dsimp only at y0 y1)
   have HLE:Hid (pre.length≤32):=zAA (by have:=hsp.i.le;simp at this;omega)
   have hx8:x.toNat<256:=UInt8.toNat_lt _
   have hwx:IntKind.u8.wrap (x.toNat:Int)=(x.toNat:Int):=by rw [IntKind.wrap_u8];omega
   clear hc hb hx hsp hp hx8
   gi_wp2_with (gi_at_builtin;refine kN jn rfl rfl 1 [.int .u8 (x.toNat:Int)] rfl HC.out rfl rfl (by intro u hu;simp at hu;subst hu;rfl) (by have:=HLE.out;omega) ⟨zAD _,HC.out.1.size⟩ (by simp [qy]) (by simp) ?_;intro v5 W5 hc5 hg5;obtain ⟨A5,c5,e5⟩:=bj hc5.2.2.head;dsimp only at e5;subst e5;have HC5:=zAA hc5;have HG5:=zAA hg5;have hy:=hc5.2.1.head;clear hc5 hg5;unfold dX at hy;have u0:=hy.cell 2;have u1:=hy.frozen 2;dsimp only at u0 u1;clear hy)
   have hln:(pre++[x]).length=pre.length+1:=by simp
   have hset:=aT HC5.out (g:=gh) HN.out.2.2.2.2.2 2 (.slice A5 (pre.length+1) c5) (gh,32,dX tm ty (.slice A2 pre.length c2)) (by simp [qy]) rfl (by simp)
   refine ⟨ak (ie (KeepsFrom.refl _ _) HG5.out (gw HC.out.2.2.head)) _ _,trivial,⟨⟨.slice A5 (pre.length+1) c5,trivial,?_⟩⟩,?_⟩
   ·rw [hln,zA0]
    have e1:gh+1≠gh:=by omega
    have e2:w.heap.size≠gh:=fun h=>HN.out.2.2.2.1 h.symm
    simpa [cZ,qy,dX,e2,af] using hset
   ·rw [hln]
    exact ((HB.out.grown HG5.out (bg HC.out.2.2.head HB.out (by simp))).far (p:=⟨gh,2,none⟩) (fun h=>HN.out.1 h.symm) _)
 case done=>
  rintro D xs W2 hD hS ⟨⟨⟨v,hp,hc⟩⟩,hb⟩ hK
  obtain ⟨A2,c2,hv2⟩:=bj hc.2.2.head
  dsimp only at hv2
  subst hv2
  obtain ⟨⟨q1,q2⟩,hq⟩:∃q,eR l p2 bad xs.length=q:=⟨_,rfl⟩
  rw [hq] at hb
  dsimp only at hb
  have hout:(q2≠0∧r=(⟨0,0,[]⟩,0,q2))∨(q2=0∧r=(⟨tm,ty,xs⟩,q1,0)):=by
   have hr:=HR.out
   unfold eo at hr
   rcases HRES.out with ⟨h11,rfl,_⟩|⟨h11,rfl,h⟩
   ·rw [if_pos h11] at hr
    unfold eR at hq
    rw [if_pos (by decide)] at hq
    obtain ⟨_,rfl⟩:=Prod.mk.inj hq
    exact .inl ⟨by decide,hr.symm⟩
   ·have e1:ty=(aF l (p+5) 6:Nat):=(Prod.mk.inj h).1
    have e2:p2=p+11:=(Prod.mk.inj (Prod.mk.inj h).2).1
    have e3:bad=0:=(Prod.mk.inj (Prod.mk.inj h).2).2
    rw [e3] at hS hq
    rw [if_neg h11,←e2,hS.fin,hq,←e1] at hr
    dsimp only at hr
    by_cases hz:q2=0
    ·subst hz
     rw [if_pos rfl,if_pos rfl] at hr
     exact .inr ⟨rfl,hr.symm⟩
    ·rw [if_neg hz] at hr
     exact .inl ⟨hz,hr.symm⟩
  have hq1:p≤q1∧q1≤8*n+10∨q2≠0:=by
   rcases hout with ⟨h,_⟩|⟨rfl,h⟩
   ·exact .inr h
   ·left
    unfold eR at hq
    have hxl:=hS.q.le
    have hl2:=HL.out
    have h9:p≤p2:=by
     rcases HRES.out with ⟨_,rfl,_⟩|⟨_,_,h⟩
     ·rw [if_pos (by decide)] at hq
      exact absurd (Prod.mk.inj hq).2 (by decide)
     ·have:p2=p+11:=(Prod.mk.inj (Prod.mk.inj h).2).1
      omega
    repeat' split at hq
    all_goals (have:=(Prod.mk.inj hq).1;omega)
  have HC:=zAA hc;have HK:=zAA hK;have HD:=zAA hD
  have HCU2:=zAA (show ab W2.drew g 163 (cU A n c q1 q2) from hb)
  have HCD:=zAA (show ay w (qy w.heap.size gh (gh+1) g tm ty (.slice A2 xs.length c2)) [⟨w.heap.size,5,1,.slice A2 xs.length c2,xs.length,xs.map af⟩] W2.drew from bM hc)
  have hxd:=hc.2.1
  unfold qy dX at hxd
  have f0:=hxd.tail.tail.head.frozen 0;have f1:=hxd.tail.tail.head.frozen 1;have f2:=hxd.tail.tail.head.frozen 2
  have y0:=hxd.tail.tail.head.cell 0;have y1:=hxd.tail.tail.head.cell 1;have y2:=hxd.tail.tail.head.cell 2
  have hcu0:=hb
  unfold cU at hcu0
  have z2:=hcu0.cell 2
  (try dsimp only at f0 f1 f2 y0 y1 y2 z2)
  have HOUT:=zAA hout
  have hKd:∀X:World,X.heap[D]? =some (.deferred (some []))→X.drew.heap[D]? =some (.deferred (some [])):=fun X h=>h
  have hDh:w.heap.size<D:=by have:=hD;have:=HB9.out;omega
  have hlast:∀(a b:Int) (u:Value),((((W2.setCell ⟨w.heap.size,0,none⟩ (.int .i64 a)).setCell ⟨w.heap.size,1,none⟩ (.int .i64 b)).setCell ⟨w.heap.size,2,none⟩ u).drew).heap[D]? =some (.deferred (some [])):=fun a b u=>by
   refine hKd _ ?_
   rw [Below.heap_setCell _ _ _ D (by show D≠w.heap.size;omega),Below.heap_setCell _ _ _ D (by show D≠w.heap.size;omega),Below.heap_setCell _ _ _ D (by show D≠w.heap.size;omega)]
   exact HK.out
  have HLA:=zAA hlast
  have hDw:w.heap.size≤D:=by omega
  have HDW:=zAA hDw
  clear hc hb hK hD hS hq hxd hcu0 hout hKd hDh hlast hDw
  by_cases hz:q2=0
  ·subst hz
   rcases HOUT.out with ⟨h,_⟩|⟨_,hrr⟩
   ·exact absurd rfl h
   subst hrr
   have hwq:zAE.wrap ((q1:Int) - (p:Int))=(q1:Int) - (p:Int):=by
    rcases hq1 with h|h
    ·rw [zAB];omega
    ·exact absurd rfl h
   clear hq1
   gi_wp2_with fail
   go_wp2_with fail
   have HSB:Hid (aa [(gh,32,dX tm ty (.slice A2 xs.length c2)),(g,163,cU A n c q1 0)] W2):=zAA (aa.cons HC.out.2.1.head (aa.cons HCU2.out (ag _)))
   have HSA:=zAA HSB.out.drew
   have HLF:Hid (∀q∈[(gh,32,dX tm ty (.slice A2 xs.length c2)),(g,163,cU A n c q1 0)],q.1≠w.heap.size):=zAA (by
    intro q hq
    simp only [zA4,zAX,or_false] at hq
    rcases hq with rfl|rfl
    ·exact HN.out.2.2.2.1
    ·exact Ne.symm HN.out.2.2.1)
   refine ai (fun w'=>aa [(gh,32,dX tm ty (.slice A2 xs.length c2)),(g,163,cU A n c q1 0)] w') 8 (.take 0 (.take 1 (.take 2 (.take 3 (.take 4 (.take 5 (.take 6 (.step 7 .done)))))))) (by kernel_rfl) (by kernel_rfl) (by simp only [aR.out,Array.getD_eq_getD_getElem?,zAJ,zAI,zAH,zAN];rfl) (by simp only [zAR,zAW];rfl) (HSA.out) (fun PE hPE=>?_)
   iterate 7
    refine ah (v:=?_) rfl (by rfl) ?_ ?_
    rotate_left
    ·intro _ hSw;(try dsimp only at hSw);have a:=hSw.head;have b:=hSw.tail.head;unfold dX at a;unfold cU at b;have a0:=a.cell 0;have a1:=a.cell 1;have a2:=a.cell 2;have b1:=b.cell 1;(try dsimp only at a0 a1 a2 b1);go_simp;(try with_reducible rfl)
    simp only [zAC,zAG,zAF]
   refine bG _ (w':=?_) rfl (by rfl) ?_ ?_ ?_
   rotate_left 1
   ·go_simp;(first|(with_reducible rfl)|(constructor<;>with_reducible rfl)|skip)
   ·exact aa.drew (Ff HSB.out HLF.out _ _ _)
   refine hPE _ _ ?_
   clear hPE PE
   simp only [zAK,zAP]
   go_wp2_with fail
   refine ⟨rfl,?_⟩
   go_wp2_with fail
   have hcf:=ia (o':= .deferred none) (bM (Ee tm ty (.slice A2 xs.length c2) HC.out HN.out.2.2.2.1 (by simp))) (HLA.out tm ty (.slice A2 xs.length c2)) rfl HDW.out
   refine ef (HLA.out tm ty (.slice A2 xs.length c2)) (xP w.heap.size tm ty (.slice A2 xs.length c2) ((q1:Int) - (p:Int)) 0 _ _ hcf.2.1.head rfl rfl rfl) ⟨.slice A2 xs.length c2,?_,hcf.1,hcf.2.2.head⟩
   unfold jO
   rw [if_pos rfl]
  ·rcases HOUT.out with ⟨_,hrr⟩|⟨h,_⟩
   ·skip
    subst hrr
    have hne:(q2 !=0)=true:=by simpa using hz
    clear hq1
    gi_wp2_with fail
    go_wp2_with fail
    have HSB:Hid (aa [(gh,32,dX tm ty (.slice A2 xs.length c2)),(g,163,cU A n c q1 q2)] W2):=zAA (aa.cons HC.out.2.1.head (aa.cons HCU2.out (ag _)))
    have HSA:=zAA HSB.out.drew
    have HLF:Hid (∀q∈[(gh,32,dX tm ty (.slice A2 xs.length c2)),(g,163,cU A n c q1 q2)],q.1≠w.heap.size):=zAA (by
     intro q hq
     simp only [zA4,zAX,or_false] at hq
     rcases hq with rfl|rfl
     ·exact HN.out.2.2.2.1
     ·exact Ne.symm HN.out.2.2.1)
    refine ai (fun w'=>aa [(gh,32,dX tm ty (.slice A2 xs.length c2)),(g,163,cU A n c q1 q2)] w') 7 (.take 0 (.take 1 (.take 2 (.take 3 (.take 4 (.step 5 (.step 6 .done))))))) (by kernel_rfl) (by kernel_rfl) (by simp only [aR.out,Array.getD_eq_getD_getElem?,zAJ,zAI,zAH,zAN];rfl) (by simp only [zAR,zAW];rfl) (HSA.out) (fun PE hPE=>?_)
    iterate 5
     refine ah (v:=?_) rfl (by rfl) ?_ ?_
     rotate_left
     ·intro _ hSw;(try dsimp only at hSw);have b:=hSw.tail.head;unfold cU at b;have b2:=b.cell 2;(try dsimp only at b2);go_simp;(try with_reducible rfl)
     simp only [zAC,zAG,zAF]
    refine bG _ (w':=?_) rfl (by rfl) ?_ ?_ ?_
    rotate_left 1
    ·go_simp;(first|(with_reducible rfl)|(constructor<;>with_reducible rfl)|skip)
    ·exact aa.drew (Ff HSB.out HLF.out _ _ _)
    refine aw (v:=?_) (w':=?_) rfl (by rfl) ?_ ?_ ?_
    rotate_left 2
    ·go_simp;(try (constructor<;>with_reducible rfl))
    ·exact aa.drew (Ff HSB.out HLF.out _ _ _)
    simp only [zAC,zAG,zAF]
    refine hPE _ _ ?_
    clear hPE PE
    simp only [zAK,zAP]
    go_wp2_with fail
    refine ⟨rfl,?_⟩
    go_wp2_with fail
    have hcf:=ia (o':= .deferred none) (bM (Ee 0 0 (.slice none 0 0) HC.out HN.out.2.2.2.1 (by simp))) (HLA.out 0 0 (.slice none 0 0)) rfl HDW.out
    refine ef (HLA.out 0 0 (.slice none 0 0)) (xP w.heap.size 0 0 (.slice none 0 0) 0 q2 _ _ hcf.2.1.head rfl rfl rfl) ⟨.slice none 0 0,?_,hcf.1,zA9 _ _ _ _⟩
    unfold jO
    rw [if_neg hz]
   ·exact absurd h hz
theorem sG (tm ty:Int) (A:Option Addr) (n c:Nat) (w:World):Calls Tryz.prog 37 #[.agg #[.int .i64 tm,.int .i64 ty,.slice A n c]] w fun e w'=>e= .returned (.int .i64 (fg ty))∧Below w.heap.size w w':=by
 have HB:=zAA ((Below.refl _ w).alloc (zAD _) (.cells #[.int .i64 tm,.int .i64 ty,.slice A n c] 32))
 unfold fg
 go_enter Tryz.func37,Tryz.ntmps37
 go_wp2_with fail
 go_ret
 exact ⟨rfl,HB.out⟩
def wX (tm ty:Int) (n:Nat):Bool:=decide (0≤tm)&&decide (tm≤31)&&decide (0≤ty)&&decide (ty≤63)&&decide (n≤32)
set_option maxRecDepth 100000 in
theorem uO (tm ty:Int) (A:Option Addr) (n c:Nat) (w:World):Calls Tryz.prog 36 #[.agg #[.int .i64 tm,.int .i64 ty,.slice A n c]] w fun e w'=>e= .returned (.int .i64 (if wX tm ty n then 0 else 2))∧Below w.heap.size w w':=by
 have HB:=zAA ((Below.refl _ w).alloc (zAD _) (.cells #[.int .i64 tm,.int .i64 ty,.slice A n c] 32))
 have he:wX tm ty n=(!decide (tm<0)&& !decide (31<tm)&& !decide (ty<0)&& !decide (63<ty)&& !decide ((32:Int)<(n:Int))):=by
  unfold wX
  rw [Bool.eq_iff_iff]
  simp
  omega
 rw [he]
 clear he
 cases k1:decide (tm<0) with
 |true=>
  go_enter Tryz.func36,Tryz.ntmps36
  go_wp2_with fail
  go_ret
  exact ⟨rfl,HB.out⟩
 |false=>
  cases k2:decide (31<tm) with
  |true=>
   go_enter Tryz.func36,Tryz.ntmps36
   go_wp2_with fail
   go_ret
   exact ⟨rfl,HB.out⟩
  |false=>
   cases k3:decide (ty<0) with
   |true=>
    go_enter Tryz.func36,Tryz.ntmps36
    go_wp2_with fail
    go_ret
    exact ⟨rfl,HB.out⟩
   |false=>
    cases k4:decide (63<ty) with
    |true=>
     go_enter Tryz.func36,Tryz.ntmps36
     go_wp2_with fail
     go_ret
     exact ⟨rfl,HB.out⟩
    |false=>
     cases k5:decide ((32:Int)<(n:Int)) with
     |true=>
      go_enter Tryz.func36,Tryz.ntmps36
      go_wp2_with fail
      go_ret
      exact ⟨rfl,HB.out⟩
     |false=>
      go_enter Tryz.func36,Tryz.ntmps36
      go_wp2_with fail
      go_ret
      exact ⟨rfl,HB.out⟩
set_option maxRecDepth 100000 in
set_option maxHeartbeats 4000000 in
theorem oz (n b:Nat) (hn:n<2 ^ 32) (hb:b≤32) (w:World):
  Calls Tryz.prog 103 #[.int .i64 (n:Int),.int .i64 (b:Int)] w fun e w'=>e= .returned (.string (bs (ax n b)))∧Below w.heap.size w w':=by
 have HN:=zAA hn
 have k7:zAE.wrap ((b:Int) - 1)=(b:Int) - 1:=by rw [zAB];omega
 clear hn
 go_enter Tryz.func103,Tryz.ntmps103
 go_wp2_with fail
 go_loopg [6] b (fun gk i=>fun wr=>∃(j:Nat),j+gk=b∧i= .int .i64 ((gk:Int) - 1)∧Hid (Lib.IsBuilder 174 5 w.heap.size w.heap.size (((ax n b).take j).map af) wr)∧Hid (Below w.heap.size w wr))
 case atStart=>exact ⟨0,by omega,rfl,zAA (by rw [zAd];exact qj w),zAA ((Below.refl _ _).alloc (zAD _) _)⟩
 case round=>
  obtain ⟨j,hj,rfl,HB,HBl⟩:=hrel
  cases gk with
  |zero=>
   have hjb:j=b:=by omega
   have htk:(ax n b).take j=ax n b:=zA2 (by rw [aJ];omega)
   rw [htk] at HB
   have FIN:Hid (Calls Tryz.prog 153 #[.pointer (some ⟨w.heap.size,0,none⟩)] wr fun e w'=>e= .returned (.string (bs (ax n b)))∧Below w.heap.size wr w'):=zAA (Tryz.Builder_String_any _ _ (ax n b) wr HB.out HBl.out.size)
   clear hj hjb htk
   go_wp2_with (go_at_call 153;refine FIN.out.mono ?_;rintro e w' ⟨rfl,hb1⟩;have HB1:=zAA hb1;clear hb1)
   go_ret
   exact ⟨rfl,HBl.out.trans HB1.out⟩
  |succ g=>
   have hg1:((g+1:Nat):Int) - 1=(g:Int):=by omega
   have hg0:(0:Int)≤(g:Int):=by omega
   have hg64:(g:Int)≤64:=by omega
   have hgn:(g:Int).toNat=g:=by omega
   have hgg:¬((g:Int)<0):=by omega
   obtain ⟨q,hq⟩:∃q,n / 2 ^ g=q:=⟨_,rfl⟩
   have hqi:((n:Int) / 2 ^ g)=(q:Int):=by rw [←hq];exact_mod_cast rfl
   have hq62:q<2 ^ 62:=by
    have h1:q≤n:=by rw [←hq];exact Nat.div_le_self _ _
    have h3:=HN.out
    have h4:(2:Nat) ^ 32<2 ^ 62:=by decide
    omega
   have hand:=wZ q hq62
   obtain ⟨x,hx⟩:∃x,q % 2=x:=⟨_,rfl⟩
   rw [hx] at hand
   have hx2:x=0∨x=1:=by omega
   have hgb:b - 1 - j=g:=by omega
   have HL:Hid ((((ax n b).take j).map af).length+1≤140737488355328):=zAA (by rw [List.length_map,zAa,aJ];omega)
   have HT:Hid ((ax n b).take j++[if x=0 then (48:UInt8) else 49]=(ax n b).take (j+1)):=zAA (by
    rw [un n b j (by omega),hgb,hq,hx])
   have hwg:zAE.wrap ((g:Int) - 1)=(g:Int) - 1:=by rw [zAB];omega
   have HJJ:=zAA hj
   rw [hg1]
   clear hj hq hx hq62 hgb hg1
   rcases hx2 with rfl|rfl
   ·simp only [Int.natCast_zero] at hand
    go_wp2_with (go_at_call 152;refine (ku w.heap.size w.heap.size _ 48 wr HB.out HL.out HBl.out.size).mono ?_;rintro e w1 ⟨rfl,hB1,hb1⟩;have HB1:=zAA hB1;have Hb1:=zAA hb1;clear hB1 hb1)
    go_roundg g
    case measure=>omega
    case rel=>
     refine ⟨j+1,by have:=HJJ.out;omega,rfl,zAA ?_,zAA (HBl.out.trans Hb1.out)⟩
     rw [←HT.out,zA0]
     exact HB1.out
   ·simp only [zAQ] at hand
    go_wp2_with (go_at_call 152;refine (ku w.heap.size w.heap.size _ 49 wr HB.out HL.out HBl.out.size).mono ?_;rintro e w1 ⟨rfl,hB1,hb1⟩;have HB1:=zAA hB1;have Hb1:=zAA hb1;clear hB1 hb1)
    go_roundg g
    case measure=>omega
    case rel=>
     refine ⟨j+1,by have:=HJJ.out;omega,rfl,zAA ?_,zAA (HBl.out.trans Hb1.out)⟩
     rw [←HT.out,zA0]
     exact HB1.out
set_option maxRecDepth 100000 in
set_option maxHeartbeats 4000000 in
theorem Hy (tm ty:Int) (sp:List UInt8) (A:Option Addr) (n c:Nat) (w:World) (hA:Sl w A (sp.map af)) (hn:sp.length=n) (hok:wX tm ty n=true):
  Calls Tryz.prog 60 #[.agg #[.int .i64 tm,.int .i64 ty,.slice A n c]] w fun e w'=>e= .returned (.tuple #[.string (bs (jE ⟨tm,ty,sp⟩)),.int .i64 0])∧Below w.heap.size w w':=by
 have HN:=zAA hn
 have hba:Below w.heap.size w (w.alloc (.cells #[.int .i64 tm,.int .i64 ty,.slice A n c] 32)):=(Below.refl _ _).alloc (zAD _) _
 have HB0:=zAA hba
 have HA0:=zAA (hA.below hba)
 have hc0:ab (w.alloc (.cells #[.int .i64 tm,.int .i64 ty,.slice A n c] 32)) w.heap.size 32 #[.int .i64 tm,.int .i64 ty,.slice A n c]:=ab.new _ _ _
 have HC0:=zAA hc0
 have CK:=zAA (fun W=>uO tm ty A n c W)
 rw [hok] at CK
 simp only [wX,Bool.and_eq_true,decide_eq_true_eq] at hok
 obtain ⟨⟨⟨⟨h1,h2⟩,h3⟩,h4⟩,h5⟩:=hok
 obtain ⟨a,rfl⟩:=zAY h1
 obtain ⟨b,rfl⟩:=zAY h3
 have D1:=zAA (fun W=>oz a 5 (by omega) (by decide) W)
 have D2:=zAA (fun W=>oz b 6 (by omega) (by decide) W)
 simp only [zAQ] at D1 D2
 unfold jE
 dsimp only
 rw [zA7,zA7]
 have l1:=aJ a 5;have l2:=aJ b 6
 generalize ax a 5=L1 at*
 generalize ax b 6=L2 at*
 obtain ⟨hh,hhh⟩:∃hh,w.heap.size=hh:=⟨_,rfl⟩
 have HHH:=zAA hhh
 rw [hhh] at hc0
 have y0:=hc0.cell 0;have y1:=hc0.cell 1;have y2:=hc0.cell 2
 (try dsimp only at y0 y1 y2)
 have he:bs []={data:= #[]}:=rfl
 clear hba hA hc0 h1 h2 h3 h4
 go_enter Tryz.func60,Tryz.ntmps60
 go_wp2_with (go_at_call 36;refine (CK.out _).mono ?_;rintro e w1 ⟨rfl,hb1⟩;have HB1:=zAA hb1;clear hb1)
 have hc1:ab w1 hh 32 #[.int .i64 (a:Int),.int .i64 (b:Int),.slice A n c]:=by rw [←hhh];exact HC0.out.below HB1.out HC0.out.lt
 have HC1:=zAA (show ab w1.drew hh 32 #[.int .i64 (a:Int),.int .i64 (b:Int),.slice A n c] from hc1)
 have HX1:=zAA (HB0.out.trans (HB1.out.mono HB0.out.size));have HA1:=zAA (HA0.out.below HB1.out)
 clear hc1 HC0 HB1 HB0 HA0 CK y0 y1 y2
 refine ai (fun w'=>ab w' hh 32 #[.int .i64 (a:Int),.int .i64 (b:Int),.slice A n c]) 5 (.take 0 (.take 1 (.take 3 (.take 4 (.step 2 .done))))) (by kernel_rfl) (by kernel_rfl) (by simp only [aR.out,Array.getD_eq_getD_getElem?,zAJ,zAI,zAH,zAN];rfl) (by simp only [zAR,zAW];rfl) (HC1.out) (fun PE hPE=>?_)
 iterate 4
  refine ah (v:=?_) rfl (by rfl) ?_ ?_
  rotate_left
  ·intro _ hSw;(try dsimp only at hSw);have c:=hSw;have a0:=c.cell 0;have a1:=c.cell 1;(try dsimp only at a0 a1);go_simp;(try with_reducible rfl)
  simp only [zAC,zAG,zAF]
 refine aV (f:=103) rfl (by rfl) (by first|(go_simp;done)|(go_simp;rfl)) (D1.out _) ?_
 rintro e w2 ⟨rfl,hb2⟩
 have HC2:=zAA (HC1.out.below hb2 HC1.out.lt);have HX2:=zAA (HX1.out.drew.trans (hb2.mono HX1.out.size));have HA2:=zAA (HA1.out.below ((Below.refl _ _).drew.trans hb2))
 refine ⟨_,rfl,_,fun _ h=>h,HC2.out,?_⟩
 simp only [zAC,zAG,zAF]
 refine hPE _ _ ?_
 clear hPE PE
 simp only [zAK,zAP]
 clear hb2 HC1 HX1 HA1
 go_wp2_with fail
 refine (D2.out _).mono ?_
 rintro e w3 ⟨rfl,hb3⟩
 have HC3:=zAA (HC2.out.below hb3 HC2.out.lt);have HX3:=zAA (HX2.out.trans (hb3.mono HX2.out.size));have HA3:=zAA (HA2.out.below hb3)
 have hc3:=HC3.out
 have y2:=hc3.cell 2
 (try dsimp only at y2)
 clear hb3 HC2 HX2 HA2 hc3
 go_wp2_with fail
 refine ⟨rfl,?_⟩
 go_wp2_with fail
 go_loopg [5,23] n (fun gk t i=>fun wr=>∃(j:Nat),j+gk=n∧i= .int .i64 (j:Int)∧t= .string (bs ((L1++L2)++(sp.take j).flatMap fun b=>49::ax b.toNat 8))∧Hid (Below w.heap.size w wr)∧Hid (Sl wr A (sp.map af)))
 case atStart=>exact ⟨0,by omega,rfl,by rw [zAd,List.flatMap_nil,List.append_nil],HX3,HA3⟩
 case round=>
  obtain ⟨j,hj,rfl,rfl,HXr,HAr⟩:=hrel
  have hlen:(L1++L2++(sp.take j).flatMap fun b=>49::ax b.toNat 8).length≤10000:=by rw [zAL,zAL,yc,zAa];have:=HN.out;omega
  cases gk with
  |zero=>
   have hjb:j=n:=by omega
   have hlt:¬((j:Int)<(n:Int)):=by omega
   have HR:Hid ((L1++L2++(sp.take j).flatMap fun b=>49::ax b.toNat 8)++[48]=L1++(L2++dw sp)):=zAA (by rw [hjb,zA2 (by rw [HN.out];exact zAD _)];unfold dw;simp only [zA8])
   generalize (L1++L2++(sp.take j).flatMap fun b=>49::ax b.toNat 8)=L at HR hlen⊢
   clear hj hjb
   go_wp2_with fail
   go_ret2
   exact ⟨by rw [←HR.out];rfl,by have h:=HXr.out;rw [HHH.out] at h;exact h⟩
  |succ g=>
   have hlt:((j:Int)<(n:Int)):=by omega
   have hj0:¬((j:Int)<0):=by omega
   have hjb:j<sp.length:=by rw [HN.out];omega
   obtain ⟨b8,hb⟩:∃b,sp[j]=b:=⟨_,rfl⟩
   obtain ⟨ad,rfl,_,hc⟩:=HAr.out.byte j hjb
   rw [hb] at hc
   have hb256:b8.toNat<256:=UInt8.toNat_lt _
   have hw1:zAE.wrap ((j:Int)+1)=(j:Int)+1:=by rw [zAB];omega
   have hwb:zAE.wrap (b8.toNat:Int)=(b8.toNat:Int):=by rw [zAB];omega
   have HR:Hid ((L1++L2++(sp.take j).flatMap fun b=>49::ax b.toNat 8)++([49]++ax b8.toNat 8)=L1++L2++(sp.take (j+1)).flatMap fun b=>49::ax b.toNat 8):=zAA (by rw [va sp j hjb,hb];simp only [zA8];rfl)
   generalize (L1++L2++(sp.take j).flatMap fun b=>49::ax b.toNat 8)=L at HR hlen⊢
   have C1:=zAA (fun W=>oz b8.toNat 8 (by omega) (by decide) W)
   simp only [zAQ] at C1
   have HJJ:=zAA hj
   have l8:=aJ b8.toNat 8
   generalize ax b8.toNat 8=L3 at*
   generalize b8.toNat=bn at*
   clear hj hjb hb hb256
   go_wp2_with fail
   refine (C1.out _).mono ?_
   rintro e w4 ⟨rfl,hb4⟩
   have HX4:=zAA (HXr.out.trans (hb4.mono HXr.out.size));have HA4:=zAA (HAr.out.below hb4)
   clear hb4
   go_wp2_with fail
   go_roundg g
   case measure=>omega
   case rel=>exact ⟨j+1,by have:=HJJ.out;omega,rfl,by rw [←HR.out];rfl,HX4,HA4⟩
end Go.Proofs.YthhijgcfbjcgiaaGreatDoor
