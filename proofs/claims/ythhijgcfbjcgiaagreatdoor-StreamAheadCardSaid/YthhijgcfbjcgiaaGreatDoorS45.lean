/- Huge21 -/
import Derived.Test.YthhijgcfbjcgiaaGreatDoorS18
namespace Go.Proofs.YthhijgcfbjcgiaaGreatDoor
open Go Go.RowKit
attribute [local go_sem] Oper.semAt_some
open Go.Lib renaming hid→zAA
open Nat renaming lt_or_ge→zAB
open List renaming any_eq_false→zAC
def o9 (p:dF):Bool:=decide (70<p.1.l.length)
def ld (xs:List dF):Bool:=(xs.take 9).any o9||decide (8<xs.length)
theorem Fy {xs:List dF} (h:ld xs=false):xs.length≤8∧∀p∈xs,p.1.l.length≤70:=by
 unfold ld at h
 rw [Bool.or_eq_false_iff,decide_eq_false_iff_not] at h
 refine ⟨by omega,fun p hp=>?_⟩
 rw [List.take_of_length_le (by omega)] at h
 have:=zAC.1 h.1 p hp
 unfold o9 at this
 simpa using this
theorem Fw {xs:List dF} {j:Nat} (hj:j<xs.length) (h9:j<9) (h:o9 xs[j]=true):ld xs=true:=by
 unfold ld
 rw [Bool.or_eq_true]
 left
 rw [List.any_eq_true]
 exact ⟨xs[j],List.mem_of_getElem? (i:=j) (by rw [List.getElem?_take_of_lt h9,List.getElem?_eq_getElem hj]),h⟩
theorem Fx {xs:List dF} {j:Nat} (hj:j=9∨j=xs.length) (h:∀k (hk:k<xs.length),k<j→o9 xs[k]=false):ld xs=decide (8<xs.length):=by
 unfold ld
 have:(xs.take 9).any o9=false:=by
  rw [zAC]
  intro p hp
  obtain ⟨k,hk,rfl⟩:=List.getElem_of_mem hp
  rw [List.length_take] at hk
  rw [List.getElem_take,h k (by omega) (by omega)]
  decide
 rw [this,Bool.false_or]
set_option maxRecDepth 100000 in
set_option maxHeartbeats 4000000 in
theorem Ca (m:aU) (xs:List dF) (A:Option Addr) (c:Nat) (w:World) (hA:Sl w A (av gX xs)):
  Calls Tryz.prog 29 #[fx m A xs.length c] w fun e w'=>e= .returned (.bool (ld xs))∧Below w.heap.size w w':=by
 have HA:=zAA hA
 obtain ⟨RES,hres⟩:∃RES,ld xs=RES:=⟨_,rfl⟩
 rw [hres]
 have HRES:=zAA hres
 obtain ⟨n,hn⟩:∃n,xs.length=n:=⟨_,rfl⟩
 rw [hn]
 have HN:=zAA hn
 unfold fx
 have hb0:Below w.heap.size w (w.alloc (.cells #[.int .i64 m.ad,.int .i64 m.kd,.int .i64 m.qu,.int .i64 m.x,.int .i64 m.y,.int .i64 m.pa,.slice A n c] 55)):=(Below.refl _ w).alloc (Nat.le_refl _) _
 have hc1:=ab.new w 55 #[.int .i64 m.ad,.int .i64 m.kd,.int .i64 m.qu,.int .i64 m.x,.int .i64 m.y,.int .i64 m.pa,.slice A n c]
 have HB0:=zAA hb0;have HC1:=zAA hc1
 clear hA hres hn hb0 hc1
 go_enter Tryz.func29,Tryz.ntmps29
 go_wp2_with fail
 generalize w.alloc (.cells #[.int .i64 m.ad,.int .i64 m.kd,.int .i64 m.qu,.int .i64 m.x,.int .i64 m.y,.int .i64 m.pa,.slice A n c] 55)=W1 at HB0 HC1⊢
 obtain ⟨g1,hg1⟩:∃g1,w.heap.size=g1:=⟨_,rfl⟩
 rw [hg1] at HC1⊢
 have HA1:=zAA (HA.out.below HB0.out)
 have HG:=zAA hg1
 clear hg1 HA
 have z6:=HC1.out.cell 6
 (try dsimp only at z6)
 go_loopg [3] 9 (fun gk i=>fun wr=>∃(j:Nat),j+gk=9∧j≤n∧i= .int .i64 (j:Int)∧Hid (∀k (hk:k<xs.length),k<j→o9 xs[k]=false)∧wr=W1)
 case atStart=>exact ⟨0,by omega,by omega,rfl,zAA (fun k hk h=>by omega),rfl⟩
 case round=>
  obtain ⟨j,hj,hjn,rfl,HJ,rfl⟩:=hrel
  have fin:Hid (j=9∨j=n→RES=decide (8<n)):=zAA fun h=>by
   rw [←HRES.out,Fx (by rw [HN.out];exact h) HJ.out,HN.out]
  cases gk with
  |zero=>
   have h9:j=9:=by omega
   have hr:=fin.out (.inl h9)
   have hlt2:¬((j:Int)<9):=by omega
   have hgt:((8:Int)<(n:Int)):=by omega
   have hrt:RES=true:=by rw [hr];simp;omega
   subst hrt
   clear hj hr fin
   rcases zAB j n with hlt0|hge
   ·have hlt:((j:Int)<(n:Int)):=by omega
    go_wp2_with fail
    go_ret
    exact ⟨rfl,HB0.out⟩
   ·have hlt:¬((j:Int)<(n:Int)):=by omega
    go_wp2_with fail
    go_ret
    exact ⟨rfl,HB0.out⟩
  |succ g=>
   have hlt2:((j:Int)<9):=by omega
   rcases zAB j n with hlt0|hge
   ·have hlt:((j:Int)<(n:Int)):=by omega
    have hltz:¬((j:Int)<0):=by omega
    have hjl:j<xs.length:=by rw [HN.out];exact hlt0
    obtain ⟨a,rfl,ha1,ha2,c1⟩:=oI HA1.out j hjl
    have hw1:IntKind.i64.wrap ((j:Int)+1)=(j:Int)+1:=by rw [IntKind.wrap_i64];omega
    have hbig:o9 xs[j]=decide (70<xs[j].1.l.length):=rfl
    have HBIG:=zAA (fun h=>Fw hjl (by omega) h)
    obtain ⟨lj,hlj⟩:∃lj,xs[j].1.l.length=lj:=⟨_,rfl⟩
    rw [hlj] at c1 hbig
    have HBB:=zAA hbig
    have HJJ:=zAA hj
    have HJN:=zAA hlt0
    rcases zAB 70 lj with h70|h70
    ·have h71:((70:Int)<(lj:Int)):=by omega
     have hr:RES=true:=by rw [←HRES.out];exact HBIG.out (by rw [HBB.out];simpa using h70)
     subst hr
     clear ha1 ha2 hj hlt0 hlj hbig h70 fin
     go_wp2_with fail
     go_ret
     exact ⟨rfl,HB0.out⟩
    ·have h71:¬((70:Int)<(lj:Int)):=by omega
     have HNO:Hid (o9 xs[j]=false):=zAA (by rw [HBB.out];simpa using h70)
     clear hj hlt0 hlj hbig h70 fin
     go_wp2_with fail
     go_roundg g
     case measure=>omega
     case rel=>
      refine ⟨j+1,by have:=HJJ.out;omega,by have:=HJN.out;omega,rfl,zAA fun k hk h=>?_,rfl⟩
      rcases zAB k j with h1|h1
      ·exact HJ.out k hk h1
      ·obtain rfl:k=j:=by omega
       exact HNO.out
   ·have hjn2:j=n:=by omega
    have hr:=fin.out (.inr hjn2)
    have hlt:¬((j:Int)<(n:Int)):=by omega
    have hgt:¬((8:Int)<(n:Int)):=by omega
    have hrt:RES=false:=by rw [hr];simp;omega
    subst hrt
    clear hj hr fin
    go_wp2_with fail
    go_ret
    exact ⟨rfl,HB0.out⟩
end Go.Proofs.YthhijgcfbjcgiaaGreatDoor
