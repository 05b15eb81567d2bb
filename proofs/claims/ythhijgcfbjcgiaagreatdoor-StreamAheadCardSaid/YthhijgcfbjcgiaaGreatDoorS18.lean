/- Mac1, MBk, ShoW, Same, SameM -/
import Derived.Test.YthhijgcfbjcgiaaGreatDoorS17
import Derived.Test.YthhijgcfbjcgiaaGreatDoorS16
import Derived.Test.YthhijgcfbjcgiaaGreatDoorS02
import Derived.Test.YthhijgcfbjcgiaaGreatDoorS03
namespace Go.Proofs.YthhijgcfbjcgiaaGreatDoor
open Go Go.RowKit
open Go.Lib renaming hid→zAA
open Nat renaming le_refl→zAB,le_trans→zAI
open Bool renaming false_and→zAC,and_false→zAD,true_and→zAF
open List renaming setIfInBounds_toArray→zAE,set_cons_succ→zAG,set_cons_zero→zAH
def eS (x:bD):Value:= .agg #[.int .i64 x.ad,.bool x.had,.int .i64 x.x,.int .i64 x.y]
def fx (m:aU) (A:Option Addr) (n c:Nat):Value:= .agg #[.int .i64 m.ad,.int .i64 m.kd,.int .i64 m.qu,.int .i64 m.x,.int .i64 m.y,.int .i64 m.pa,.slice A n c]
theorem eu (n:Int) (w:World):Calls Tryz.prog 126 #[.int .i64 n] w fun e w'=>e= .returned (.bool (aH n))∧w=w':=by
 by_cases a: -15≤n
 ·have a1:decide (-15≤n)=true:=decide_eq_true a
  by_cases b:n≤15
  ·have b1:decide (n≤15)=true:=decide_eq_true b
   have hv:aH n=true:=by simp [aH,a,b]
   rw [hv];clear hv
   go_enter Tryz.func126,Tryz.ntmps126
   go_wp2
   go_ret
   exact ⟨rfl,rfl⟩
  ·have b1:decide (n≤15)=false:=decide_eq_false b
   have hv:aH n=false:=by simp [aH];omega
   rw [hv];clear hv
   go_enter Tryz.func126,Tryz.ntmps126
   go_wp2
   go_ret
   exact ⟨rfl,rfl⟩
 ·have a1:decide (-15≤n)=false:=decide_eq_false a
  have hv:aH n=false:=by simp [aH];omega
  rw [hv];clear hv
  go_enter Tryz.func126,Tryz.ntmps126
  go_wp2
  go_ret
  exact ⟨rfl,rfl⟩
set_option maxHeartbeats 2000000 in
theorem qN (x:bD) (ad:Int) (w:World):Calls Tryz.prog 105 #[eS x,.int .i64 ad] w fun e w'=>e= .returned (.bool (dm x ad))∧Below w.heap.size w w':=by
 obtain ⟨a,had,p,q⟩:=x
 unfold dm eS
 dsimp only
 cases d1:decide (0≤a) with
 |false=>
  simp only [zAC]
  go_enter Tryz.func105,Tryz.ntmps105
  go_wp2_with (go_at_call 126;refine (eu _ _).mono ?_;rintro e w' ⟨rfl,rfl⟩)
  go_ret
  exact ⟨rfl,(Below.refl _ _).alloc (zAB _) _⟩
 |true=>
  cases d2:decide (a<ad) with
  |false=>
   simp only [zAC,zAD]
   go_enter Tryz.func105,Tryz.ntmps105
   go_wp2_with (go_at_call 126;refine (eu _ _).mono ?_;rintro e w' ⟨rfl,rfl⟩)
   go_ret
   exact ⟨rfl,(Below.refl _ _).alloc (zAB _) _⟩
  |true=>
   cases d3:aH p with
   |false=>
    simp only [zAC,zAD,zAF]
    go_enter Tryz.func105,Tryz.ntmps105
    go_wp2_with (go_at_call 126;refine (eu _ _).mono ?_;rintro e w' ⟨rfl,rfl⟩)
    go_ret
    exact ⟨rfl,(Below.refl _ _).alloc (zAB _) _⟩
   |true=>
    cases d4:aH q with
    |false=>
     simp only [zAC,zAD,zAF]
     go_enter Tryz.func105,Tryz.ntmps105
     go_wp2_with (go_at_call 126;refine (eu _ _).mono ?_;rintro e w' ⟨rfl,rfl⟩)
     go_ret
     exact ⟨rfl,(Below.refl _ _).alloc (zAB _) _⟩
    |true=>
     simp only [zAF]
     cases had with
     |true=>
      simp only [Bool.true_or]
      go_enter Tryz.func105,Tryz.ntmps105
      go_wp2_with (go_at_call 126;refine (eu _ _).mono ?_;rintro e w' ⟨rfl,rfl⟩)
      go_ret
      exact ⟨rfl,(Below.refl _ _).alloc (zAB _) _⟩
     |false=>
      simp only [Bool.false_or]
      cases d6:(p==0) with
      |false=>
       simp only [zAC]
       go_enter Tryz.func105,Tryz.ntmps105
       go_wp2_with (go_at_call 126;refine (eu _ _).mono ?_;rintro e w' ⟨rfl,rfl⟩)
       go_ret
       exact ⟨rfl,(Below.refl _ _).alloc (zAB _) _⟩
      |true=>
       cases d7:(q==0) with
       |false=>
        simp only [zAD]
        go_enter Tryz.func105,Tryz.ntmps105
        go_wp2_with (go_at_call 126;refine (eu _ _).mono ?_;rintro e w' ⟨rfl,rfl⟩)
        go_ret
        exact ⟨rfl,(Below.refl _ _).alloc (zAB _) _⟩
       |true=>
        simp only [Bool.and_self]
        go_enter Tryz.func105,Tryz.ntmps105
        go_wp2_with (go_at_call 126;refine (eu _ _).mono ?_;rintro e w' ⟨rfl,rfl⟩)
        go_ret
        exact ⟨rfl,(Below.refl _ _).alloc (zAB _) _⟩
theorem mJ (x:bD) (ad:Int) (w:World) (h:0≤x.ad) (h2:x.ad<ad) (h3:ad≤100):Calls Tryz.prog 108 #[eS x,.int .i64 ad] w fun e w'=>e= .returned (.tuple #[.int .i64 (dy ad (ad - x.ad) x.had x.x x.y).1,.int .i64 (dy ad (ad - x.ad) x.had x.x x.y).2])∧Below w.heap.size w w':=by
 obtain ⟨a,had,p,q⟩:=x
 unfold eS
 dsimp only at h h2⊢
 go_enter Tryz.func108,Tryz.ntmps108
 go_wp2_with (go_at_call 159;refine (tQ _ _ _ _ _ _).mono ?_;rintro e w' ⟨rfl,rfl⟩)
 go_ret2
 exact ⟨rfl,(Below.refl _ _).alloc (zAB _) _⟩
theorem qO (fr to:Int) (w:World) (h1:aH fr=true) (h2:aH to=true):Calls Tryz.prog 110 #[.int .i64 fr,.int .i64 to] w fun e w'=>e= .returned (.string (bs (fy fr to)))∧w=w':=by
 have C1:=zAA (fun W=>zZ fr to W h1 h2)
 have hd:=m8 fr to
 have C2:=zAA (fun W=>CX (el fr to) W hd.1 hd.2)
 unfold fy
 clear h1 h2 hd
 go_enter Tryz.func110,Tryz.ntmps110
 go_wp2_with (first
  |(go_at_call 161;refine (C1.out _).mono ?_;rintro e w' ⟨rfl,rfl⟩)
  |(go_at_call 162;refine (C2.out _).mono ?_;rintro e w' ⟨rfl,rfl⟩))
 go_ret
 exact ⟨rfl,rfl⟩
theorem JI (k:Int):∃a b d e,kP k=[.bool a,.bool b,.bool (pV k),.bool d,.bool e]:=by
 unfold kP
 split
 ·exact ⟨pI k,pQ k,pF k,pC k,rfl⟩
 ·rename_i h
  have:pV k=false:=by
   cases hv:pV k with
   |false=>rfl
   |true=>
    simp [pV,gY] at hv h
    omega
  rw [this];exact ⟨false,false,false,false,rfl⟩
set_option maxRecDepth 100000 in
set_option maxHeartbeats 2000000 in
theorem qL (m:aU) (A:Option Addr) (n c:Nat) (w:World):Calls Tryz.prog 64 #[fx m A n c] w fun e w'=>e= .returned (eS (ez m))∧Below w.heap.size w w':=by
 obtain ⟨a,b,d,e,hv⟩:=JI m.kd
 have CO:=zAA (fun W=>nw m.kd W)
 rw [hv] at CO
 obtain ⟨ee,hee⟩:∃ee,mK m.kd=ee:=⟨_,rfl⟩
 rw [hee] at CO
 unfold fx eS ez
 obtain ⟨ad,kd,qu,x,y,pa,bl⟩:=m
 dsimp only at CO⊢
 clear hv hee
 have hM:ab (((w.alloc (.cells #[.int .i64 ad,.int .i64 kd,.int .i64 qu,.int .i64 x,.int .i64 y,.int .i64 pa,.slice A n c] 55)).alloc (.cells #[.int .i64 0,.bool false,.int .i64 0,.int .i64 0] 102)).alloc (.cells #[.int .i64 ad,.bool false,.int .i64 0,.int .i64 0] 102)) w.heap.size 55 #[.int .i64 ad,.int .i64 kd,.int .i64 qu,.int .i64 x,.int .i64 y,.int .i64 pa,.slice A n c]:=((ab.new w _ _).alloc _).alloc _
 have hR:ab (((w.alloc (.cells #[.int .i64 ad,.int .i64 kd,.int .i64 qu,.int .i64 x,.int .i64 y,.int .i64 pa,.slice A n c] 55)).alloc (.cells #[.int .i64 0,.bool false,.int .i64 0,.int .i64 0] 102)).alloc (.cells #[.int .i64 ad,.bool false,.int .i64 0,.int .i64 0] 102)) (w.heap.size+1) 102 #[.int .i64 0,.bool false,.int .i64 0,.int .i64 0]:=(aD (ab.new _ _ _) (by simp)).alloc _
 have hL:ab (((w.alloc (.cells #[.int .i64 ad,.int .i64 kd,.int .i64 qu,.int .i64 x,.int .i64 y,.int .i64 pa,.slice A n c] 55)).alloc (.cells #[.int .i64 0,.bool false,.int .i64 0,.int .i64 0] 102)).alloc (.cells #[.int .i64 ad,.bool false,.int .i64 0,.int .i64 0] 102)) (w.heap.size+1+1) 102 #[.int .i64 ad,.bool false,.int .i64 0,.int .i64 0]:=aD (ab.new _ _ _) (by simp)
 have hb3:Below w.heap.size w (((w.alloc (.cells #[.int .i64 ad,.int .i64 kd,.int .i64 qu,.int .i64 x,.int .i64 y,.int .i64 pa,.slice A n c] 55)).alloc (.cells #[.int .i64 0,.bool false,.int .i64 0,.int .i64 0] 102)).alloc (.cells #[.int .i64 ad,.bool false,.int .i64 0,.int .i64 0] 102)):=(((Below.refl _ _).alloc (zAB _) _).alloc (by simp) _).alloc (by simp;omega) _
 have HM:=zAA hM;have HR:=zAA hR;have HL:=zAA hL;have HB3:=zAA hb3
 clear hM hR hL hb3
 cases hp:pV kd with
 |false=>
  rw [hp] at CO
  simp only [Bool.false_eq_true,if_false]
  go_enter Tryz.func64,Tryz.ntmps64
  go_wp2_with (go_at_call 106;refine (CO.out _).mono ?_;rintro e1 w2 ⟨rfl,hb2⟩;have hbw:Below w.heap.size w (w2.alloc (.cells #[.bool a,.bool b,.bool false,.bool d,.bool e] 110)):=(HB3.out.trans (hb2.mono HB3.out.size)).alloc (zAI HB3.out.size hb2.size) _;have zm:=(HM.out.below hb2 HM.out.lt).alloc (.cells #[.bool a,.bool b,.bool false,.bool d,.bool e] 110);have zr:=(HR.out.below hb2 HR.out.lt).alloc (.cells #[.bool a,.bool b,.bool false,.bool d,.bool e] 110);have zl:=(HL.out.below hb2 HL.out.lt).alloc (.cells #[.bool a,.bool b,.bool false,.bool d,.bool e] 110);have m3:=zm.cell 3;have m4:=zm.cell 4;have l0:=zl.cell 0;have l1:=zl.cell 1;have l2:=zl.cell 2;have l3:=zl.cell 3;have k1:=zl.frozen 1;have k2:=zl.frozen 2;have k3:=zl.frozen 3;have r0:=zr.cell 0;have r1:=zr.cell 1;have r2:=zr.cell 2;have r3:=zr.cell 3;have q0:=zr.frozen 0;have q1:=zr.frozen 1;have q2:=zr.frozen 2;have q3:=zr.frozen 3;have ZL:=zAA zl;have ZR:=zAA zr;have HBW:=zAA hbw;clear hb2 zm zr zl hbw)
  have zf:=(((ZR.out.set_ 0 (.int .i64 ad)).set_ 1 (.bool false)).set_ 2 (.int .i64 0)).set_ 3 (.int .i64 0)
  refine bodyPost_ret (results_cell_row (cs:= #[.int .i64 ad,.bool false,.int .i64 0,.int .i64 0]) rfl _ _ (w.heap.size+1) 102 (0,0) _ rfl zf Tryz.underlying102 rfl (by kernel_rfl)) rfl ?_
  exact ⟨rfl,(((HBW.out.setCell (p:=⟨w.heap.size+1,0,none⟩) (by show w.heap.size≤_;simp) _).setCell (p:=⟨w.heap.size+1,1,none⟩) (by show w.heap.size≤_;simp) _).setCell (p:=⟨w.heap.size+1,2,none⟩) (by show w.heap.size≤_;simp) _).setCell (p:=⟨w.heap.size+1,3,none⟩) (by show w.heap.size≤_;simp) _⟩
 |true=>
  rw [hp] at CO
  simp only [if_true]
  go_enter Tryz.func64,Tryz.ntmps64
  go_wp2_with (go_at_call 106;refine (CO.out _).mono ?_;rintro e1 w2 ⟨rfl,hb2⟩;have hbw:Below w.heap.size w (w2.alloc (.cells #[.bool a,.bool b,.bool true,.bool d,.bool e] 110)):=(HB3.out.trans (hb2.mono HB3.out.size)).alloc (zAI HB3.out.size hb2.size) _;have zm:=(HM.out.below hb2 HM.out.lt).alloc (.cells #[.bool a,.bool b,.bool true,.bool d,.bool e] 110);have zr:=(HR.out.below hb2 HR.out.lt).alloc (.cells #[.bool a,.bool b,.bool true,.bool d,.bool e] 110);have zl:=(HL.out.below hb2 HL.out.lt).alloc (.cells #[.bool a,.bool b,.bool true,.bool d,.bool e] 110);have m3:=zm.cell 3;have m4:=zm.cell 4;have l0:=zl.cell 0;have l1:=zl.cell 1;have l2:=zl.cell 2;have l3:=zl.cell 3;have k1:=zl.frozen 1;have k2:=zl.frozen 2;have k3:=zl.frozen 3;have r0:=zr.cell 0;have r1:=zr.cell 1;have r2:=zr.cell 2;have r3:=zr.cell 3;have q0:=zr.frozen 0;have q1:=zr.frozen 1;have q2:=zr.frozen 2;have q3:=zr.frozen 3;have ZL:=zAA zl;have ZR:=zAA zr;have HBW:=zAA hbw;clear hb2 zm zr zl hbw)
  generalize w2.alloc (.cells #[.bool a,.bool b,.bool true,.bool d,.bool e] 110)=W3 at m3 m4 l0 l1 l2 l3 k1 k2 k3 r0 r1 r2 r3 q0 q1 q2 q3 ZL ZR HBW⊢
  refine ai (fun w'=>w'.cell? ⟨w.heap.size,3,none⟩=some (.int .i64 x)∧w'.cell? ⟨w.heap.size,4,none⟩=some (.int .i64 y)) 8 (.take 0 (.take 1 (.take 2 (.take 3 (.take 4 (.step 5 (.take 6 (.step 7 .done)))))))) (by kernel_rfl) (by kernel_rfl) (by simp only [aR.out,Array.getD_eq_getD_getElem?,List.getElem?_toArray,List.getElem?_cons_zero,List.getElem?_cons_succ,Option.getD_some];rfl) (by simp only [List.map_cons,List.map_nil];rfl) (⟨m3,m4⟩) (fun PE hPE=>?_)
  iterate 5
   refine ah (v:=?_) rfl (by rfl) ?_ ?_
   rotate_left
   ·intro _ hSw;(try dsimp only at hSw);obtain ⟨s0,s1⟩:=hSw;go_simp;(try with_reducible rfl)
   simp only [zAE,zAH,zAG]
  refine bG _ (w':=?_) rfl (by rfl) ?_ ?_ ?_
  rotate_left 1
  ·go_simp;(first|(with_reducible rfl)|(constructor<;>with_reducible rfl)|skip)
  ·constructor<;>go_simp
  refine ah (v:=?_) rfl (by rfl) ?_ ?_
  rotate_left
  ·intro _ hSw;(try dsimp only at hSw);obtain ⟨s0,s1⟩:=hSw;go_simp;(try with_reducible rfl)
  simp only [zAE,zAH,zAG]
  refine bG _ (w':=?_) rfl (by rfl) ?_ ?_ ?_
  rotate_left 1
  ·go_simp;(first|(with_reducible rfl)|(constructor<;>with_reducible rfl)|skip)
  ·constructor<;>go_simp
  refine hPE _ _ ?_
  clear hPE PE
  simp only [List.drop_succ_cons,List.drop_zero]
  go_wp2_with fail
  refine ⟨rfl,?_⟩
  have ZL4:=zAA (((ZL.out.set_ 1 (.bool true)).set_ 2 (.int .i64 x)).set_ 3 (.int .i64 y)).drew1
  have ZR4:=zAA (((ZR.out.far (p:=⟨w.heap.size+1+1,1,none⟩) (by simp) (.bool true)).far (p:=⟨w.heap.size+1+1,2,none⟩) (by simp) (.int .i64 x)).far (p:=⟨w.heap.size+1+1,3,none⟩) (by simp) (.int .i64 y)).drew1
  have HBW4:=zAA (((HBW.out.setCell (p:=⟨w.heap.size+1+1,1,none⟩) (by show w.heap.size≤_;simp;omega) (.bool true)).setCell (p:=⟨w.heap.size+1+1,2,none⟩) (by show w.heap.size≤_;simp;omega) (.int .i64 x)).setCell (p:=⟨w.heap.size+1+1,3,none⟩) (by show w.heap.size≤_;simp;omega) (.int .i64 y)).drew
  generalize (((W3.setCell ⟨w.heap.size+1+1,1,none⟩ (.bool true)).setCell ⟨w.heap.size+1+1,2,none⟩ (.int .i64 x)).setCell ⟨w.heap.size+1+1,3,none⟩ (.int .i64 y)).drew=W4 at ZL4 ZR4 HBW4⊢
  clear m3 m4 l0 l1 l2 l3 k1 k2 k3 r0 r1 r2 r3 q0 q1 q2 q3
  have l0:W4.cell? ⟨w.heap.size+1+1,0,none⟩=some (.int .i64 ad):=by rw [ZL4.out.cell];rfl
  have l1:W4.cell? ⟨w.heap.size+1+1,1,none⟩=some (.bool true):=by rw [ZL4.out.cell];rfl
  have l2:W4.cell? ⟨w.heap.size+1+1,2,none⟩=some (.int .i64 x):=by rw [ZL4.out.cell];rfl
  have l3:W4.cell? ⟨w.heap.size+1+1,3,none⟩=some (.int .i64 y):=by rw [ZL4.out.cell];rfl
  have r0:=ZR4.out.cell 0;have r1:=ZR4.out.cell 1;have r2:=ZR4.out.cell 2;have r3:=ZR4.out.cell 3
  have q0:=ZR4.out.frozen 0;have q1:=ZR4.out.frozen 1;have q2:=ZR4.out.frozen 2;have q3:=ZR4.out.frozen 3
  go_wp2_with fail
  have zf:=(((ZR4.out.set_ 0 (.int .i64 ad)).set_ 1 (.bool true)).set_ 2 (.int .i64 x)).set_ 3 (.int .i64 y)
  refine bodyPost_ret (results_cell_row (cs:= #[.int .i64 ad,.bool true,.int .i64 x,.int .i64 y]) rfl _ _ (w.heap.size+1) 102 (0,0) _ rfl zf Tryz.underlying102 rfl (by kernel_rfl)) rfl ?_
  exact ⟨rfl,(((HBW4.out.setCell (p:=⟨w.heap.size+1,0,none⟩) (by show w.heap.size≤_;simp) _).setCell (p:=⟨w.heap.size+1,1,none⟩) (by show w.heap.size≤_;simp) _).setCell (p:=⟨w.heap.size+1,2,none⟩) (by show w.heap.size≤_;simp) _).setCell (p:=⟨w.heap.size+1,3,none⟩) (by show w.heap.size≤_;simp) _⟩
end Go.Proofs.YthhijgcfbjcgiaaGreatDoor
namespace Go.Proofs.YthhijgcfbjcgiaaGreatDoor
open Go Go.RowKit
attribute [local go_sem] Oper.semAt_some
open Go.Lib renaming hid→zAA
open List renaming getElem_mem→zAB,any_eq_true→zAC
abbrev dF:Type:=bB×Option Addr×Nat
def gX (p:dF):List Value:=[.int .i64 p.1.dc,.slice p.2.1 p.1.l.length p.2.2]
theorem tp (p:dF):(gX p).length=2:=rfl
structure jY (W:World) (A:Option Addr) (xs:List dF):Prop where
 row:Sl W A (av gX xs)
 bl:∀p∈xs,Sl W p.2.1 (av bA p.1.l)
 len:xs.length≤64
 lens:∀p∈xs,p.1.l.length≤1000
theorem jY.below {W W':World} {A:Option Addr} {xs:List dF} (h:jY W A xs) {B:Nat} (hb:Below B W W') (hB:W.heap.size≤B):jY W' A xs:=
 ⟨h.row.below (hb.mono hB),fun p hp=>(h.bl p hp).below (hb.mono hB),h.len,h.lens⟩
theorem oI {w:World} {A:Option Addr} {xs:List dF} (h:Sl w A (av gX xs)) (i:Nat) (hi:i<xs.length):∃ad,A=some ad∧ad.block<w.heap.size∧w.cell? (ad.add (i*2))=some (.int .i64 xs[i].1.dc)∧w.cell? ⟨(ad.add (i*2)).block,(ad.add (i*2)).off+1,none⟩=some (.slice xs[i].2.1 xs[i].1.l.length xs[i].2.2):=by
 have h0:=io tp xs i hi 0 (by decide)
 have h1:=io tp xs i hi 1 (by decide)
 rw [Nat.add_zero] at h0
 obtain ⟨ad,rfl,hl,c0⟩:=h _ _ (h0.trans rfl)
 obtain ⟨ad',e,_,c1⟩:=h _ _ (h1.trans rfl)
 cases e
 rw [←hO] at c1
 exact ⟨ad,rfl,hl,c0,c1⟩
def kJ (intra:Bool) (p:dF):Bool:=cK p.1 intra !=0
set_option maxRecDepth 100000 in
theorem yS (g:Nat) (x:bB) (A:Option Addr) (n c:Nat) (b0 b1 b2 b3 b4:Bool) (w:World) (hg:ab w g 110 #[.bool b0,.bool b1,.bool b2,.bool b3,.bool b4]) (hS:Sl w A (av bA x.l)) (hn:x.l.length=n) (hsz:n≤1000):
  Calls Tryz.prog 129 #[.agg #[.int .i64 x.dc,.slice A n c],.pointer (some ⟨g,0,none⟩)] w fun e w'=>e= .returned (.bool (cK x b0 !=0))∧Below w.heap.size w w':=by
 have hB0:Below w.heap.size w (w.alloc (.cells #[.int .i64 x.dc,.slice A n c] 93)):=(Below.refl _ _).alloc (Nat.le_refl _) _
 have C:=zAA (fun W hW=>qD x A n c b0 W hW hn (by omega))
 have HS:=zAA (hS.below hB0)
 have HB0:=zAA hB0
 have hz:=hg.alloc (.cells #[.int .i64 x.dc,.slice A n c] 93)
 have z0:=hz.cell 0
 obtain ⟨r,hr⟩:∃r,cK x b0=r:=⟨_,rfl⟩
 rw [hr] at C⊢
 clear hg hS hn hB0 hr hz
 go_enter Tryz.func129,Tryz.ntmps129
 go_wp2_with (go_at_call 130;refine (C.out _ HS.out).mono ?_;rintro e w2 ⟨rfl,hb2⟩;have HB2:=zAA hb2;clear hb2)
 go_ret
 exact ⟨rfl,HB0.out.trans (HB2.out.mono HB0.out.size)⟩
set_option maxRecDepth 100000 in
theorem y9 (A:Option Addr) (c:Nat) (xs:List dF) (g:Nat) (b0 b1 b2 b3 b4:Bool) (w:World) (hA:jY w A xs) (hg:ab w g 110 #[.bool b0,.bool b1,.bool b2,.bool b3,.bool b4]):
  Calls Tryz.prog 175 #[.slice A xs.length c,.func (.func 129) #[] #[.pointer (some ⟨g,0,none⟩)]] w fun e w'=>e= .returned (.int .i64 (if xs.any (kJ b0) then ((xs.findIdx (kJ b0):Nat):Int) else -1))∧Below w.heap.size w w':=by
 have HA:=zAA hA;have HG:=zAA hg
 have hl64:=hA.len
 clear hA hg
 obtain ⟨n,hn⟩:∃n,xs.length=n:=⟨_,rfl⟩
 rw [hn] at hl64⊢
 have HN:=zAA hn
 obtain ⟨RES,hres⟩:∃RES:Int,(if xs.any (kJ b0) then ((xs.findIdx (kJ b0):Nat):Int) else -1)=RES:=⟨_,rfl⟩
 rw [hres]
 have HRES:=zAA hres
 clear hn hres
 go_enter Tryz.func175,Tryz.ntmps175
 go_wp2_with fail
 go_loopg [8] n (fun g i=>fun wr=>∃(j:Nat),j+g=n∧i= .int .i64 (j:Int)∧Hid (∀k (h:k<xs.length),k<j→kJ b0 xs[k]=false)∧Hid (Below w.heap.size w wr))
 case atStart=>exact ⟨0,by omega,rfl,zAA (fun k h h2=>by omega),zAA (Below.refl _ _)⟩
 case round=>
  obtain ⟨j,hj,rfl,HJ,HB⟩:=hrel
  cases gk with
  |zero=>
   have hlt:¬((j:Int)<(n:Int)):=by omega
   have hR1:RES= -1:=by
    rw [←HRES.out,if_neg]
    rw [zAC]
    rintro ⟨p,hp,hb⟩
    obtain ⟨k,hk,rfl⟩:=List.getElem_of_mem hp
    rw [HJ.out k hk (by have:=HN.out;omega)] at hb
    cases hb
   subst hR1
   go_wp2_with fail
   go_ret
   exact ⟨rfl,HB.out⟩
  |succ g=>
   have hlt:((j:Int)<(n:Int)):=by omega
   have hjl:j<xs.length:=by rw [HN.out];omega
   obtain ⟨ad,rfl,_,c0,c1⟩:=oI (HA.out.row.below HB.out) j hjl
   have hC:=yS _ xs[j].1 xs[j].2.1 xs[j].1.l.length xs[j].2.2 b0 b1 b2 b3 b4 wr (HG.out.below HB.out HG.out.lt) ((HA.out.bl _ (zAB hjl)).below HB.out) rfl (HA.out.lens _ (zAB hjl))
   have hbad:kJ b0 xs[j]=(cK xs[j].1 b0 !=0):=rfl
   have hw1:IntKind.i64.wrap ((j:Int)+1)=(j:Int)+1:=by rw [IntKind.wrap_i64];omega
   cases hb:(cK xs[j].1 b0 !=0) with
   |true=>
    rw [hb] at hC hbad
    have hR1:RES=(j:Int):=by
     rw [←HRES.out,if_pos]
     ·congr 1
      have h1:xs.findIdx (kJ b0)=j:=by
       rw [List.findIdx_eq hjl]
       exact ⟨hbad,fun k hk=>HJ.out k (by omega) hk⟩
      rw [h1]
     ·rw [zAC];exact ⟨xs[j],zAB hjl,hbad⟩
    subst hR1
    have HC:=zAA hC
    clear hC hbad hb hj
    go_wp2_with (go_at_call 129;refine HC.out.mono ?_;rintro e w2 ⟨rfl,hb2⟩;have HB2:=zAA hb2;clear hb2)
    go_ret
    exact ⟨rfl,HB.out.trans (HB2.out.mono HB.out.size)⟩
   |false=>
    rw [hb] at hC hbad
    have HC:=zAA hC;have HBAD:=zAA hbad;have HJ2:=zAA hj
    clear hC hbad hb hj
    go_wp2_with (go_at_call 129;refine HC.out.mono ?_;rintro e w2 ⟨rfl,hb2⟩;have HB2:=zAA hb2;clear hb2)
    go_roundg g
    case measure=>omega
    case rel=>
     refine ⟨j+1,by have:=HJ2.out;omega,rfl,zAA fun k h hk=>?_,zAA (HB.out.trans (HB2.out.mono HB.out.size))⟩
     rcases Nat.lt_or_ge k j with h1|h1
     ·exact HJ.out k h h1
     ·obtain rfl:k=j:=by omega
      exact HBAD.out
theorem tu (A:Option Addr) (c:Nat) (xs:List dF) (g:Nat) (b0 b1 b2 b3 b4:Bool) (w:World) (hA:jY w A xs) (hg:ab w g 110 #[.bool b0,.bool b1,.bool b2,.bool b3,.bool b4]):
  Calls Tryz.prog 128 #[.slice A xs.length c,.func (.func 129) #[] #[.pointer (some ⟨g,0,none⟩)]] w fun e w'=>e= .returned (.bool (xs.any (kJ b0)))∧Below w.heap.size w w':=by
 have C:=zAA (y9 A c xs g b0 b1 b2 b3 b4 w hA hg)
 clear hA hg
 generalize xs.length=n at C⊢
 generalize xs.findIdx (kJ b0)=k at C
 cases hb:xs.any (kJ b0) with
 |true=>
  rw [hb,if_pos rfl] at C
  have hk:(0:Int)≤(k:Int):=by omega
  clear hb
  go_enter Tryz.func128,Tryz.ntmps128
  go_wp2_with (go_at_call 175;refine C.out.mono ?_;rintro e w2 ⟨rfl,hb2⟩;have HB2:=zAA hb2;clear hb2)
  go_ret
  exact ⟨rfl,HB2.out⟩
 |false=>
  rw [hb,if_neg (by decide)] at C
  clear hb
  go_enter Tryz.func128,Tryz.ntmps128
  go_wp2_with (go_at_call 175;refine C.out.mono ?_;rintro e w2 ⟨rfl,hb2⟩;have HB2:=zAA hb2;clear hb2)
  go_ret
  exact ⟨rfl,HB2.out⟩
end Go.Proofs.YthhijgcfbjcgiaaGreatDoor
namespace Go.Proofs.YthhijgcfbjcgiaaGreatDoor
open Go Go.RowKit
open Nat renaming le_refl→zAA
theorem dh {B g:Nat} {w w':World} (h:Below B w w') (hB:w.heap.size≤B):w.grownBy w' (some g):=⟨h.os,h.tape,h.output,h.size,fun k hk _=>h.block k (by omega)⟩
theorem tC (w:World) (g:Nat):w.grownBy w (some g):=dh (Below.refl _ _) (zAA _)
theorem gO (w:World) (g i:Nat) (v:Value):w.grownBy (w.setCell ⟨g,i,none⟩ v) (some g):=⟨rfl,rfl,rfl,by simp [World.setCell],fun k _ hn=>Below.heap_setCell w ⟨g,i,none⟩ v k (fun e=>hn (by rw [e]))⟩
theorem Fk (w:World) (g:Nat) (o:Obj):w.grownBy (w.alloc o) (some g):=dh ((Below.refl _ _).alloc (zAA _) o) (zAA _)
theorem sf {B g:Nat} {a w w':World} (h:Below B a w) (hg:w.grownBy w' (some g)) (hB:B≤w.heap.size) (hb:B≤g):Below B a w':=h.grown hg hB (fun k e=>by cases e;exact hb)
theorem se {g:Nat} {t:TypeId} {cs:Array Value} {w w':World} {base e size n:Nat} {v:Value} {xs:List Value} (h:w.ownsRow base e size v n xs) (hg:w.grownBy w' (some g)) (hb:ab w g t cs) (hne:e≠t):w'.ownsRow base e size v n xs:=
 h.kept hg (.inr (bg h hb hne))
structure ea where
 m:aU
 xs:List dF
 A:Option Addr
 c:Nat
def eT (p:ea):List Value:=[.int .i64 p.m.ad,.int .i64 p.m.kd,.int .i64 p.m.qu,.int .i64 p.m.x,.int .i64 p.m.y,.int .i64 p.m.pa,.slice p.A p.xs.length p.c]
theorem xr (p:ea):(eT p).length=7:=rfl
structure kU (W:World) (p:ea):Prop where
 e:p.m.bl=p.xs.map (·.1)
 row:Sl W p.A (av gX p.xs)
 bl:∀b∈p.xs,Sl W b.2.1 (av bA b.1.l)
def wh (p:ea):Prop:=p.xs.length≤64∧∀b∈p.xs,b.1.l.length≤1000
theorem kU.below {W W':World} {p:ea} (h:kU W p) (hb:Below W.heap.size W W'):kU W' p:=⟨h.e,h.row.below hb,fun b hm=>(h.bl b hm).below hb⟩
theorem kU.bks {W:World} {p:ea} (h:kU W p) (hs:wh p):jY W p.A p.xs:=⟨h.row,h.bl,hs.1,hs.2⟩
structure cV where
 num:Int
 qu:Int
 sp:List UInt8
 sA:Option Addr
 sc:Nat
 ms:List ea
 A:Option Addr
 c:Nat
def cV.g (p:cV):fK:=⟨p.num,p.qu,p.sp,p.ms.map (·.m)⟩
def fN (p:cV):List Value:=[.int .i64 p.num,.int .i64 p.qu,.slice p.sA p.sp.length p.sc,.slice p.A p.ms.length p.c]
theorem wU (p:cV):(fN p).length=4:=rfl
structure jZ (W:World) (p:cV):Prop where
 sp:Sl W p.sA (p.sp.map af)
 row:Sl W p.A (av eT p.ms)
 ms:∀m∈p.ms,kU W m
def ra (p:cV):Prop:=p.sp.length≤1000∧p.ms.length≤9223372036854775807∧∀m∈p.ms,wh m
theorem jZ.below {W W':World} {p:cV} (h:jZ W p) (hb:Below W.heap.size W W'):jZ W' p:=⟨h.sp.below hb,h.row.below hb,fun m hm=>(h.ms m hm).below hb⟩
structure bh where
 tm:Int
 ty:Int
 sp:List UInt8
 sA:Option Addr
 sc:Nat
 gs:List cV
 A:Option Addr
 c:Nat
def bh.s (p:bh):cS:=⟨⟨p.tm,p.ty,p.sp⟩,p.gs.map (·.g)⟩
def ci (p:bh):List Value:=[.int .i64 p.tm,.int .i64 p.ty,.slice p.sA p.sp.length p.sc,.slice p.A p.gs.length p.c]
theorem rE (p:bh):(ci p).length=4:=rfl
structure ek (W:World) (p:bh):Prop where
 sp:Sl W p.sA (p.sp.map af)
 row:Sl W p.A (av fN p.gs)
 gs:∀g∈p.gs,jZ W g
def fL (p:bh):Prop:=p.sp.length≤1000∧p.gs.length≤100∧∀g∈p.gs,ra g
theorem ek.below {W W':World} {p:bh} (h:ek W p) (hb:Below W.heap.size W W'):ek W' p:=⟨h.sp.below hb,h.row.below hb,fun m hm=>(h.gs m hm).below hb⟩
structure dR (W:World) (A:Option Addr) (ss:List bh):Prop where
 row:Sl W A (av ci ss)
 sh:∀s∈ss,ek W s
theorem dR.below {W W':World} {A:Option Addr} {ss:List bh} (h:dR W A ss) (hb:Below W.heap.size W W'):dR W' A ss:=⟨h.row.below hb,fun m hm=>(h.sh m hm).below hb⟩
theorem tO {α:Type} {f:α→List Value} {k:Nat} (hf:∀x,(f x).length=k) {w:World} {A:Option Addr} {xs:List α} (h:Sl w A (av f xs)) (i:Nat) (hi:i<xs.length) (hk:0<k):
  ∃ad,A=some ad∧ad.block<w.heap.size∧∀j v,(f xs[i])[j]? =some v→w.cell? ((ad.add (i*k)).add j)=some v:=by
 have h0:=io hf xs i hi 0 hk
 obtain ⟨v0,hv0⟩:∃v,(f xs[i])[0]? =some v:=⟨_,List.getElem?_eq_getElem (by rw [hf xs[i]];exact hk)⟩
 obtain ⟨ad,rfl,hl,_⟩:=h _ _ (h0.trans hv0)
 refine ⟨ad,rfl,hl,fun j v hv=>?_⟩
 have hj:j<k:=by
  have:=(List.getElem?_eq_some_iff.1 hv).1
  rwa [hf] at this
 obtain ⟨ad',e,_,hc⟩:=h _ _ ((io hf xs i hi j hj).trans hv)
 cases e
 rw [hO]
 exact hc
theorem iU {w:World} {A:Option Addr} {xs:List bh} (h:Sl w A (av ci xs)) (i:Nat) (hi:i<xs.length):∃ad,A=some ad∧ad.block<w.heap.size∧w.cell? (ad.add (i*4))=some (.int .i64 xs[i].tm)∧w.cell? ⟨(ad.add (i*4)).block,(ad.add (i*4)).off+1,none⟩=some (.int .i64 xs[i].ty)∧
  w.cell? ⟨(ad.add (i*4)).block,(ad.add (i*4)).off+2,none⟩=some (.slice xs[i].sA xs[i].sp.length xs[i].sc)∧w.cell? ⟨(ad.add (i*4)).block,(ad.add (i*4)).off+3,none⟩=some (.slice xs[i].A xs[i].gs.length xs[i].c):=by
 obtain ⟨ad,rfl,hl,hc⟩:=tO rE h i hi (by decide)
 exact ⟨ad,rfl,hl,hc 0 _ rfl,hc 1 _ rfl,hc 2 _ rfl,hc 3 _ rfl⟩
theorem mj {w:World} {A:Option Addr} {xs:List cV} (h:Sl w A (av fN xs)) (i:Nat) (hi:i<xs.length):∃ad,A=some ad∧ad.block<w.heap.size∧w.cell? (ad.add (i*4))=some (.int .i64 xs[i].num)∧w.cell? ⟨(ad.add (i*4)).block,(ad.add (i*4)).off+1,none⟩=some (.int .i64 xs[i].qu)∧
  w.cell? ⟨(ad.add (i*4)).block,(ad.add (i*4)).off+2,none⟩=some (.slice xs[i].sA xs[i].sp.length xs[i].sc)∧w.cell? ⟨(ad.add (i*4)).block,(ad.add (i*4)).off+3,none⟩=some (.slice xs[i].A xs[i].ms.length xs[i].c):=by
 obtain ⟨ad,rfl,hl,hc⟩:=tO wU h i hi (by decide)
 exact ⟨ad,rfl,hl,hc 0 _ rfl,hc 1 _ rfl,hc 2 _ rfl,hc 3 _ rfl⟩
theorem mo {w:World} {A:Option Addr} {xs:List ea} (h:Sl w A (av eT xs)) (i:Nat) (hi:i<xs.length):∃ad,A=some ad∧ad.block<w.heap.size∧w.cell? (ad.add (i*7))=some (.int .i64 xs[i].m.ad)∧w.cell? ⟨(ad.add (i*7)).block,(ad.add (i*7)).off+1,none⟩=some (.int .i64 xs[i].m.kd)∧
  w.cell? ⟨(ad.add (i*7)).block,(ad.add (i*7)).off+2,none⟩=some (.int .i64 xs[i].m.qu)∧w.cell? ⟨(ad.add (i*7)).block,(ad.add (i*7)).off+3,none⟩=some (.int .i64 xs[i].m.x)∧w.cell? ⟨(ad.add (i*7)).block,(ad.add (i*7)).off+4,none⟩=some (.int .i64 xs[i].m.y)∧
  w.cell? ⟨(ad.add (i*7)).block,(ad.add (i*7)).off+5,none⟩=some (.int .i64 xs[i].m.pa)∧w.cell? ⟨(ad.add (i*7)).block,(ad.add (i*7)).off+6,none⟩=some (.slice xs[i].A xs[i].xs.length xs[i].c):=by
 obtain ⟨ad,rfl,hl,hc⟩:=tO xr h i hi (by decide)
 exact ⟨ad,rfl,hl,hc 0 _ rfl,hc 1 _ rfl,hc 2 _ rfl,hc 3 _ rfl,hc 4 _ rfl,hc 5 _ rfl,hc 6 _ rfl⟩
def eE (p:bh):Value:= .agg #[.int .i64 p.tm,.int .i64 p.ty,.slice p.sA p.sp.length p.sc,.slice p.A p.gs.length p.c]
def pl (p:cV):Value:= .agg #[.int .i64 p.num,.int .i64 p.qu,.slice p.sA p.sp.length p.sc,.slice p.A p.ms.length p.c]
end Go.Proofs.YthhijgcfbjcgiaaGreatDoor
namespace Go.Proofs.YthhijgcfbjcgiaaGreatDoor
open Go Go.RowKit
attribute [local go_sem] Oper.semAt_some
open Go.Lib renaming hid→zAA
open List renaming setIfInBounds_toArray→zAB,set_cons_succ→zAC,set_cons_zero→zAD,getElem?_eq_getElem→zAE,getElem?_cons_succ→zAF,getElem?_cons_zero→zAG,take_of_length_le→zAH,getElem?_toArray→zAI,drop_succ_cons→zAJ,take_add_one→zAK,drop_nil→zAM,map_cons→zAN,getElem_mem→zAO,map_nil→zAP,getElem_map→zAT,length_map→zAU,map_append→zAV
open Option renaming getD_some→zAL
open Nat renaming le_refl→zAQ
open Bool renaming and_eq_true→zAR
open Go.IntKind renaming wrap_i64→zAS,i64→zAW
theorem EF {α:Type} {l m:List α} {j:Nat} (hl:j<l.length) (hm:j<m.length) (h:l.take j=m.take j) (e:l[j]=m[j]):l.take (j+1)=m.take (j+1):=by
 rw [zAK,zAK,h,zAE hl,zAE hm,e]
theorem Gj {α:Type} {l m:List α} {j:Nat} (hl:j<l.length) (hm:j<m.length) (e:l[j]≠m[j]):l≠m:=by
 rintro rfl
 exact e rfl
set_option maxRecDepth 100000 in
set_option maxHeartbeats 4000000 in
theorem vL (l m:List (Int×Int)) (A B:Option Addr) (c d:Nat) (w:World) (hA:Sl w A (av bA l)) (hB:Sl w B (av bA m)) (hl:l.length≤1000000):
  Calls Tryz.prog 233 #[.slice A l.length c,.slice B m.length d] w fun e w'=>e= .returned (.bool (l==m))∧Below w.heap.size w w':=by
 have HA:=zAA hA;have HB:=zAA hB;have HL:=zAA hl
 clear hA hB hl
 obtain ⟨RES,hres⟩:∃RES,(l==m)=RES:=⟨_,rfl⟩
 rw [hres]
 obtain ⟨n,hn⟩:∃n,l.length=n:=⟨_,rfl⟩
 obtain ⟨k,hk⟩:∃k,m.length=k:=⟨_,rfl⟩
 rw [hn,hk]
 have HRES:=zAA hres;have HN:=zAA hn;have HK:=zAA hk
 clear hres hn hk
 rcases Decidable.em (n≠k) with hnk|hnk
 ·have hne:(n:Int)≠(k:Int):=by omega
  have hR:RES=false:=by
   rw [←HRES.out,beq_eq_false_iff_ne]
   rintro rfl
   have:=HN.out;have:=HK.out;omega
  subst hR
  clear hnk
  go_enter Tryz.func233,Tryz.ntmps233
  go_wp2
  go_ret
  exact ⟨rfl,Below.refl _ _⟩
 obtain rfl:n=k:=by omega
 clear hnk
 go_enter Tryz.func233,Tryz.ntmps233
 go_wp2_with fail
 go_loopg [5] n (fun g i=>fun wr=>∃(j:Nat),j+g=n∧i= .int .i64 (j:Int)∧Hid (l.take j=m.take j)∧Hid (Below w.heap.size w wr))
 case atStart=>exact ⟨0,by omega,rfl,zAA (by simp),zAA (Below.refl _ _)⟩
 case round=>
  obtain ⟨j,hj,rfl,HJ,HI⟩:=hrel
  cases gk with
  |zero=>
   have hlt:¬((j:Int)<(n:Int)):=by omega
   have hR1:RES=true:=by
    rw [←HRES.out,beq_iff_eq]
    have h:=HJ.out
    rwa [zAH (by have:=HN.out;omega),zAH (by have:=HK.out;omega)] at h
   subst hR1
   clear hj
   go_wp2_with fail
   go_ret
   exact ⟨rfl,HI.out⟩
  |succ g=>
   have hlt:((j:Int)<(n:Int)):=by omega
   have hlt0:¬((j:Int)<0):=by omega
   have hjl:j<l.length:=by rw [HN.out];omega
   have hjm:j<m.length:=by rw [HK.out];omega
   obtain ⟨a,rfl,ha1,ha2,ha3⟩:=jU (HA.out.below HI.out) j hjl
   obtain ⟨b,rfl,hc1,hc2,hc3⟩:=jU (HB.out.below HI.out) j hjm
   obtain ⟨⟨p0,p1⟩,hp⟩:∃p,l[j]=p:=⟨_,rfl⟩
   obtain ⟨⟨q0,q1⟩,hq⟩:∃q,m[j]=q:=⟨_,rfl⟩
   have HC:Hid (∀W,Sl W (some a) (av bA l)∧Sl W (some b) (av bA m)→(W.cell? (a.add (j*2))=some (.int .i64 p0)∧W.cell? ⟨(a.add (j*2)).block,(a.add (j*2)).off+1,none⟩=some (.int .i64 p1))∧(W.cell? (b.add (j*2))=some (.int .i64 q0)∧W.cell? ⟨(b.add (j*2)).block,(b.add (j*2)).off+1,none⟩=some (.int .i64 q1))):=zAA fun W hW=>by
    obtain ⟨a',e1,_,c1,c2⟩:=jU hW.1 j hjl
    obtain ⟨b',e2,_,d1,d2⟩:=jU hW.2 j hjm
    cases e1;cases e2
    rw [hp] at c1 c2
    rw [hq] at d1 d2
    exact ⟨⟨c1,c2⟩,d1,d2⟩
   have hw1:zAW.wrap ((j:Int)+1)=(j:Int)+1:=by have:=HL.out;have:=HN.out;rw [zAS];omega
   have HJJ:=zAA hj
   have hI0:Below w.heap.size w wr.drew:=HI.out.drew
   have HI2:=zAA hI0
   have HST:Hid (Sl wr.drew (some a) (av bA l)∧Sl wr.drew (some b) (av bA m)):=zAA ⟨HA.out.below hI0,HB.out.below hI0⟩
   have HEQ:Hid ((p0=q0∧p1=q1)→l.take (j+1)=m.take (j+1)):=zAA fun h=>EF hjl hjm HJ.out (by rw [hp,hq,h.1,h.2])
   have HNE:Hid (¬(p0=q0∧p1=q1)→RES=false):=zAA fun h=>by
    rw [←HRES.out,beq_eq_false_iff_ne]
    exact Gj hjl hjm (by rw [hp,hq];intro e;exact h ⟨(Prod.mk.inj e).1,(Prod.mk.inj e).2⟩)
   clear ha1 ha2 ha3 hc1 hc2 hc3 hj hp hq hI0 HRES HJ;clear hjl hjm;clear HA HB HN HK
   obtain ⟨b0,hb0⟩:∃b,(p0==q0)=b:=⟨_,rfl⟩
   obtain ⟨b1,hb1⟩:∃b,(p1==q1)=b:=⟨_,rfl⟩
   have HB0:=zAA hb0;have HB1:=zAA hb1
   cases b0 with
   |false=>
    have hr:RES=false:=HNE.out (fun h=>by have:=HB0.out;rw [h.1,beq_self_eq_true] at this;cases this)
    subst hr
    go_wp2_with fail
    refine ai (fun W=>Sl W (some a) (av bA l)∧Sl W (some b) (av bA m)) 9 (.take 0 (.take 1 (.take 2 (.take 3 (.take 4 (.take 5 (.take 6 (.take 7 (.take 8 .done))))))))) (by kernel_rfl) (by kernel_rfl) (by simp only [aR.out,Array.getD_eq_getD_getElem?,zAI,zAG,zAF,zAL];rfl) (by simp only [zAN,zAP];rfl) (HST.out) (fun PE hPE=>?_)
    iterate 9
     refine ah (v:=?_) rfl (by rfl) ?_ ?_
     rotate_left
     ·intro _ hSw;(try dsimp only at hSw);obtain ⟨⟨z0,z1⟩,z2,z3⟩:=HC.out _ hSw;go_simp;(try with_reducible rfl)
     simp only [zAB,zAD,zAC]
    refine hPE _ _ ?_
    clear hPE PE
    simp only [zAJ,zAM]
    go_wp2_with fail
    refine ⟨rfl,?_⟩
    go_wp2_with fail
    go_ret
    exact ⟨rfl,HI2.out⟩
   |true=>
    cases b1 with
    |false=>
     have hr:RES=false:=HNE.out (fun h=>by have:=HB1.out;rw [h.2,beq_self_eq_true] at this;cases this)
     subst hr
     go_wp2_with fail
     refine ai (fun W=>Sl W (some a) (av bA l)∧Sl W (some b) (av bA m)) 9 (.take 0 (.take 1 (.take 2 (.take 3 (.take 4 (.take 5 (.take 6 (.take 7 (.take 8 .done))))))))) (by kernel_rfl) (by kernel_rfl) (by simp only [aR.out,Array.getD_eq_getD_getElem?,zAI,zAG,zAF,zAL];rfl) (by simp only [zAN,zAP];rfl) (HST.out) (fun PE hPE=>?_)
     iterate 9
      refine ah (v:=?_) rfl (by rfl) ?_ ?_
      rotate_left
      ·intro _ hSw;(try dsimp only at hSw);obtain ⟨⟨z0,z1⟩,z2,z3⟩:=HC.out _ hSw;go_simp;(try with_reducible rfl)
      simp only [zAB,zAD,zAC]
     refine hPE _ _ ?_
     clear hPE PE
     simp only [zAJ,zAM]
     go_wp2_with fail
     refine ⟨rfl,?_⟩
     go_wp2_with fail
     go_ret
     exact ⟨rfl,HI2.out⟩
    |true=>
     have hq:p0=q0:=beq_iff_eq.1 hb0
     have hq1:p1=q1:=beq_iff_eq.1 hb1
     have HE:=zAA (HEQ.out ⟨hq,hq1⟩)
     subst hq hq1
     clear HEQ HNE
     go_wp2_with fail
     refine ai (fun W=>Sl W (some a) (av bA l)∧Sl W (some b) (av bA m)) 9 (.take 0 (.take 1 (.take 2 (.take 3 (.take 4 (.take 5 (.take 6 (.take 7 (.take 8 .done))))))))) (by kernel_rfl) (by kernel_rfl) (by simp only [aR.out,Array.getD_eq_getD_getElem?,zAI,zAG,zAF,zAL];rfl) (by simp only [zAN,zAP];rfl) (HST.out) (fun PE hPE=>?_)
     iterate 9
      refine ah (v:=?_) rfl (by rfl) ?_ ?_
      rotate_left
      ·intro _ hSw;(try dsimp only at hSw);obtain ⟨⟨z0,z1⟩,z2,z3⟩:=HC.out _ hSw;go_simp;(try with_reducible rfl)
      simp only [zAB,zAD,zAC]
     refine hPE _ _ ?_
     clear hPE PE
     simp only [zAJ,zAM]
     go_wp2_with fail
     refine ⟨rfl,?_⟩
     go_wp2_with fail
     go_roundg g
     case measure=>omega
     case rel=>exact ⟨j+1,by have:=HJJ.out;omega,rfl,HE,HI2⟩
def lu (x y:bB):Bool:=x.dc==y.dc&&x.l==y.l
theorem pP {x y:bB}:lu x y=true↔x=y:=by
 obtain ⟨a,b⟩:=x;obtain ⟨c,d⟩:=y
 unfold lu
 simp
theorem vI (x y:bB) (A B:Option Addr) (c d:Nat) (w:World) (hA:Sl w A (av bA x.l)) (hB:Sl w B (av bA y.l)) (hl:x.l.length≤1000000):
  Calls Tryz.prog 196 #[.agg #[.int .i64 x.dc,.slice A x.l.length c],.agg #[.int .i64 y.dc,.slice B y.l.length d]] w fun e w'=>e= .returned (.bool (lu x y))∧Below w.heap.size w w':=by
 obtain ⟨a,l⟩:=x;obtain ⟨b,m⟩:=y
 unfold lu
 dsimp only at hA hB hl⊢
 have hb0:Below w.heap.size w (w.alloc (.cells #[.int .i64 a,.slice A l.length c] 93)):=(Below.refl _ w).alloc (zAQ _) _
 have HB1:=zAA (hb0.alloc hb0.size (.cells #[.int .i64 b,.slice B m.length d] 93))
 have C:=zAA (vL l m A B c d _ (hA.below HB1.out) (hB.below HB1.out) hl)
 have hc1:=(ab.new w 93 #[.int .i64 a,.slice A l.length c]).alloc (.cells #[.int .i64 b,.slice B m.length d] 93)
 have hc2:=ab.new (w.alloc (.cells #[.int .i64 a,.slice A l.length c] 93)) 93 #[.int .i64 b,.slice B m.length d]
 rw [World.size_alloc] at hc2
 have z0:=hc1.cell 0;have z1:=hc1.cell 1;have z2:=hc2.cell 0;have z3:=hc2.cell 1
 (try dsimp only at z0 z1 z2 z3)
 clear hA hB hl hb0 hc1 hc2
 generalize (l==m)=lm at C⊢
 generalize l.length=n at*
 generalize m.length=k at*
 cases hab:(a==b) with
 |false=>
  go_enter Tryz.func196,Tryz.ntmps196
  go_wp2_with fail
  go_ret
  exact ⟨rfl,HB1.out⟩
 |true=>
  go_enter Tryz.func196,Tryz.ntmps196
  go_wp2_with (go_at_call 233;refine C.out.mono ?_;rintro e w2 ⟨rfl,hb2⟩;have HB2:=zAA hb2;clear hb2)
  go_ret
  exact ⟨by simp,HB1.out.trans (HB2.out.mono HB1.out.size)⟩
def mi:List bB→List bB→Bool
 |[],[]=>true
 |x::l,y::m=>lu x y&&mi l m
 |_,_=>false
theorem sJ:∀{l m:List bB},mi l m=true↔l=m
 |[],[]=>by simp [mi]
 |[],_::_=>by simp [mi]
 |_::_,[]=>by simp [mi]
 |x::l,y::m=>by
  unfold mi
  rw [zAR,pP,sJ,List.cons.injEq]
def sK (a b:aU):Bool:=a.ad==b.ad&&a.kd==b.kd&&a.qu==b.qu&&a.x==b.x&&a.y==b.y&&a.pa==b.pa&&mi a.bl b.bl
theorem pR {a b:aU}:sK a b=true↔a=b:=by
 obtain ⟨a1,a2,a3,a4,a5,a6,a7⟩:=a;obtain ⟨b1,b2,b3,b4,b5,b6,b7⟩:=b
 unfold sK
 simp only [zAR,beq_iff_eq,sJ,aU.mk.injEq]
 constructor
 ·rintro ⟨⟨⟨⟨⟨⟨h1,h2⟩,h3⟩,h4⟩,h5⟩,h6⟩,h7⟩;exact ⟨h1,h2,h3,h4,h5,h6,h7⟩
 ·rintro ⟨h1,h2,h3,h4,h5,h6,h7⟩;exact ⟨⟨⟨⟨⟨⟨h1,h2⟩,h3⟩,h4⟩,h5⟩,h6⟩,h7⟩
theorem En {a b:aU} (h:a≠b):sK a b=false:=by
 rw [←Bool.not_eq_true]
 exact fun h2=>h (pR.1 h2)
set_option maxRecDepth 100000 in
set_option maxHeartbeats 8000000 in
theorem vK (m1 m2:aU) (xs ys:List dF) (A B:Option Addr) (c d:Nat) (w:World) (h1:m1.bl=xs.map (·.1)) (h2:m2.bl=ys.map (·.1)) (hA:jY w A xs) (hB:jY w B ys):
  Calls Tryz.prog 151 #[fx m1 A xs.length c,fx m2 B ys.length d] w fun e w'=>e= .returned (.bool (sK m1 m2))∧Below w.heap.size w w':=by
 have HNE:=zAA (@En m1 m2)
 have HEQ:=zAA (@pR m1 m2)
 have HA:=zAA hA;have HB:=zAA hB
 have hln:m1.bl=m2.bl→xs.length=ys.length:=fun e=>by
  have h:=congrArg List.length e
  rw [h1,h2,zAU,zAU] at h
  exact h
 have hbl:m1.bl=m2.bl↔xs.map (·.1)=ys.map (·.1):=by rw [h1,h2]
 obtain ⟨a1,a2,a3,a4,a5,a6,a7⟩:=m1;obtain ⟨b1,b2,b3,b4,b5,b6,b7⟩:=m2
 obtain ⟨RES,hres⟩:∃RES,sK ⟨a1,a2,a3,a4,a5,a6,a7⟩ ⟨b1,b2,b3,b4,b5,b6,b7⟩=RES:=⟨_,rfl⟩
 rw [hres] at HNE HEQ⊢
 unfold fx
 dsimp only at hln hbl⊢
 have HLN:=zAA hln;have HBLL:=zAA hbl
 clear hres hA hB h1 h2 hln hbl
 obtain ⟨n,hn⟩:∃n,xs.length=n:=⟨_,rfl⟩
 obtain ⟨k,hk⟩:∃k,ys.length=k:=⟨_,rfl⟩
 have hn64:n≤64:=by rw [←hn];exact HA.out.len
 rw [hn,hk] at HLN⊢
 have HN:=zAA hn;have HK:=zAA hk
 clear hn hk
 have hb0:Below w.heap.size w (w.alloc (.cells #[.int .i64 a1,.int .i64 a2,.int .i64 a3,.int .i64 a4,.int .i64 a5,.int .i64 a6,.slice A n c] 55)):=(Below.refl _ w).alloc (zAQ _) _
 have hb1:=hb0.alloc hb0.size (.cells #[.int .i64 b1,.int .i64 b2,.int .i64 b3,.int .i64 b4,.int .i64 b5,.int .i64 b6,.slice B k d] 55)
 have hc1:=(ab.new w 55 #[.int .i64 a1,.int .i64 a2,.int .i64 a3,.int .i64 a4,.int .i64 a5,.int .i64 a6,.slice A n c]).alloc (.cells #[.int .i64 b1,.int .i64 b2,.int .i64 b3,.int .i64 b4,.int .i64 b5,.int .i64 b6,.slice B k d] 55)
 have hc2:ab ((w.alloc (.cells #[.int .i64 a1,.int .i64 a2,.int .i64 a3,.int .i64 a4,.int .i64 a5,.int .i64 a6,.slice A n c] 55)).alloc (.cells #[.int .i64 b1,.int .i64 b2,.int .i64 b3,.int .i64 b4,.int .i64 b5,.int .i64 b6,.slice B k d] 55)) (w.heap.size+1) 55 #[.int .i64 b1,.int .i64 b2,.int .i64 b3,.int .i64 b4,.int .i64 b5,.int .i64 b6,.slice B k d]:=aD (ab.new _ _ _) (by simp)
 have HB1:=zAA hb1;have HC1:=zAA hc1;have HC2:=zAA hc2
 have x0:=hc1.cell 0;have x1:=hc1.cell 1;have x2:=hc1.cell 2;have x3:=hc1.cell 3;have x4:=hc1.cell 4;have x5:=hc1.cell 5;have x6:=hc1.cell 6
 have y0:=hc2.cell 0;have y1:=hc2.cell 1;have y2:=hc2.cell 2;have y3:=hc2.cell 3;have y4:=hc2.cell 4;have y5:=hc2.cell 5;have y6:=hc2.cell 6
 simp at x0 x1 x2 x3 x4 x5 x6 y0 y1 y2 y3 y4 y5 y6
 clear hb0 hb1 hc1 hc2
 cases q1:(a1 !=b1) with
 |true=>
  have hr:RES=false:=HNE.out (fun h=>by have h:=aU.mk.inj h;have h:=h.1;rw [h] at q1;simp at q1)
  subst hr
  clear HNE HEQ
  go_enter Tryz.func151,Tryz.ntmps151
  go_wp2_with fail
  go_ret
  exact ⟨rfl,HB1.out⟩
 |false=>
 have e1:a1=b1:=by simpa using q1
 subst e1
 clear q1
 cases q2:(a2 !=b2) with
 |true=>
  have hr:RES=false:=HNE.out (fun h=>by have h:=aU.mk.inj h;have h:=h.2.1;rw [h] at q2;simp at q2)
  subst hr
  clear HNE HEQ
  go_enter Tryz.func151,Tryz.ntmps151
  go_wp2_with fail
  go_ret
  exact ⟨rfl,HB1.out⟩
 |false=>
 have e2:a2=b2:=by simpa using q2
 subst e2
 clear q2
 cases q3:(a3 !=b3) with
 |true=>
  have hr:RES=false:=HNE.out (fun h=>by have h:=aU.mk.inj h;have h:=h.2.2.1;rw [h] at q3;simp at q3)
  subst hr
  clear HNE HEQ
  go_enter Tryz.func151,Tryz.ntmps151
  go_wp2_with fail
  go_ret
  exact ⟨rfl,HB1.out⟩
 |false=>
 have e3:a3=b3:=by simpa using q3
 subst e3
 clear q3
 cases q4:(a4 !=b4) with
 |true=>
  have hr:RES=false:=HNE.out (fun h=>by have h:=aU.mk.inj h;have h:=h.2.2.2.1;rw [h] at q4;simp at q4)
  subst hr
  clear HNE HEQ
  go_enter Tryz.func151,Tryz.ntmps151
  go_wp2_with fail
  go_ret
  exact ⟨rfl,HB1.out⟩
 |false=>
 have e4:a4=b4:=by simpa using q4
 subst e4
 clear q4
 cases q5:(a5 !=b5) with
 |true=>
  have hr:RES=false:=HNE.out (fun h=>by have h:=aU.mk.inj h;have h:=h.2.2.2.2.1;rw [h] at q5;simp at q5)
  subst hr
  clear HNE HEQ
  go_enter Tryz.func151,Tryz.ntmps151
  go_wp2_with fail
  go_ret
  exact ⟨rfl,HB1.out⟩
 |false=>
 have e5:a5=b5:=by simpa using q5
 subst e5
 clear q5
 cases q6:(a6 !=b6) with
 |true=>
  have hr:RES=false:=HNE.out (fun h=>by have h:=aU.mk.inj h;have h:=h.2.2.2.2.2.1;rw [h] at q6;simp at q6)
  subst hr
  clear HNE HEQ
  go_enter Tryz.func151,Tryz.ntmps151
  go_wp2_with fail
  go_ret
  exact ⟨rfl,HB1.out⟩
 |false=>
 have e6:a6=b6:=by simpa using q6
 subst e6
 clear q6
 cases q7:((n:Int) !=(k:Int)) with
 |true=>
  have hr:RES=false:=HNE.out (fun h=>by have h:=aU.mk.inj h;have:=HLN.out h.2.2.2.2.2.2;subst this;simp at q7)
  subst hr
  clear HNE HEQ
  go_enter Tryz.func151,Tryz.ntmps151
  go_wp2_with fail
  go_ret
  exact ⟨rfl,HB1.out⟩
 |false=>
 have e7:n=k:=by have h:(n:Int)=(k:Int):=(by simpa using q7);omega
 subst e7
 clear q7
 go_enter Tryz.func151,Tryz.ntmps151
 go_wp2_with fail
 generalize hW1:(w.alloc (.cells #[.int .i64 a1,.int .i64 a2,.int .i64 a3,.int .i64 a4,.int .i64 a5,.int .i64 a6,.slice A n c] 55)).alloc (.cells #[.int .i64 a1,.int .i64 a2,.int .i64 a3,.int .i64 a4,.int .i64 a5,.int .i64 a6,.slice B n d] 55)=W1 at HB1 HC1 HC2 x0 x1 x2 x3 x4 x5 x6 y0 y1 y2 y3 y4 y5 y6⊢
 obtain ⟨g1,hg1⟩:∃g1,w.heap.size=g1:=⟨_,rfl⟩
 obtain ⟨g2,hg2⟩:∃g2,g1+1=g2:=⟨_,rfl⟩
 rw [hg1] at HC1 HC2⊢
 rw [hg2] at HC2⊢
 have HG1:=zAA hg1
 have HA1:=zAA (HA.out.below HB1.out (zAQ _));have HBB1:=zAA (HB.out.below HB1.out (zAQ _))
 rw [hg1] at HB1
 clear x0 x1 x2 x3 x4 x5 x6 y0 y1 y2 y3 y4 y5 y6 hW1 hg1 hg2 HA HB HLN
 go_loopg [5] n (fun g i=>fun wr=>∃(j:Nat),j+g=n∧i= .int .i64 (j:Int)∧Hid ((xs.take j).map (·.1)=(ys.take j).map (·.1))∧Hid (Below W1.heap.size W1 wr))
 case atStart=>exact ⟨0,by omega,rfl,zAA (by simp),zAA (Below.refl _ _)⟩
 case round=>
  obtain ⟨j,hj,rfl,HJ,HI⟩:=hrel
  have hz:=(HC1.out.below HI.out HC1.out.lt).cell 6
  (try dsimp only at hz)
  cases gk with
  |zero=>
   have hlt:¬((j:Int)<(n:Int)):=by omega
   have hR1:RES=true:=HEQ.out.2 (by
    have h:=HJ.out
    rw [zAH (by have:=HN.out;omega),zAH (by have:=HK.out;omega)] at h
    rw [HBLL.out.2 h])
   subst hR1
   clear hj
   go_wp2_with fail
   go_ret
   exact ⟨rfl,(by have h:=HB1.out;rw [←HG1.out] at h;exact h.trans (HI.out.mono h.size))⟩
  |succ g=>
   have hlt:((j:Int)<(n:Int)):=by omega
   have hlt0:¬((j:Int)<0):=by omega
   have hjl:j<xs.length:=by rw [HN.out];omega
   have hjm:j<ys.length:=by rw [HK.out];omega
   obtain ⟨a,rfl,ha1,ha2,ha3⟩:=oI (HA1.out.row.below HI.out) j hjl
   obtain ⟨b,rfl,hc1,hc2,hc3⟩:=oI (HBB1.out.row.below HI.out) j hjm
   obtain ⟨p,hp⟩:∃p,xs[j]=p:=⟨_,rfl⟩
   obtain ⟨q,hq⟩:∃q,ys[j]=q:=⟨_,rfl⟩
   have HC:Hid (∀W,Sl W (some a) (av gX xs)∧Sl W (some b) (av gX ys)→(W.cell? (a.add (j*2))=some (.int .i64 p.1.dc)∧W.cell? ⟨(a.add (j*2)).block,(a.add (j*2)).off+1,none⟩=some (.slice p.2.1 p.1.l.length p.2.2))∧(W.cell? (b.add (j*2))=some (.int .i64 q.1.dc)∧W.cell? ⟨(b.add (j*2)).block,(b.add (j*2)).off+1,none⟩=some (.slice q.2.1 q.1.l.length q.2.2))):=zAA fun W hW=>by
    obtain ⟨a',e1,_,c1,c2⟩:=oI hW.1 j hjl
    obtain ⟨b',e2,_,d1,d2⟩:=oI hW.2 j hjm
    cases e1;cases e2
    rw [hp] at c1 c2
    rw [hq] at d1 d2
    exact ⟨⟨c1,c2⟩,d1,d2⟩
   have hw1:zAW.wrap ((j:Int)+1)=(j:Int)+1:=by rw [zAS];omega
   have HJJ:=zAA hj
   have hI0:Below W1.heap.size W1 wr.drew:=HI.out.drew
   have HI2:=zAA hI0
   have HST:Hid ((aa [(g1,55,#[.int .i64 a1,.int .i64 a2,.int .i64 a3,.int .i64 a4,.int .i64 a5,.int .i64 a6,.slice (some a) n c]),(g2,55,#[.int .i64 a1,.int .i64 a2,.int .i64 a3,.int .i64 a4,.int .i64 a5,.int .i64 a6,.slice (some b) n d])] wr.drew)∧Sl wr.drew (some a) (av gX xs)∧Sl wr.drew (some b) (av gX ys)):=zAA ⟨aa.cons (HC1.out.below hI0 HC1.out.lt) (aa.cons (HC2.out.below hI0 HC2.out.lt) (ag _)),HA1.out.row.below hI0,HBB1.out.row.below hI0⟩
   have HSB:Hid (Calls Tryz.prog 196 #[.agg #[.int .i64 p.1.dc,.slice p.2.1 p.1.l.length p.2.2],.agg #[.int .i64 q.1.dc,.slice q.2.1 q.1.l.length q.2.2]] wr.drew fun e w'=>e= .returned (.bool (lu p.1 q.1))∧Below wr.drew.heap.size wr.drew w'):=zAA (vI p.1 q.1 p.2.1 q.2.1 p.2.2 q.2.2 wr.drew ((HA1.out.bl p (by rw [←hp];exact zAO hjl)).below hI0) ((HBB1.out.bl q (by rw [←hq];exact zAO hjm)).below hI0) (by have:=HA1.out.lens p (by rw [←hp];exact zAO hjl);omega))
   have HEE:Hid (lu p.1 q.1=true→(xs.take (j+1)).map (·.1)=(ys.take (j+1)).map (·.1)):=zAA fun h=>by
    have e:=pP.1 h
    rw [zAK,zAK,zAV,zAV,HJ.out,zAE hjl,zAE hjm,hp,hq]
    simp [e]
   have HNN:Hid (lu p.1 q.1=false→RES=false):=zAA fun h=>HNE.out fun e=>by
    have e7:=HBLL.out.1 (by have e:=aU.mk.inj e;exact e.2.2.2.2.2.2)
    have e8:(xs.map (·.1))[j]'(by simpa using hjl)=(ys.map (·.1))[j]'(by simpa using hjm):=by simp only [e7]
    rw [zAT,zAT,hp,hq] at e8
    rw [pP.2 e8] at h
    cases h
   clear ha1 ha2 ha3 hc1 hc2 hc3 hj hp hq hI0 HJ
   obtain ⟨bb,hbb⟩:∃bb,lu p.1 q.1=bb:=⟨_,rfl⟩
   rw [hbb] at HSB HEE HNN
   clear hbb hjl hjm
   go_wp2_with fail
   refine ai (fun W=>(aa [(g1,55,#[.int .i64 a1,.int .i64 a2,.int .i64 a3,.int .i64 a4,.int .i64 a5,.int .i64 a6,.slice (some a) n c]),(g2,55,#[.int .i64 a1,.int .i64 a2,.int .i64 a3,.int .i64 a4,.int .i64 a5,.int .i64 a6,.slice (some b) n d])] W)∧Sl W (some a) (av gX xs)∧Sl W (some b) (av gX ys)) 12 (.take 0 (.take 1 (.take 2 (.take 3 (.take 4 (.take 5 (.take 6 (.take 7 (.take 8 (.take 9 (.step 10 (.take 11 .done)))))))))))) (by kernel_rfl) (by kernel_rfl) (by simp only [aR.out,Array.getD_eq_getD_getElem?,zAI,zAG,zAF,zAL];rfl) (by simp only [zAN,zAP];rfl) (HST.out) (fun PE hPE=>?_)
   iterate 10
    refine ah (v:=?_) rfl (by rfl) ?_ ?_
    rotate_left
    ·intro _ hSw;(try dsimp only at hSw);obtain ⟨⟨z0,z1⟩,z2,z3⟩:=HC.out _ hSw.2;have z4:=hSw.1.head.cell 6;have z5:=hSw.1.tail.head.cell 6;(try dsimp only at z4 z5);go_simp;(try with_reducible rfl)
    simp only [zAB,zAD,zAC]
   refine aV (f:=196) rfl (by rfl) (by first|(go_simp;done)|(go_simp;rfl)) HSB.out ?_
   rintro e w2 ⟨rfl,hb2⟩
   have HI3:=zAA (HI2.out.trans (hb2.mono HI2.out.size))
   refine ⟨_,rfl,_,fun _ h=>h,⟨HST.out.1.below hb2,HST.out.2.1.below hb2,HST.out.2.2.below hb2⟩,?_⟩
   simp only [zAB,zAD,zAC]
   refine ah (v:=?_) rfl (by rfl) ?_ ?_
   rotate_left
   ·intro _ hSw;(try dsimp only at hSw);go_simp;(try with_reducible rfl)
   simp only [zAB,zAD,zAC]
   refine hPE _ _ ?_
   clear hPE PE
   simp only [zAJ,zAM]
   clear hb2 hz
   cases bb with
   |false=>
    have hr:=HNN.out rfl
    subst hr
    go_wp2_with fail
    refine ⟨rfl,?_⟩
    go_wp2_with fail
    go_ret
    exact ⟨rfl,(by have h:=HB1.out;rw [←HG1.out] at h;exact h.trans (HI3.out.mono h.size))⟩
   |true=>
    have HE:=zAA (HEE.out rfl)
    clear HEE HNN
    go_wp2_with fail
    refine ⟨rfl,?_⟩
    go_wp2_with fail
    go_roundg g
    case measure=>omega
    case rel=>exact ⟨j+1,by have:=HJJ.out;omega,rfl,HE,HI3⟩
end Go.Proofs.YthhijgcfbjcgiaaGreatDoor
