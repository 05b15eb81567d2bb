/- Rd, RdP, RdB, Stp, StpL, RdW, RunG, StpC -/
import Derived.Test.YthhijgcfbjcgiaaGreatDoorS18
import Derived.Test.YthhijgcfbjcgiaaGreatDoorS16
import Derived.Test.YthhijgcfbjcgiaaGreatDoorS28
import Derived.Test.YthhijgcfbjcgiaaGreatDoorS26
import Derived.Deep.DeepCutAuto
namespace Go.Proofs.YthhijgcfbjcgiaaGreatDoor
open Go Go.RowKit
attribute [local go_sem] Oper.semAt_some
open List renaming setIfInBounds_toArray→zAA,set_cons_succ→zAB,set_cons_zero→zAC,getElem?_cons_succ→zAE,getElem?_cons_zero→zAF,getElem?_toArray→zAH,drop_succ_cons→zAI,drop_zero→zAJ,map_cons→zAL,map_nil→zAN
open Go.Lib renaming hid→zAD
open Go.World renaming drew→zAG
open Option renaming getD_some→zAK
open Go.IntKind renaming i64→zAM
open Nat renaming le_refl→zAO
structure aW where
 a:Int
 pt:Bool×Bool×Bool×Bool×Bool
 ad:Int
 kd:Int
 qu:Int
 mx:Int
 my:Int
 pa:Int
 v:Value
 x:Int
 y:Int
def fR (A:Option Addr) (n c:Nat) (s:aW):Array Value:= #[.slice A n c,.int .i64 s.a,.bool s.pt.1,.bool s.pt.2.1,.bool s.pt.2.2.1,.bool s.pt.2.2.2.1,.bool s.pt.2.2.2.2,.int .i64 s.ad,.int .i64 s.kd,.int .i64 s.qu,.int .i64 s.mx,.int .i64 s.my,.int .i64 s.pa,s.v,.int .i64 s.x,.int .i64 s.y]
def kR (k:Int):Bool×Bool×Bool×Bool×Bool:=if gY k then (pI k,pQ k,pV k,pF k,pC k) else (false,false,false,false,false)
theorem I7 (k:Int):kP k=[.bool (kR k).1,.bool (kR k).2.1,.bool (kR k).2.2.1,.bool (kR k).2.2.2.1,.bool (kR k).2.2.2.2]:=by
 unfold kP kR
 split<;>rfl
abbrev fS (g:Nat) (A B:World):Prop:=dD (fun k=>k=g) A B
theorem kG {g:Nat} {w w' w'':World} (h:fS g w w') (hb:Below w'.heap.size w' w''):fS g w w'':=h.trans (dD.of_below hb)
theorem gx {g:Nat} {w w':World} (h:fS g w w'):fS g w w'.drew:=h.trans ⟨rfl,rfl,rfl,zAO _,fun _ _ _=>rfl⟩
theorem cQ {g:Nat} {w w':World} (h:fS g w w') (i:Nat) (v:Value):fS g w (w'.setCell ⟨g,i,none⟩ v):=h.set (.inl rfl) v
set_option maxRecDepth 100000 in
set_option maxHeartbeats 4000000 in
theorem AV (g:Nat) (A:Option Addr) (n c:Nat) (l:List UInt8) (s:aW) (w:World) (hb:ab w g 208 (fR A n c s)) (hA:Sl w A (l.map af)) (hn:l.length=n) (hsz:n≤2 ^ 47) (hi: -9223372036854775808≤s.a∧s.a≤9223372036854775807) (a2:Int) (ha2:zAM.wrap (s.a+(ac aA aM l s.a).2.1)=a2):
  Calls Tryz.prog 224 #[.pointer (some ⟨g,0,none⟩)] w fun e w'=>e= .returned (.int .i64 (ac aA aM l s.a).2.2)∧ab w' g 208 (fR A n c {s with a:=a2,kd:=(ac aA aM l s.a).1,pt:=kR (ac aA aM l s.a).1})∧fS g w w':=by
 obtain ⟨a,⟨t0,t1,t2,t3,t4⟩,ad,kd,qu,mx,my,pa,v,x,y⟩:=s
 dsimp only at hi ha2⊢
 have G:=zAD (fun W hW=>Fs A n c l a W hW hn hsz hi)
 have CO:=zAD (fun W=>nw (ac aA aM l a).1 W)
 rw [I7] at CO
 generalize kR (ac aA aM l a).1=np at*
 obtain ⟨⟨rk,rn,re⟩,hr⟩:∃r,ac aA aM l a=r:=⟨_,rfl⟩
 rw [hr] at G CO ha2⊢
 dsimp only at G CO ha2⊢
 obtain ⟨n0,n1,n2,n3,n4⟩:=np
 dsimp only at CO
 unfold fR at*
 dsimp only at*
 generalize mK rk=oe at CO
 have HB:=zAD hb;have HA:=zAD hA;have HW:=zAD ha2
 have hw:zAM.wrap (a+rn)=a2:=ha2
 have hbd:ab w.drew g 208 _:=hb.drewN 1
 have y0:=hbd.cell 0;have y1:=hbd.cell 1
 have HBd:=zAD hbd
 have HAd:=zAD (show Sl w.drew A (l.map af) from hA)
 clear hb hA hr hi ha2 hbd hn hsz
 go_enter Tryz.func224,Tryz.ntmps224
 go_wp2_with fail
 refine ai (fun w'=>w'.cell? ⟨g,0,none⟩=some (.slice A n c)∧w'.cell? ⟨g,1,none⟩=some (.int .i64 a)) 19 (.take 0 (.take 1 (.take 2 (.take 3 (.take 4 (.take 5 (.take 6 (.take 7 (.take 8 (.step 9 (.take 10 (.take 11 (.take 12 (.take 13 (.take 14 (.take 15 (.take 16 (.step 17 (.step 18 .done))))))))))))))))))) (by kernel_rfl) (by kernel_rfl) (by simp only [aR.out,Array.getD_eq_getD_getElem?,zAH,zAF,zAE,zAK];rfl) (by simp only [zAL,zAN];rfl) (⟨y0,y1⟩) (fun PE hPE=>?_)
 iterate 9
  refine ah (v:=?_) rfl (by rfl) ?_ ?_
  rotate_left
  ·intro _ hSw;(try dsimp only at hSw);obtain ⟨s0,s1⟩:=hSw;go_simp;(try with_reducible rfl)
  simp only [zAA,zAC,zAB]
 refine aV (f:=254) rfl (by rfl) (by first|(go_simp;done)|(go_simp;rfl)) (G.out _ HAd.out) ?_
 rintro e w2 ⟨rfl,hb2⟩
 have hL2:=HBd.out.below hb2 HBd.out.lt
 have HT2:=zAD (kG (gx (dD.refl (fun k=>k=g) w)) hb2)
 refine ⟨_,rfl,_,fun _ h=>h,⟨hL2.cell 0,hL2.cell 1⟩,?_⟩
 simp only [zAA,zAC,zAB]
 iterate 7
  refine ah (v:=?_) rfl (by rfl) ?_ ?_
  rotate_left
  ·intro _ hSw;(try dsimp only at hSw);go_simp;(try with_reducible rfl)
  simp only [zAA,zAC,zAB]
 have k8:=hL2.cell 8;have f8:=hL2.frozen 8
 have hL3:=hL2.set_ 8 (.int .i64 rk)
 refine bG _ (w':=?_) rfl (by rfl) ?_ ?_ ?_
 rotate_left 1
 ·go_simp;(first|(with_reducible rfl)|(constructor<;>with_reducible rfl)|skip)
 ·exact ⟨hL3.cell 0,hL3.cell 1⟩
 refine aw (v:=?_) (w':=?_) rfl (by rfl) ?_ ?_ ?_
 rotate_left 2
 ·go_simp;(try (constructor<;>with_reducible rfl))
 ·exact ⟨hL3.cell 0,hL3.cell 1⟩
 simp only [zAA,zAC,zAB]
 refine hPE _ _ ?_
 clear hPE PE
 simp only [zAI,zAJ]
 have HT3:=zAD (cQ HT2.out 8 (.int .i64 rk))
 have HL3:=zAD hL3
 clear hL2 hL3 hb2 k8 f8 y0 y1 HBd HAd HB HA G
 generalize w2.setCell ⟨g,8,none⟩ (.int .i64 rk)=w3 at HT3 HL3⊢
 have k8:w3.cell? ⟨g,8,none⟩=some (.int .i64 rk):=by rw [HL3.out.cell];rfl
 go_wp2_with fail
 refine ⟨rfl,?_⟩
 go_wp2_with (go_at_call 106;refine (CO.out _).mono ?_;rintro e w4 ⟨rfl,hb4⟩;have HL4:=zAD (HL3.out.below hb4 HL3.out.lt);have HT4:=zAD (kG HT3.out hb4);clear hb4;have c1:w4.cell? ⟨g,1,none⟩=some (.int .i64 a):=(by rw [HL4.out.cell];rfl);have c2:w4.cell? ⟨g,2,none⟩=some (.bool t0):=(by rw [HL4.out.cell];rfl);have c3:w4.cell? ⟨g,3,none⟩=some (.bool t1):=(by rw [HL4.out.cell];rfl);have c4:w4.cell? ⟨g,4,none⟩=some (.bool t2):=(by rw [HL4.out.cell];rfl);have c5:w4.cell? ⟨g,5,none⟩=some (.bool t3):=(by rw [HL4.out.cell];rfl);have c6:w4.cell? ⟨g,6,none⟩=some (.bool t4):=(by rw [HL4.out.cell];rfl);have f1:=HL4.out.frozen 1;have f2:=HL4.out.frozen 2;have f3:=HL4.out.frozen 3;have f4:=HL4.out.frozen 4;have f5:=HL4.out.frozen 5;have f6:=HL4.out.frozen 6)
 go_ret
 have h6:=(((((HL4.out.set_ 2 (.bool n0)).set_ 3 (.bool n1)).set_ 4 (.bool n2)).set_ 5 (.bool n3)).set_ 6 (.bool n4)).set_ 1 (.int .i64 a2)
 simp only [zAA,zAC,zAB] at h6
 exact ⟨rfl,h6,cQ (cQ (cQ (cQ (cQ (cQ HT4.out 2 _) 3 _) 4 _) 5 _) 6 _) 1 _⟩
set_option maxRecDepth 100000 in
set_option maxHeartbeats 4000000 in
theorem Cr (g:Nat) (A:Option Addr) (n c:Nat) (l:List UInt8) (s:aW) (w:World) (hb:ab w g 208 (fR A n c s)) (hT:Ts w) (hA:Sl w A (l.map af)) (hn:l.length=n) (hsz:n≤2 ^ 47) (hi: -9223372036854775808≤s.a∧s.a≤9223372036854775807) (a2:Int) (ha2:zAM.wrap (s.a+(ac bH cf l s.a).2.1)=a2):
  Calls Tryz.prog 227 #[.pointer (some ⟨g,0,none⟩)] w fun e w'=>e= .returned (.int .i64 (ac bH cf l s.a).2.2)∧ab w' g 208 (fR A n c {s with a:=a2,pa:=(ac bH cf l s.a).1})∧fS g w w':=by
 obtain ⟨a,⟨t0,t1,t2,t3,t4⟩,ad,kd,qu,mx,my,pa,v,x,y⟩:=s
 dsimp only at hi ha2⊢
 have G:=zAD (fun W hT hW=>zo A n c l a W hT hW hn hsz hi)
 obtain ⟨⟨rk,rn,re⟩,hr⟩:∃r,ac bH cf l a=r:=⟨_,rfl⟩
 rw [hr] at G ha2⊢
 dsimp only at G ha2⊢
 unfold fR at*
 dsimp only at*
 have HB:=zAD hb;have HA:=zAD hA;have HW:=zAD ha2
 have hw:zAM.wrap (a+rn)=a2:=ha2
 have hbd:ab w.drew g 208 _:=hb.drewN 1
 have y0:=hbd.cell 0;have y1:=hbd.cell 1
 have HBd:=zAD hbd
 have HAd:=zAD (show Sl w.drew A (l.map af) from hA)
 have HTd:=zAD (show Ts w.drew from hT)
 clear hb hA hr hi ha2 hbd hn hsz hT
 go_enter Tryz.func227,Tryz.ntmps227
 go_wp2_with fail
 refine ai (fun w'=>w'.cell? ⟨g,0,none⟩=some (.slice A n c)∧w'.cell? ⟨g,1,none⟩=some (.int .i64 a)) 19 (.take 0 (.take 1 (.take 2 (.take 3 (.take 4 (.take 5 (.take 6 (.take 7 (.take 8 (.step 9 (.take 10 (.take 11 (.take 12 (.take 13 (.take 14 (.take 15 (.take 16 (.step 17 (.step 18 .done))))))))))))))))))) (by kernel_rfl) (by kernel_rfl) (by simp only [aR.out,Array.getD_eq_getD_getElem?,zAH,zAF,zAE,zAK];rfl) (by simp only [zAL,zAN];rfl) (⟨y0,y1⟩) (fun PE hPE=>?_)
 iterate 9
  refine ah (v:=?_) rfl (by rfl) ?_ ?_
  rotate_left
  ·intro _ hSw;(try dsimp only at hSw);obtain ⟨s0,s1⟩:=hSw;go_simp;(try with_reducible rfl)
  simp only [zAA,zAC,zAB]
 refine aV (f:=258) rfl (by rfl) (by first|(go_simp;done)|(go_simp;rfl)) (G.out _ HTd.out HAd.out) ?_
 rintro e w2 ⟨rfl,hb2⟩
 have hL2:=HBd.out.below hb2 HBd.out.lt
 have HT2:=zAD (kG (gx (dD.refl (fun k=>k=g) w)) hb2)
 refine ⟨_,rfl,_,fun _ h=>h,⟨hL2.cell 0,hL2.cell 1⟩,?_⟩
 simp only [zAA,zAC,zAB]
 iterate 7
  refine ah (v:=?_) rfl (by rfl) ?_ ?_
  rotate_left
  ·intro _ hSw;(try dsimp only at hSw);go_simp;(try with_reducible rfl)
  simp only [zAA,zAC,zAB]
 have k8:=hL2.cell 12;have f8:=hL2.frozen 12
 have hL3:=hL2.set_ 12 (.int .i64 rk)
 refine bG _ (w':=?_) rfl (by rfl) ?_ ?_ ?_
 rotate_left 1
 ·go_simp;(first|(with_reducible rfl)|(constructor<;>with_reducible rfl)|skip)
 ·exact ⟨hL3.cell 0,hL3.cell 1⟩
 refine aw (v:=?_) (w':=?_) rfl (by rfl) ?_ ?_ ?_
 rotate_left 2
 ·go_simp;(try (constructor<;>with_reducible rfl))
 ·exact ⟨hL3.cell 0,hL3.cell 1⟩
 simp only [zAA,zAC,zAB]
 refine hPE _ _ ?_
 clear hPE PE
 simp only [zAI,zAJ]
 have HT3:=zAD (cQ HT2.out 12 (.int .i64 rk))
 have HL3:=zAD hL3
 clear hL2 hL3 hb2 k8 f8 y0 y1 HBd HAd HB HA G
 generalize w2.setCell ⟨g,12,none⟩ (.int .i64 rk)=w3 at HT3 HL3⊢
 have c1:w3.cell? ⟨g,1,none⟩=some (.int .i64 a):=by rw [HL3.out.cell];rfl
 have f1:=HL3.out.frozen 1
 go_wp2_with fail
 refine ⟨rfl,?_⟩
 go_wp2_with fail
 go_ret
 exact ⟨rfl,HL3.out.set_ 1 (.int .i64 a2),cQ HT3.out 1 _⟩
set_option maxRecDepth 100000 in
set_option maxHeartbeats 4000000 in
theorem xU (g:Nat) (A:Option Addr) (n c:Nat) (l:List UInt8) (s:aW) (w:World) (hb:ab w g 208 (fR A n c s)) (hA:Sl w A (l.map af)) (q er a2:Int)
  (hR:∀W,Sl W A (l.map af)→Calls Tryz.prog 56 #[.slice A n c,.int .i64 s.a,.int .i64 5] W fun e w'=>e= .returned (.tuple #[.int .i64 q,.int .i64 er])∧W=w') (ha2:zAM.wrap (s.a+5)=a2) (her:er=0∨er=5):
  Calls Tryz.prog 225 #[.pointer (some ⟨g,0,none⟩)] w fun e w'=>e= .returned (.int .i64 (if er==0&&q==0 then 9 else er))∧ab w' g 208 (fR A n c {s with a:=a2,qu:=q})∧fS g w w':=by
 obtain ⟨a,⟨t0,t1,t2,t3,t4⟩,ad,kd,qu,mx,my,pa,v,x,y⟩:=s
 dsimp only at hR ha2⊢
 have G:=zAD hR
 unfold fR at*
 dsimp only at*
 have HB:=zAD hb;have HA:=zAD hA
 have hw:zAM.wrap (a+5)=a2:=ha2
 have hbd:ab w.drew g 208 _:=hb.drewN 1
 have y0:=hbd.cell 0;have y1:=hbd.cell 1
 have HBd:=zAD hbd
 have HAd:=zAD (show Sl w.drew A (l.map af) from hA)
 obtain ⟨RES,hres⟩:∃R:Int,(if er==0&&q==0 then 9 else er)=R:=⟨_,rfl⟩
 rw [hres]
 have HRES:=zAD hres
 clear hb hA hR ha2 hbd hres
 go_enter Tryz.func225,Tryz.ntmps225
 go_wp2_with fail
 refine ai (fun w'=>w'.cell? ⟨g,0,none⟩=some (.slice A n c)∧w'.cell? ⟨g,1,none⟩=some (.int .i64 a)) 17 (.take 0 (.take 1 (.take 2 (.take 3 (.take 4 (.take 5 (.take 6 (.take 7 (.take 8 (.step 9 (.take 10 (.take 11 (.take 12 (.take 13 (.take 14 (.take 15 (.step 16 .done))))))))))))))))) (by kernel_rfl) (by kernel_rfl) (by simp only [aR.out,Array.getD_eq_getD_getElem?,zAH,zAF,zAE,zAK];rfl) (by simp only [zAL,zAN];rfl) (⟨y0,y1⟩) (fun PE hPE=>?_)
 iterate 9
  refine ah (v:=?_) rfl (by rfl) ?_ ?_
  rotate_left
  ·intro _ hSw;(try dsimp only at hSw);obtain ⟨s0,s1⟩:=hSw;go_simp;(try with_reducible rfl)
  simp only [zAA,zAC,zAB]
 refine aV (f:=56) rfl (by rfl) (by first|(go_simp;done)|(go_simp;rfl)) (G.out _ HAd.out) ?_
 rintro e w2 ⟨rfl,rfl⟩
 have hL2:=HBd.out
 have HT2:=zAD (gx (dD.refl (fun k=>k=g) w))
 refine ⟨_,rfl,_,fun _ h=>h,⟨hL2.cell 0,hL2.cell 1⟩,?_⟩
 simp only [zAA,zAC,zAB]
 iterate 6
  refine ah (v:=?_) rfl (by rfl) ?_ ?_
  rotate_left
  ·intro _ hSw;(try dsimp only at hSw);go_simp;(try with_reducible rfl)
  simp only [zAA,zAC,zAB]
 have k8:=HB.out.cell 9;have f8:=HB.out.frozen 9
 have hL3:=hL2.set_ 9 (.int .i64 q)
 refine bG _ (w':=?_) rfl (by rfl) ?_ ?_ ?_
 rotate_left 1
 ·go_simp;(first|(with_reducible rfl)|(constructor<;>with_reducible rfl)|skip)
 ·exact ⟨hL3.cell 0,hL3.cell 1⟩
 refine hPE _ _ ?_
 clear hPE PE
 simp only [zAI,zAJ]
 have hL4:ab (zAG (w.setCell ⟨g,9,none⟩ (.int .i64 q))) g 208 _:=(HB.out.set_ 9 (.int .i64 q)).drewN 1
 have HL4:=zAD hL4
 have HT4:=zAD (gx (cQ (dD.refl (fun k=>k=g) w) 9 (.int .i64 q)))
 clear hL2 hL3 hL4 k8 f8 y0 y1 HBd HAd HA G HB HT2
 generalize zAG (w.setCell ⟨g,9,none⟩ (.int .i64 q))=w3 at HT4 HL4⊢
 have c1:w3.cell? ⟨g,1,none⟩=some (.int .i64 a):=by rw [HL4.out.cell];rfl
 have c9:w3.cell? ⟨g,9,none⟩=some (.int .i64 q):=by rw [HL4.out.cell];rfl
 have f1:=HL4.out.frozen 1
 go_wp2_with fail
 refine ⟨rfl,?_⟩
 rcases her with rfl|rfl
 ·cases hq:(q==0) with
  |true=>
   have hR9:RES=9:=by rw [←HRES.out,hq];rfl
   subst hR9
   go_wp2_with fail
   go_ret
   exact ⟨rfl,HL4.out.set_ 1 (.int .i64 a2),cQ HT4.out 1 _⟩
  |false=>
   have hR9:RES=0:=by rw [←HRES.out,hq];rfl
   subst hR9
   go_wp2_with fail
   go_ret
   exact ⟨rfl,HL4.out.set_ 1 (.int .i64 a2),cQ HT4.out 1 _⟩
 ·have hR9:RES=5:=by rw [←HRES.out];rfl
  subst hR9
  go_wp2_with fail
  go_ret
  exact ⟨rfl,HL4.out.set_ 1 (.int .i64 a2),cQ HT4.out 1 _⟩
set_option maxRecDepth 100000 in
set_option maxHeartbeats 4000000 in
theorem FY (g b0 b1 b2:Nat) (fr:Int) (A:Option Addr) (n c:Nat) (l:List UInt8) (s:aW) (w:World) (hb:ab w g 208 (fR A n c s)) (h0:ab w b0 206 #[.pointer (some ⟨g,0,none⟩)]) (h1:ab w b1 3 #[.int .i64 fr]) (h2:ab w b2 250 #[.pointer (some ⟨g,10,none⟩)])
  (hA:Sl w A (l.map af)) (hn:l.length=n) (hsz:n≤2 ^ 47) (hi: -9223372036854775808≤s.a∧s.a≤9223372036854775807) (hp:aH fr=true) (hd:(ac aj aq l s.a).2.2=0→ -16≤(ac aj aq l s.a).1∧(ac aj aq l s.a).1≤15) (a2:Int) (ha2:zAM.wrap (s.a+(ac aj aq l s.a).2.1)=a2):
  Calls Tryz.prog 255 #[.pointer (some ⟨b0,0,none⟩),.pointer (some ⟨b1,0,none⟩),.pointer (some ⟨b2,0,none⟩)] w fun e w'=>
   ((ac aj aq l s.a).2.2≠0∧e= .returned (.int .i64 (ac aj aq l s.a).2.2)∧ab w' g 208 (fR A n c s)∧fS g w w')∨
   ((ac aj aq l s.a).2.2=0∧e= .returned (.int .i64 (bf fr (ac aj aq l s.a).1).2)∧ab w' g 208 (fR A n c {s with a:=a2,mx:=(bf fr (ac aj aq l s.a).1).1})∧fS g w w'):=by
 obtain ⟨a,⟨t0,t1,t2,t3,t4⟩,ad,kd,qu,mx,my,pa,v,x,y⟩:=s
 dsimp only at hi ha2 hd⊢
 have G:=zAD (fun W hW=>s8 A n c l a W hW hn hsz hi)
 have CT:=zAD (fun h3 W=>qY fr (ac aj aq l a).1 W hp (hd h3).1 (hd h3).2)
 obtain ⟨⟨rk,rn,re⟩,hr⟩:∃r,ac aj aq l a=r:=⟨_,rfl⟩
 rw [hr] at G CT ha2⊢
 dsimp only at G CT ha2⊢
 obtain ⟨⟨tv,te⟩,ht⟩:∃r,bf fr rk=r:=⟨_,rfl⟩
 rw [ht] at CT⊢
 dsimp only at CT⊢
 unfold fR at*
 dsimp only at*
 have hg0:g≠b0:=aS hb h0 (by simp)
 have hg1:g≠b1:=aS hb h1 (by simp)
 have hg2:g≠b2:=aS hb h2 (by simp)
 have hw:zAM.wrap (a+rn)=a2:=ha2
 have hbd:ab w.drew g 208 _:=hb.drewN 1
 have hd0:ab w.drew b0 206 _:=h0.drewN 1
 have hd1:ab w.drew b1 3 _:=h1.drewN 1
 have hd2:ab w.drew b2 250 _:=h2.drewN 1
 have y0:=hbd.cell 0;have y1:=hbd.cell 1;have y2:=hd0.cell 0
 have HBd:=zAD hbd;have HD0:=zAD hd0;have HD1:=zAD hd1;have HD2:=zAD hd2
 have HAd:=zAD (show Sl w.drew A (l.map af) from hA)
 have HG0:=zAD hg0;have HG1:=zAD hg1;have HG2:=zAD hg2
 clear hb hA hr hi ha2 hbd hn hsz hd0 hd1 hd2 h0 h1 h2 hd hp ht hg0 hg1 hg2
 go_enter Tryz.func255,Tryz.ntmps255
 go_wp2_with fail
 refine ai (fun w'=>w'.cell? ⟨g,0,none⟩=some (.slice A n c)∧w'.cell? ⟨g,1,none⟩=some (.int .i64 a)∧w'.cell? ⟨b0,0,none⟩=some (.pointer (some ⟨g,0,none⟩))) 15 (.take 0 (.take 1 (.take 2 (.take 3 (.take 4 (.take 5 (.take 6 (.take 7 (.step 8 (.take 9 (.take 10 (.take 11 (.take 12 (.step 13 (.step 14 .done))))))))))))))) (by kernel_rfl) (by kernel_rfl) (by simp only [aR.out,Array.getD_eq_getD_getElem?,zAH,zAF,zAE,zAK];rfl) (by simp only [zAL,zAN];rfl) (⟨y0,y1,y2⟩) (fun PE hPE=>?_)
 iterate 8
  refine ah (v:=?_) rfl (by rfl) ?_ ?_
  rotate_left
  ·intro _ hSw;(try dsimp only at hSw);obtain ⟨s0,s1,s2⟩:=hSw;go_simp;(try with_reducible rfl)
  simp only [zAA,zAC,zAB]
 refine aV (f:=256) rfl (by rfl) (by first|(go_simp;done)|(go_simp;rfl)) (G.out _ HAd.out) ?_
 rintro e w2 ⟨rfl,hb2⟩
 have hL2:=HBd.out.below hb2 HBd.out.lt
 have hM0:=HD0.out.below hb2 HD0.out.lt
 have hM1:=HD1.out.below hb2 HD1.out.lt
 have hM2:=HD2.out.below hb2 HD2.out.lt
 have HT2:=zAD (kG (gx (dD.refl (fun k=>k=g) w)) hb2)
 refine ⟨_,rfl,_,fun _ h=>h,⟨hL2.cell 0,hL2.cell 1,hM0.cell 0⟩,?_⟩
 simp only [zAA,zAC,zAB]
 iterate 4
  refine ah (v:=?_) rfl (by rfl) ?_ ?_
  rotate_left
  ·intro _ hSw;(try dsimp only at hSw);go_simp;(try with_reducible rfl)
  simp only [zAA,zAC,zAB]
 refine aw (v:=?_) (w':=?_) rfl (by rfl) ?_ ?_ ?_
 rotate_left 2
 ·go_simp;(try (constructor<;>with_reducible rfl))
 ·exact ⟨hL2.cell 0,hL2.cell 1,hM0.cell 0⟩
 simp only [zAA,zAC,zAB]
 refine aw (v:=?_) (w':=?_) rfl (by rfl) ?_ ?_ ?_
 rotate_left 2
 ·go_simp;(try (constructor<;>with_reducible rfl))
 ·exact ⟨hL2.cell 0,hL2.cell 1,hM0.cell 0⟩
 simp only [zAA,zAC,zAB]
 refine hPE _ _ ?_
 clear hPE PE
 simp only [zAI,zAJ]
 have HL2:=zAD hL2;have HM0:=zAD hM0;have HM1:=zAD hM1;have HM2:=zAD hM2
 clear hL2 hM0 hM1 hM2 hb2 y0 y1 y2 HBd HD0 HD1 HD2 HAd G
 go_wp2_with fail
 refine ⟨rfl,?_⟩
 cases he:(re !=0) with
 |true=>
  have hne:re≠0:=by simpa using he
  have HNE:=zAD hne
  clear hne
  go_wp2_with fail
  go_ret
  exact .inl ⟨HNE.out,rfl,HL2.out,HT2.out⟩
 |false=>
  have he0:re=0:=by simpa using he
  subst he0
  have CT:=zAD (CT.out rfl)
  have z2:=HM0.out.cell 0
  have c1:w2.cell? ⟨g,1,none⟩=some (.int .i64 a):=by rw [HL2.out.cell];rfl
  have f1:=HL2.out.frozen 1
  have hL3:=HL2.out.set_ 1 (.int .i64 a2)
  simp only [zAA,zAC,zAB] at hL3
  have hN1:ab (zAG (w2.setCell ⟨g,1,none⟩ (.int .i64 a2))) b1 3 _:=(HM1.out.far (p:=⟨g,1,none⟩) HG1.out.symm (.int .i64 a2)).drewN 1
  have hN2:ab (zAG (w2.setCell ⟨g,1,none⟩ (.int .i64 a2))) b2 250 _:=(HM2.out.far (p:=⟨g,1,none⟩) HG2.out.symm (.int .i64 a2)).drewN 1
  have HL3:=zAD hL3
  have HN1:=zAD hN1;have HN2:=zAD hN2
  have HT3:=zAD (cQ HT2.out 1 (.int .i64 a2))
  have u1:=hN1.cell 0;have u2:=hN2.cell 0
  clear hL3 hN1 hN2
  go_upto_region 5 with fail
  clear z2 c1 f1
  refine ai (fun w'=>w'.cell? ⟨b1,0,none⟩=some (.int .i64 fr)∧w'.cell? ⟨b2,0,none⟩=some (.pointer (some ⟨g,10,none⟩))) 9 (.take 0 (.take 1 (.take 2 (.step 3 (.take 4 (.take 5 (.take 6 (.take 7 (.step 8 .done))))))))) (by kernel_rfl) (by kernel_rfl) (by simp only [aR.out,Array.getD_eq_getD_getElem?,zAH,zAF,zAE,zAK];rfl) (by simp only [zAL,zAN];rfl) (⟨u1,u2⟩) (fun PE hPE=>?_)
  iterate 3
   refine ah (v:=?_) rfl (by rfl) ?_ ?_
   rotate_left
   ·intro _ hSw;(try dsimp only at hSw);obtain ⟨s1,s2⟩:=hSw;go_simp;(try with_reducible rfl)
   simp only [zAA,zAC,zAB]
  refine aV (f:=257) rfl (by rfl) (by first|(go_simp;done)|(go_simp;rfl)) (CT.out _) ?_
  rintro e w4 ⟨rfl,rfl⟩
  refine ⟨_,rfl,_,fun _ h=>h,⟨u1,u2⟩,?_⟩
  simp only [zAA,zAC,zAB]
  iterate 4
   refine ah (v:=?_) rfl (by rfl) ?_ ?_
   rotate_left
   ·intro _ hSw;(try dsimp only at hSw);go_simp;(try with_reducible rfl)
   simp only [zAA,zAC,zAB]
  have kk:=HL3.out.cell 10;have fk:=HL3.out.frozen 10
  have hL4:=HL3.out.set_ 10 (.int .i64 tv)
  simp only [zAA,zAC,zAB] at hL4
  have v1:=(HN1.out.far (p:=⟨g,10,none⟩) HG1.out.symm (.int .i64 tv)).cell 0
  have v2:=(HN2.out.far (p:=⟨g,10,none⟩) HG2.out.symm (.int .i64 tv)).cell 0
  refine bG _ (w':=?_) rfl (by rfl) ?_ ?_ ?_
  rotate_left 1
  ·go_simp;(first|(with_reducible rfl)|(constructor<;>with_reducible rfl)|skip)
  ·exact ⟨v1,v2⟩
  refine hPE _ _ ?_
  clear hPE PE
  simp only [zAI,zAJ]
  have hL5:ab (zAG ((w2.setCell ⟨g,1,none⟩ (.int .i64 a2)).setCell ⟨g,10,none⟩ (.int .i64 tv))) g 208 _:=hL4.drewN 1
  have HT5:=zAD (gx (cQ HT3.out 10 (.int .i64 tv)))
  clear v1 v2 kk fk u1 u2
  go_wp2_with fail
  refine ⟨rfl,?_⟩
  go_wp2_with fail
  go_ret
  exact ⟨rfl,hL5,HT5.out⟩
set_option maxRecDepth 100000 in
set_option maxHeartbeats 4000000 in
theorem FZ (g b0 b1 b2:Nat) (fr:Int) (A:Option Addr) (n c:Nat) (l:List UInt8) (s:aW) (w:World) (hb:ab w g 208 (fR A n c s)) (h0:ab w b0 206 #[.pointer (some ⟨g,0,none⟩)]) (h1:ab w b1 3 #[.int .i64 fr]) (h2:ab w b2 250 #[.pointer (some ⟨g,11,none⟩)])
  (hA:Sl w A (l.map af)) (hn:l.length=n) (hsz:n≤2 ^ 47) (hi: -9223372036854775808≤s.a∧s.a≤9223372036854775807) (hp:aH fr=true) (hd:(ac aj aq l s.a).2.2=0→ -16≤(ac aj aq l s.a).1∧(ac aj aq l s.a).1≤15) (a2:Int) (ha2:zAM.wrap (s.a+(ac aj aq l s.a).2.1)=a2):
  Calls Tryz.prog 255 #[.pointer (some ⟨b0,0,none⟩),.pointer (some ⟨b1,0,none⟩),.pointer (some ⟨b2,0,none⟩)] w fun e w'=>
   ((ac aj aq l s.a).2.2≠0∧e= .returned (.int .i64 (ac aj aq l s.a).2.2)∧ab w' g 208 (fR A n c s)∧fS g w w')∨
   ((ac aj aq l s.a).2.2=0∧e= .returned (.int .i64 (bf fr (ac aj aq l s.a).1).2)∧ab w' g 208 (fR A n c {s with a:=a2,my:=(bf fr (ac aj aq l s.a).1).1})∧fS g w w'):=by
 obtain ⟨a,⟨t0,t1,t2,t3,t4⟩,ad,kd,qu,mx,my,pa,v,x,y⟩:=s
 dsimp only at hi ha2 hd⊢
 have G:=zAD (fun W hW=>s8 A n c l a W hW hn hsz hi)
 have CT:=zAD (fun h3 W=>qY fr (ac aj aq l a).1 W hp (hd h3).1 (hd h3).2)
 obtain ⟨⟨rk,rn,re⟩,hr⟩:∃r,ac aj aq l a=r:=⟨_,rfl⟩
 rw [hr] at G CT ha2⊢
 dsimp only at G CT ha2⊢
 obtain ⟨⟨tv,te⟩,ht⟩:∃r,bf fr rk=r:=⟨_,rfl⟩
 rw [ht] at CT⊢
 dsimp only at CT⊢
 unfold fR at*
 dsimp only at*
 have hg0:g≠b0:=aS hb h0 (by simp)
 have hg1:g≠b1:=aS hb h1 (by simp)
 have hg2:g≠b2:=aS hb h2 (by simp)
 have hw:zAM.wrap (a+rn)=a2:=ha2
 have hbd:ab w.drew g 208 _:=hb.drewN 1
 have hd0:ab w.drew b0 206 _:=h0.drewN 1
 have hd1:ab w.drew b1 3 _:=h1.drewN 1
 have hd2:ab w.drew b2 250 _:=h2.drewN 1
 have y0:=hbd.cell 0;have y1:=hbd.cell 1;have y2:=hd0.cell 0
 have HBd:=zAD hbd;have HD0:=zAD hd0;have HD1:=zAD hd1;have HD2:=zAD hd2
 have HAd:=zAD (show Sl w.drew A (l.map af) from hA)
 have HG0:=zAD hg0;have HG1:=zAD hg1;have HG2:=zAD hg2
 clear hb hA hr hi ha2 hbd hn hsz hd0 hd1 hd2 h0 h1 h2 hd hp ht hg0 hg1 hg2
 go_enter Tryz.func255,Tryz.ntmps255
 go_wp2_with fail
 refine ai (fun w'=>w'.cell? ⟨g,0,none⟩=some (.slice A n c)∧w'.cell? ⟨g,1,none⟩=some (.int .i64 a)∧w'.cell? ⟨b0,0,none⟩=some (.pointer (some ⟨g,0,none⟩))) 15 (.take 0 (.take 1 (.take 2 (.take 3 (.take 4 (.take 5 (.take 6 (.take 7 (.step 8 (.take 9 (.take 10 (.take 11 (.take 12 (.step 13 (.step 14 .done))))))))))))))) (by kernel_rfl) (by kernel_rfl) (by simp only [aR.out,Array.getD_eq_getD_getElem?,zAH,zAF,zAE,zAK];rfl) (by simp only [zAL,zAN];rfl) (⟨y0,y1,y2⟩) (fun PE hPE=>?_)
 iterate 8
  refine ah (v:=?_) rfl (by rfl) ?_ ?_
  rotate_left
  ·intro _ hSw;(try dsimp only at hSw);obtain ⟨s0,s1,s2⟩:=hSw;go_simp;(try with_reducible rfl)
  simp only [zAA,zAC,zAB]
 refine aV (f:=256) rfl (by rfl) (by first|(go_simp;done)|(go_simp;rfl)) (G.out _ HAd.out) ?_
 rintro e w2 ⟨rfl,hb2⟩
 have hL2:=HBd.out.below hb2 HBd.out.lt
 have hM0:=HD0.out.below hb2 HD0.out.lt
 have hM1:=HD1.out.below hb2 HD1.out.lt
 have hM2:=HD2.out.below hb2 HD2.out.lt
 have HT2:=zAD (kG (gx (dD.refl (fun k=>k=g) w)) hb2)
 refine ⟨_,rfl,_,fun _ h=>h,⟨hL2.cell 0,hL2.cell 1,hM0.cell 0⟩,?_⟩
 simp only [zAA,zAC,zAB]
 iterate 4
  refine ah (v:=?_) rfl (by rfl) ?_ ?_
  rotate_left
  ·intro _ hSw;(try dsimp only at hSw);go_simp;(try with_reducible rfl)
  simp only [zAA,zAC,zAB]
 refine aw (v:=?_) (w':=?_) rfl (by rfl) ?_ ?_ ?_
 rotate_left 2
 ·go_simp;(try (constructor<;>with_reducible rfl))
 ·exact ⟨hL2.cell 0,hL2.cell 1,hM0.cell 0⟩
 simp only [zAA,zAC,zAB]
 refine aw (v:=?_) (w':=?_) rfl (by rfl) ?_ ?_ ?_
 rotate_left 2
 ·go_simp;(try (constructor<;>with_reducible rfl))
 ·exact ⟨hL2.cell 0,hL2.cell 1,hM0.cell 0⟩
 simp only [zAA,zAC,zAB]
 refine hPE _ _ ?_
 clear hPE PE
 simp only [zAI,zAJ]
 have HL2:=zAD hL2;have HM0:=zAD hM0;have HM1:=zAD hM1;have HM2:=zAD hM2
 clear hL2 hM0 hM1 hM2 hb2 y0 y1 y2 HBd HD0 HD1 HD2 HAd G
 go_wp2_with fail
 refine ⟨rfl,?_⟩
 cases he:(re !=0) with
 |true=>
  have hne:re≠0:=by simpa using he
  have HNE:=zAD hne
  clear hne
  go_wp2_with fail
  go_ret
  exact .inl ⟨HNE.out,rfl,HL2.out,HT2.out⟩
 |false=>
  have he0:re=0:=by simpa using he
  subst he0
  have CT:=zAD (CT.out rfl)
  have z2:=HM0.out.cell 0
  have c1:w2.cell? ⟨g,1,none⟩=some (.int .i64 a):=by rw [HL2.out.cell];rfl
  have f1:=HL2.out.frozen 1
  have hL3:=HL2.out.set_ 1 (.int .i64 a2)
  simp only [zAA,zAC,zAB] at hL3
  have hN1:ab (zAG (w2.setCell ⟨g,1,none⟩ (.int .i64 a2))) b1 3 _:=(HM1.out.far (p:=⟨g,1,none⟩) HG1.out.symm (.int .i64 a2)).drewN 1
  have hN2:ab (zAG (w2.setCell ⟨g,1,none⟩ (.int .i64 a2))) b2 250 _:=(HM2.out.far (p:=⟨g,1,none⟩) HG2.out.symm (.int .i64 a2)).drewN 1
  have HL3:=zAD hL3
  have HN1:=zAD hN1;have HN2:=zAD hN2
  have HT3:=zAD (cQ HT2.out 1 (.int .i64 a2))
  have u1:=hN1.cell 0;have u2:=hN2.cell 0
  clear hL3 hN1 hN2
  go_upto_region 5 with fail
  clear z2 c1 f1
  refine ai (fun w'=>w'.cell? ⟨b1,0,none⟩=some (.int .i64 fr)∧w'.cell? ⟨b2,0,none⟩=some (.pointer (some ⟨g,11,none⟩))) 9 (.take 0 (.take 1 (.take 2 (.step 3 (.take 4 (.take 5 (.take 6 (.take 7 (.step 8 .done))))))))) (by kernel_rfl) (by kernel_rfl) (by simp only [aR.out,Array.getD_eq_getD_getElem?,zAH,zAF,zAE,zAK];rfl) (by simp only [zAL,zAN];rfl) (⟨u1,u2⟩) (fun PE hPE=>?_)
  iterate 3
   refine ah (v:=?_) rfl (by rfl) ?_ ?_
   rotate_left
   ·intro _ hSw;(try dsimp only at hSw);obtain ⟨s1,s2⟩:=hSw;go_simp;(try with_reducible rfl)
   simp only [zAA,zAC,zAB]
  refine aV (f:=257) rfl (by rfl) (by first|(go_simp;done)|(go_simp;rfl)) (CT.out _) ?_
  rintro e w4 ⟨rfl,rfl⟩
  refine ⟨_,rfl,_,fun _ h=>h,⟨u1,u2⟩,?_⟩
  simp only [zAA,zAC,zAB]
  iterate 4
   refine ah (v:=?_) rfl (by rfl) ?_ ?_
   rotate_left
   ·intro _ hSw;(try dsimp only at hSw);go_simp;(try with_reducible rfl)
   simp only [zAA,zAC,zAB]
  have kk:=HL3.out.cell 11;have fk:=HL3.out.frozen 11
  have hL4:=HL3.out.set_ 11 (.int .i64 tv)
  simp only [zAA,zAC,zAB] at hL4
  have v1:=(HN1.out.far (p:=⟨g,11,none⟩) HG1.out.symm (.int .i64 tv)).cell 0
  have v2:=(HN2.out.far (p:=⟨g,11,none⟩) HG2.out.symm (.int .i64 tv)).cell 0
  refine bG _ (w':=?_) rfl (by rfl) ?_ ?_ ?_
  rotate_left 1
  ·go_simp;(first|(with_reducible rfl)|(constructor<;>with_reducible rfl)|skip)
  ·exact ⟨v1,v2⟩
  refine hPE _ _ ?_
  clear hPE PE
  simp only [zAI,zAJ]
  have hL5:ab (zAG ((w2.setCell ⟨g,1,none⟩ (.int .i64 a2)).setCell ⟨g,11,none⟩ (.int .i64 tv))) g 208 _:=hL4.drewN 1
  have HT5:=zAD (gx (cQ HT3.out 11 (.int .i64 tv)))
  clear v1 v2 kk fk u1 u2
  go_wp2_with fail
  refine ⟨rfl,?_⟩
  go_wp2_with fail
  go_ret
  exact ⟨rfl,hL5,HT5.out⟩
structure Af (w0:World) (g:Nat) (A:Option Addr) (n c:Nat) (s:aW) (xs:List dF) (r:bB×Int×Int) (a2:Int) (w:World) (e:Ending) (w':World):Prop where
 ret:e= .returned (.int .i64 r.2.2)
 ex:∃v A2 c2,ab w' g 208 (fR A n c {s with a:=a2,v:=v})∧w'.ownsRow w0.heap.size 93 2 v (xs.length+1) (av gX (xs++[(r.1,A2,c2)]))∧w'.ownsRow w0.heap.size 189 2 (.slice A2 r.1.l.length c2) r.1.l.length (av bA r.1.l)
 below:Below w0.heap.size w0 w'
 keep:∀(g':Nat) (t:TypeId) (cs:Array Value),ab w g' t cs→t≠93→g'≠g→ab w' g' t cs
 from_:∀B':Nat,KeepsFrom B' w w'
theorem qP {w:World} {base base' e size n:Nat} {v:Value} {xs:List Value} (h:w.ownsRow base e size v n xs) (hb:base'≤base):w.ownsRow base' e size v n xs:=by
 refine ⟨h.1,?_⟩
 rcases h.2 with h1|⟨g,cap,cur,h1,h2,h3⟩
 ·exact .inl h1
 ·exact .inr ⟨g,cap,cur,h1,Nat.le_trans hb h2,h3⟩
theorem tJ {w:World} {base e size n:Nat} {v:Value} {xs:List Value} (h:w.ownsRow base e size v n xs):∃A c,v= .slice A n c∧Sl w A xs:=by
 rcases h.2 with ⟨rfl,rfl⟩|⟨g,cap,cur,rfl,hbg,hh,h1,h2,h3,h4⟩
 ·have:xs=[]:=List.eq_nil_of_length_eq_zero (by simpa using h.1)
  subst this
  exact ⟨none,0,rfl,Sl.nil _ _⟩
 ·refine ⟨_,_,rfl,?_⟩
  have:=(ab.sl (w:=w) (g:=g) (t:=e) (cs:=cur) hh 0).take (n*size)
  rw [zAJ,h4] at this
  exact this
theorem AE:eG Tryz.prog 53 93 2 32:= .mk' (z:= .agg #[.int .i64 0,.slice none 0 0]) (by kernel_rfl) (by kernel_rfl) rfl (by decide) (by decide)
section
variable {P:Program} {t e size bytes:Nat} {w W:World} {L:List aI} {R:List a9} {base n:Nat} {m:Nat} {v:Value} {xs news:List Value} {nb c:Nat}
theorem ve (et:eG P t e size bytes) {dsts:List (Option Tmp)} {E:Act→World→Prop} {S:World→Prop} {r:eP} {tmps:Array Value} {defers:List Deferred} {o:Oper} {d:Nat} {s x:Operand} (hd:o.dst=some d) (hw:bw o dsts tmps=true)
  (ho:o.op= .call {callee:= .builtin .append,args:= #[s,x],argTypes:= #[t,t]}) (hs:Act.eval ⟨tmps,defers⟩ s=v) (hc:ay w L (⟨base,e,size,v,n,xs⟩::R) W) (hx:Act.eval ⟨tmps,defers⟩ x= .slice (some ⟨nb,0,none⟩) m c) (hnb:ab W nb e news.toArray)
  (hl:news.length=m*size) (h1:∀u∈news,u.oneCell'=true) (hb:(n+m)*bytes≤140737488355328) (hbase:w.heap.size≤base∧base≤W.heap.size) (hL:∀p∈L,p.2.1≠e∨p.1<base) (hR:∀r∈R,r.e≠e)
  (h:∀v' W',ay w L (⟨base,e,size,v',n+m,xs++news⟩::R) W'→(∀g t cs,ab W g t cs→t≠e→ab W' g t cs)→W.grownBy W' v.ownBlock→S W'∧co P dsts E r S ⟨tmps.setIfInBounds d v',defers⟩ W'):
  j8 P dsts o (fun a' w'=>∃S':World→Prop,(∀w,S' w→S w)∧S' w'∧co P dsts E r S' a' w') ⟨tmps,defers⟩ W:=by
 obtain ⟨v',w',hrun,h2,h3,h4⟩:=lI et o.type (c:=c) hc.2.2.head hl (by have:=ab.sl hnb 0;simpa using this) h1 hb hbase.2
 obtain ⟨h5,h6⟩:=pj hc h3 h2 hbase.1 hL hR
 obtain ⟨h7,h8⟩:=h v' w' h5 h6 h3
 refine aw (v:=v') (w':=w') hd hw ?_ h7 h8
 unfold execOp
 simp only [ho,resolve,invoke,builtin,Sem.run_bind,Sem.run_pure,Result.andThen_ok,List.map_toArray,zAL,zAN,hs,hx,hrun]
end
set_option maxRecDepth 100000 in
set_option maxHeartbeats 8000000 in
theorem FX (w0:World) (g:Nat) (A:Option Addr) (n c:Nat) (l:List UInt8) (s:aW) (xs:List dF) (w:World) (hB0:Below w0.heap.size w0 w) (hBg:w0.heap.size≤g) (hb:ab w g 208 (fR A n c s)) (hT:Ts w) (hA:Sl w A (l.map af)) (hn:l.length=n) (hsz:n≤2 ^ 47)
  (hrow:w.ownsRow w0.heap.size 93 2 s.v xs.length (av gX xs)) (hx:xs.length≤100) (a2:Int) (ha2:zAM.wrap (s.a+(bd l s.a s.pt.1).2.1)=a2):
  Calls Tryz.prog 228 #[.pointer (some ⟨g,0,none⟩)] w (Af w0 g A n c s xs (bd l s.a s.pt.1) a2 w):=by
 obtain ⟨a,⟨t0,t1,t2,t3,t4⟩,ad,kd,qu,mx,my,pa,v,x,y⟩:=s
 dsimp only at ha2 hrow⊢
 have G:=zAD (fun W hW hT=>Dn A n c l a t0 W hW hn hsz hT)
 obtain ⟨⟨⟨rd,rl⟩,rn,re⟩,hr⟩:∃r,bd l a t0=r:=⟨_,rfl⟩
 rw [hr] at G ha2⊢
 dsimp only at ha2
 have hw:zAM.wrap (a+rn)=a2:=ha2
 obtain ⟨RC,hrc⟩:∃RC,fR A n c ⟨a,(t0,t1,t2,t3,t4),ad,kd,qu,mx,my,pa,v,x,y⟩=RC:=⟨_,rfl⟩
 have hc0:RC[0]? =some (.slice A n c):=by rw [←hrc];rfl
 have hc1:RC[1]? =some (.int .i64 a):=by rw [←hrc];rfl
 have hc2:RC[2]? =some (.bool t0):=by rw [←hrc];rfl
 rw [hrc] at hb
 have hbd:ab w.drew g 208 RC:=hb.drewN 1
 have y0:=hbd.cell 0;have y1:=hbd.cell 1;have y2:=hbd.cell 2
 rw [hc0] at y0
 rw [hc1] at y1
 rw [hc2] at y2
 have HBw:=zAD hb
 have HBd:=zAD hbd;have HRC:=zAD hrc;have HC0:=zAD hc0;have HC1:=zAD hc1;have HC2:=zAD hc2
 have HAd:=zAD (show Sl w.drew A (l.map af) from hA);have HTd:=zAD (show Ts w.drew from hT)
 have HROW:=zAD hrow;have HB0:=zAD hB0;have HBG:=zAD hBg
 have hgl:=hb.lt
 clear hb hA hr ha2 hbd hn hsz hT hrc hc0 hc1 hc2 hrow hB0 hBg
 go_enter Tryz.func228,Tryz.ntmps228
 go_wp2_with fail
 refine ai (fun w'=>w'.cell? ⟨g,0,none⟩=some (.slice A n c)∧w'.cell? ⟨g,1,none⟩=some (.int .i64 a)∧w'.cell? ⟨g,2,none⟩=some (.bool t0)) 21 (.take 0 (.take 1 (.take 2 (.take 3 (.take 4 (.take 5 (.take 6 (.take 7 (.take 8 (.take 9 (.take 10 (.take 11 (.take 12 (.fork 13 (.take 14 (.take 15 (.take 16 (.take 17 (.step 18 (.step 19 (.step 20 (.done)))))))) 18 (.step 13 (.take 14 (.take 15 (.take 16 (.take 17 (.step 19 (.step 20 (.done)))))))))))))))))))))) (by kernel_rfl) (by kernel_rfl) (by simp only [aR.out,Array.getD_eq_getD_getElem?,zAH,zAF,zAE,zAK];rfl) (by simp only [zAL,zAN];rfl) (⟨y0,y1,y2⟩) (fun PE hPE=>?_)
 iterate 13
  refine ah (v:=?_) rfl (by rfl) ?_ ?_
  rotate_left
  ·intro _ hSw;(try dsimp only at hSw);obtain ⟨s0,s1,s2⟩:=hSw;go_simp;(try with_reducible rfl)
  simp only [zAA,zAC,zAB]
 refine ⟨?_,?_⟩
 ·refine aV (f:=259) rfl (by rfl) (by first|(go_simp;done)|(go_simp;rfl)) (G.out _ HAd.out HTd.out) ?_
  rintro e w2 ⟨v2,rfl,hb2,ho2⟩
  obtain ⟨A2,c2,hv2,_⟩:=tJ ho2
  dsimp only at hv2 ho2
  subst hv2
  dsimp only
  have hL2:=HBd.out.below hb2 HBd.out.lt
  refine ⟨_,rfl,_,fun _ h=>h,⟨by rw [hL2.cell,HC0.out],by rw [hL2.cell,HC1.out],by rw [hL2.cell,HC2.out]⟩,?_⟩
  simp only [zAA,zAC,zAB]
  iterate 4
   refine ah (v:=?_) rfl (by rfl) ?_ ?_
   rotate_left
   ·intro _ hSw;(try dsimp only at hSw);go_simp;(try with_reducible rfl)
   simp only [zAA,zAC,zAB]
  obtain ⟨b3,hb3⟩:∃b3,w2.heap.size=b3:=⟨_,rfl⟩
  refine aw (v:=?_) (w':=?_) rfl (by rfl) ?_ ?_ ?_
  rotate_left 2
  ·go_simp;(try (constructor<;>with_reducible rfl))
  ·exact ⟨by rw [(hL2.alloc _).cell,HC0.out],by rw [(hL2.alloc _).cell,HC1.out],by rw [(hL2.alloc _).cell,HC2.out]⟩
  simp only [zAA,zAC,zAB]
  refine bG _ (w':=?_) rfl (by rfl) ?_ ?_ ?_
  rotate_left 1
  ·go_simp;(first|(with_reducible rfl)|(constructor<;>with_reducible rfl)|skip)
  ·exact ⟨by rw [(hL2.alloc _).cell,HC0.out],by rw [(hL2.alloc _).cell,HC1.out],by rw [(hL2.alloc _).cell,HC2.out]⟩
  refine aw (v:=?_) (w':=?_) rfl (by rfl) ?_ ?_ ?_
  rotate_left 2
  ·go_simp;(try (constructor<;>with_reducible rfl))
  ·exact ⟨by rw [(hL2.alloc _).cell,HC0.out],by rw [(hL2.alloc _).cell,HC1.out],by rw [(hL2.alloc _).cell,HC2.out]⟩
  simp only [zAA,zAC,zAB]
  refine hPE _ _ ?_
  clear hPE PE
  simp only [zAI,zAJ]
  go_wp2_with fail
  refine ⟨rfl,?_⟩
  have hbb:Below w0.heap.size w0 w2:=(HB0.out.drew).trans (hb2.mono (by show _≤w.heap.size;exact HB0.out.size))
  have hc5:ay w0 [(b3,93,#[.int .i64 rd,.slice A2 rl.length c2]),(g,208,RC)] [⟨w0.heap.size,93,2,v,xs.length,av gX xs⟩,⟨w0.heap.size,189,2,.slice A2 rl.length c2,rl.length,av bA rl⟩] (w2.alloc (.cells #[.int .i64 rd,.slice A2 rl.length c2] 93)):=
   dO (ao ⟨hbb,aa.cons hL2 (ag _),ap.cons (cG (show (zAG w).ownsRow _ _ _ _ _ _ from HROW.out) hb2 (zAO _)) (ap.cons (qP ho2 HB0.out.size) (aE _))⟩ _) (aD (ab.new _ _ _) hb3)
  have hbw:Below w.heap.size w (w2.alloc (.cells #[.int .i64 rd,.slice A2 rl.length c2] 93)):=(((Below.refl _ w).drew).trans (hb2.mono (by simp))).alloc (by have:=hb2.size;simpa using this) _
  have HB3G:=zAD (show ¬b3=g by have:=hb2.size;simp at this;omega)
  have HB3W:=zAD (show w.heap.size≤b3 by have:=hb2.size;simp at this;omega)
  clear y0 y1 y2 hL2 hbb hb2 ho2 hb3 G
  generalize w2.alloc (.cells #[.int .i64 rd,.slice A2 rl.length c2] 93)=W5 at hc5 hbw⊢
  have q1:W5.cell? ⟨g,1,none⟩=some (.int .i64 a):=by rw [hc5.2.1.tail.head.cell,HC1.out]
  have fq:=hc5.2.1.tail.head.frozen 1
  have HC5:=zAD hc5;have HBW:=zAD hbw
  have hc6:=aT hc5 HBG.out 1 (.int .i64 a2) (g,208,RC) (by simp) rfl (by simp)
  have hne3:¬b3=g:=HB3G.out
  simp [cZ,hne3] at hc6
  have HC6:=zAD hc6
  clear hc5 hbw hc6 hne3
  go_upto_region 3 with fail
  clear q1 fq
  have hc7:=bM HC6.out
  have hv13:(RC.setIfInBounds 1 (.int .i64 a2))[13]? =some v:=by rw [←HRC.out];rfl
  obtain ⟨A9,c9,hv9⟩:=bj HROW.out
  subst hv9
  have z0:=hc7.2.1.head.cell 0;have z1:=hc7.2.1.head.cell 1;have z2:=hc7.2.1.tail.head.cell 13
  rw [hv13] at z2
  have hz3:ab (zAG ((W5.setCell ⟨g,1,none⟩ (.int .i64 a2)).alloc (.cells #[.int .i64 rd,.slice A2 rl.length c2] 93))) b3 93 #[.int .i64 rd,.slice A2 rl.length c2]:=(HC6.out.2.1.head.alloc _).drewN 1
  have hz4:ab (zAG ((W5.setCell ⟨g,1,none⟩ (.int .i64 a2)).alloc (.cells #[.int .i64 rd,.slice A2 rl.length c2] 93))) g 208 (RC.setIfInBounds 1 (.int .i64 a2)):=(HC6.out.2.1.tail.head.alloc _).drewN 1
  have z2':=hz4.cell 13
  rw [hv13] at z2'
  have HZ3:=zAD hz3;have HZ4:=zAD hz4
  have HC7:=zAD hc7
  clear hc7 hv13
  refine ai (fun w'=>w'.cell? ⟨b3,0,none⟩=some (.int .i64 rd)∧w'.cell? ⟨b3,1,none⟩=some (.slice A2 rl.length c2)∧w'.cell? ⟨g,13,none⟩=some (.slice A9 xs.length c9)) 9 (.take 0 (.take 1 (.take 2 (.take 3 (.take 4 (.take 5 (.take 6 (.step 7 (.step 8 .done))))))))) (by kernel_rfl) (by kernel_rfl) (by simp only [aR.out,Array.getD_eq_getD_getElem?,zAH,zAF,zAE,zAK];rfl) (by simp only [zAL,zAN];rfl) (⟨z0,z1,z2⟩) (fun PE hPE=>?_)
  iterate 7
   refine ah (v:=?_) rfl (by rfl) ?_ ?_
   rotate_left
   ·intro _ hSw;(try dsimp only at hSw);obtain ⟨s0,s1,s2⟩:=hSw;go_simp;(try with_reducible rfl)
   simp only [zAA,zAC,zAB]
  refine aw (v:=?_) (w':=?_) rfl (by rfl) ?_ ?_ ?_
  rotate_left 2
  ·go_simp;(try (constructor<;>with_reducible rfl))
  ·exact ⟨hz3.cell 0,hz3.cell 1,z2'⟩
  simp only [zAA,zAC,zAB]
  have hca:ay w0 [(g,208,RC.setIfInBounds 1 (.int .i64 a2))] [⟨w0.heap.size,93,2,.slice A9 xs.length c9,xs.length,av gX xs⟩,⟨w0.heap.size,189,2,.slice A2 rl.length c2,rl.length,av bA rl⟩] (zAG ((W5.setCell ⟨g,1,none⟩ (.int .i64 a2)).alloc (.cells #[.int .i64 rd,.slice A2 rl.length c2] 93))):=bM (ao (ar HC6.out) _)
  have hnb:ab (zAG ((W5.setCell ⟨g,1,none⟩ (.int .i64 a2)).alloc (.cells #[.int .i64 rd,.slice A2 rl.length c2] 93))) W5.heap.size 93 [Value.int .i64 rd,.slice A2 rl.length c2].toArray:=(aD (ab.new _ _ _) (by simp)).drewN 1
  refine ve AE rfl rfl rfl rfl hca rfl hnb (m:=1) (news:=[.int .i64 rd,.slice A2 rl.length c2]) rfl (by intro u hu;simp at hu;rcases hu with rfl|rfl<;>rfl) (by omega) ⟨zAO _,hca.1.size⟩ (by simp) (by simp) (fun v' W7 hc8 hk8 hg8=>⟨?_,?_⟩)
  ·have hlt:b3<(zAG ((W5.setCell ⟨g,1,none⟩ (.int .i64 a2)).alloc (.cells #[.int .i64 rd,.slice A2 rl.length c2] 93))).heap.size:=HZ3.out.lt
   have hb7:ab W7 b3 93 #[.int .i64 rd,.slice A2 rl.length c2]:=(hg8.block b3 hlt (fun e=>by have h1:=(HROW.out.lt b3 e.symm).2;have h2:=HB3W.out;omega)).trans HZ3.out
   refine ⟨hb7.cell 0,hb7.cell 1,?_⟩
   rw [hc8.2.1.head.cell 13]
   exact (HZ4.out.cell 13).symm.trans z2'
  simp only [zAA,zAC,zAB]
  obtain ⟨A10,c10,hv10⟩:=bj hc8.2.2.head
  dsimp only at hv10
  subst hv10
  have k13:=hc8.2.1.head.cell 13;have f13:=hc8.2.1.head.frozen 13
  have e13:(RC.setIfInBounds 1 (.int .i64 a2))[13]? =some (.slice A9 xs.length c9):=by rw [←HRC.out];rfl
  dsimp only at k13
  rw [e13] at k13
  have HC8:=zAD hc8;have HK8:=zAD hk8;have HG8:=zAD hg8
  clear hc8 hk8 hg8 z0 z1 z2 z2' hz3 hz4 hca hnb e13
  refine hPE _ _ ?_
  clear hPE PE
  simp only [zAI,zAJ]
  go_wp2_with fail
  refine ⟨rfl,?_⟩
  go_wp2_with fail
  go_ret
  have hc9:=aT HC8.out HBG.out 13 (.slice A10 (xs.length+1) c10) (g,208,RC.setIfInBounds 1 (.int .i64 a2)) (by simp) rfl (by simp)
  simp [cZ] at hc9
  have hca:=bM (ao (ar HC6.out) (.cells #[.int .i64 rd,.slice A2 rl.length c2] 93))
  refine ⟨rfl,⟨.slice A10 (xs.length+1) c10,A2,c2,?_,?_,?_⟩,hc9.1,fun g' t cs h ht hg'=>?_,fun B'=>?_⟩
  ·have h:=hc9.2.1.head
   rw [←HRC.out] at h
   exact h
  ·have h:=hc9.2.2.head
   rw [im,gG]
   exact h
  ·exact hc9.2.2.tail.head
  ·exact (HK8.out g' t cs (((h.below HBW.out h.lt).far (p:=⟨g,1,none⟩) hg' (.int .i64 a2)).alloc (.cells #[.int .i64 rd,.slice A2 rl.length c2] 93)) ht).far (p:=⟨g,13,none⟩) hg' _
  ·exact ak (di (fb (ce (ak (fO HBW.out) _ _) _)) (ie (KeepsFrom.refl _ _) HG8.out (gw hca.2.2.head))) _ _
 ·obtain ⟨b3,hb3⟩:∃b3,w.heap.size=b3:=⟨_,rfl⟩
  have hL1:ab (zAG (w.alloc (.cells #[.int .i64 0,.slice none 0 0] 93))) g 208 RC:=(HBw.out.alloc _).drewN 1
  refine aw (v:=?_) (w':=?_) rfl (by rfl) ?_ ?_ ?_
  rotate_left 2
  ·go_simp;(try (constructor<;>with_reducible rfl))
  ·exact ⟨by rw [hL1.cell,HC0.out],by rw [hL1.cell,HC1.out],by rw [hL1.cell,HC2.out]⟩
  simp only [zAA,zAC,zAB]
  have hBa:Below w.heap.size w (zAG (w.alloc (.cells #[.int .i64 0,.slice none 0 0] 93))):=((Below.refl _ _).alloc (zAO _) _).drew
  have hsz1:(zAG (w.alloc (.cells #[.int .i64 0,.slice none 0 0] 93))).heap.size=w.heap.size+1:=World.size_alloc _ _
  have hP0:ab (zAG (w.alloc (.cells #[.int .i64 0,.slice none 0 0] 93))) b3 93 #[.int .i64 0,.slice none 0 0]:=(aD (ab.new _ _ _) hb3).drewN 1
  refine aV (f:=259) rfl (by rfl) (by first|(go_simp;done)|(go_simp;rfl)) (G.out _ ((show Sl w A _ from HAd.out).below hBa) ((show Ts w from HTd.out).below hBa)) ?_
  rintro e w2 ⟨v2,rfl,hb2,ho2⟩
  obtain ⟨A2,c2,hv2,_⟩:=tJ ho2
  dsimp only at hv2 ho2
  subst hv2
  dsimp only
  have hL2:=hL1.below hb2 hL1.lt
  have hP2:=hP0.below hb2 hP0.lt
  refine ⟨_,rfl,_,fun _ h=>h,⟨by rw [hL2.cell,HC0.out],by rw [hL2.cell,HC1.out],by rw [hL2.cell,HC2.out]⟩,?_⟩
  simp only [zAA,zAC,zAB]
  iterate 4
   refine ah (v:=?_) rfl (by rfl) ?_ ?_
   rotate_left
   ·intro _ hSw;(try dsimp only at hSw);go_simp;(try with_reducible rfl)
   simp only [zAA,zAC,zAB]
  have hgb3:g≠b3:=by omega
  have hL3:=(hL2.far (p:=⟨b3,0,none⟩) hgb3 (.int .i64 rd)).far (p:=⟨b3,1,none⟩) hgb3 (.slice A2 rl.length c2)
  have k0:=hP2.cell 0;have k1:=hP2.cell 1;have f0:=hP2.frozen 0;have f1:=hP2.frozen 1
  refine bG _ (w':=?_) rfl (by rfl) ?_ ?_ ?_
  rotate_left 1
  ·go_simp;(first|(with_reducible rfl)|(constructor<;>with_reducible rfl)|skip)
  ·exact ⟨by rw [hL3.cell,HC0.out],by rw [hL3.cell,HC1.out],by rw [hL3.cell,HC2.out]⟩
  refine aw (v:=?_) (w':=?_) rfl (by rfl) ?_ ?_ ?_
  rotate_left 2
  ·go_simp;(try (constructor<;>with_reducible rfl))
  ·exact ⟨by rw [hL3.cell,HC0.out],by rw [hL3.cell,HC1.out],by rw [hL3.cell,HC2.out]⟩
  simp only [zAA,zAC,zAB]
  refine hPE _ _ ?_
  clear hPE PE
  simp only [zAI,zAJ]
  go_wp2_with fail
  refine ⟨rfl,?_⟩
  have hbb:Below w0.heap.size w0 w2:=(HB0.out.trans (hBa.mono HB0.out.size)).trans (hb2.mono (by rw [hsz1];have:=HB0.out.size;omega))
  have hro:w2.ownsRow w0.heap.size 93 2 v xs.length (av gX xs):=cG (cG HROW.out hBa (zAO _)) hb2 (zAO _)
  have hvne:v.ownBlock≠some b3:=fun h=>by have h1:=(HROW.out.lt b3 h).2;omega
  have hpne:(Value.slice A2 rl.length c2).ownBlock≠some b3:=fun h=>by have h1:=(ho2.lt b3 h).1;rw [hsz1] at h1;omega
  have hc5:ay w0 [(b3,93,#[.int .i64 rd,.slice A2 rl.length c2]),(g,208,RC)] [⟨w0.heap.size,93,2,v,xs.length,av gX xs⟩,⟨w0.heap.size,189,2,.slice A2 rl.length c2,rl.length,av bA rl⟩] ((w2.setCell ⟨b3,0,none⟩ (.int .i64 rd)).setCell ⟨b3,1,none⟩ (.slice A2 rl.length c2)):=
   ⟨(hbb.setCell (p:=⟨b3,0,none⟩) (by show _≤b3;have:=HB0.out.size;omega) _).setCell (p:=⟨b3,1,none⟩) (by show _≤b3;have:=HB0.out.size;omega) _,aa.cons ((hP2.set_ 0 (.int .i64 rd)).set_ 1 (.slice A2 rl.length c2)) (aa.cons hL3 (ag _)),
    ap.cons (fc (fc hro ⟨b3,0,none⟩ _ hvne) ⟨b3,1,none⟩ _ hvne) (ap.cons (fc (fc (qP ho2 (by rw [hsz1];have:=HB0.out.size;omega)) ⟨b3,0,none⟩ _ hpne) ⟨b3,1,none⟩ _ hpne) (aE _))⟩
  have hbw:Below w.heap.size w ((w2.setCell ⟨b3,0,none⟩ (.int .i64 rd)).setCell ⟨b3,1,none⟩ (.slice A2 rl.length c2)):=(((hBa.trans (hb2.mono (by rw [hsz1];omega))).setCell (p:=⟨b3,0,none⟩) (by show _≤b3;omega) _).setCell (p:=⟨b3,1,none⟩) (by show _≤b3;omega) _)
  have HB3G:=zAD (show ¬b3=g by omega)
  have HB3W:=zAD (show w.heap.size≤b3 by omega)
  clear y0 y1 y2 hL1 hL2 hL3 hbb hb2 ho2 hb3 G hBa hP0 hP2 hgb3 k0 k1 f0 f1 hro hvne hpne hsz1
  generalize (w2.setCell ⟨b3,0,none⟩ (.int .i64 rd)).setCell ⟨b3,1,none⟩ (.slice A2 rl.length c2)=W5 at hc5 hbw⊢
  have q1:W5.cell? ⟨g,1,none⟩=some (.int .i64 a):=by rw [hc5.2.1.tail.head.cell,HC1.out]
  have fq:=hc5.2.1.tail.head.frozen 1
  have HC5:=zAD hc5;have HBW:=zAD hbw
  have hc6:=aT hc5 HBG.out 1 (.int .i64 a2) (g,208,RC) (by simp) rfl (by simp)
  have hne3:¬b3=g:=HB3G.out
  simp [cZ,hne3] at hc6
  have HC6:=zAD hc6
  clear hc5 hbw hc6 hne3
  go_upto_region 3 with fail
  clear q1 fq
  have hc7:=bM HC6.out
  have hv13:(RC.setIfInBounds 1 (.int .i64 a2))[13]? =some v:=by rw [←HRC.out];rfl
  obtain ⟨A9,c9,hv9⟩:=bj HROW.out
  subst hv9
  have z0:=hc7.2.1.head.cell 0;have z1:=hc7.2.1.head.cell 1;have z2:=hc7.2.1.tail.head.cell 13
  rw [hv13] at z2
  have hz3:ab (zAG ((W5.setCell ⟨g,1,none⟩ (.int .i64 a2)).alloc (.cells #[.int .i64 rd,.slice A2 rl.length c2] 93))) b3 93 #[.int .i64 rd,.slice A2 rl.length c2]:=(HC6.out.2.1.head.alloc _).drewN 1
  have hz4:ab (zAG ((W5.setCell ⟨g,1,none⟩ (.int .i64 a2)).alloc (.cells #[.int .i64 rd,.slice A2 rl.length c2] 93))) g 208 (RC.setIfInBounds 1 (.int .i64 a2)):=(HC6.out.2.1.tail.head.alloc _).drewN 1
  have z2':=hz4.cell 13
  rw [hv13] at z2'
  have HZ3:=zAD hz3;have HZ4:=zAD hz4
  have HC7:=zAD hc7
  clear hc7 hv13
  refine ai (fun w'=>w'.cell? ⟨b3,0,none⟩=some (.int .i64 rd)∧w'.cell? ⟨b3,1,none⟩=some (.slice A2 rl.length c2)∧w'.cell? ⟨g,13,none⟩=some (.slice A9 xs.length c9)) 9 (.take 0 (.take 1 (.take 2 (.take 3 (.take 4 (.take 5 (.take 6 (.step 7 (.step 8 .done))))))))) (by kernel_rfl) (by kernel_rfl) (by simp only [aR.out,Array.getD_eq_getD_getElem?,zAH,zAF,zAE,zAK];rfl) (by simp only [zAL,zAN];rfl) (⟨z0,z1,z2⟩) (fun PE hPE=>?_)
  iterate 7
   refine ah (v:=?_) rfl (by rfl) ?_ ?_
   rotate_left
   ·intro _ hSw;(try dsimp only at hSw);obtain ⟨s0,s1,s2⟩:=hSw;go_simp;(try with_reducible rfl)
   simp only [zAA,zAC,zAB]
  refine aw (v:=?_) (w':=?_) rfl (by rfl) ?_ ?_ ?_
  rotate_left 2
  ·go_simp;(try (constructor<;>with_reducible rfl))
  ·exact ⟨hz3.cell 0,hz3.cell 1,z2'⟩
  simp only [zAA,zAC,zAB]
  have hca:ay w0 [(g,208,RC.setIfInBounds 1 (.int .i64 a2))] [⟨w0.heap.size,93,2,.slice A9 xs.length c9,xs.length,av gX xs⟩,⟨w0.heap.size,189,2,.slice A2 rl.length c2,rl.length,av bA rl⟩] (zAG ((W5.setCell ⟨g,1,none⟩ (.int .i64 a2)).alloc (.cells #[.int .i64 rd,.slice A2 rl.length c2] 93))):=bM (ao (ar HC6.out) _)
  have hnb:ab (zAG ((W5.setCell ⟨g,1,none⟩ (.int .i64 a2)).alloc (.cells #[.int .i64 rd,.slice A2 rl.length c2] 93))) W5.heap.size 93 [Value.int .i64 rd,.slice A2 rl.length c2].toArray:=(aD (ab.new _ _ _) (by simp)).drewN 1
  refine ve AE rfl rfl rfl rfl hca rfl hnb (m:=1) (news:=[.int .i64 rd,.slice A2 rl.length c2]) rfl (by intro u hu;simp at hu;rcases hu with rfl|rfl<;>rfl) (by omega) ⟨zAO _,hca.1.size⟩ (by simp) (by simp) (fun v' W7 hc8 hk8 hg8=>⟨?_,?_⟩)
  ·have hlt:b3<(zAG ((W5.setCell ⟨g,1,none⟩ (.int .i64 a2)).alloc (.cells #[.int .i64 rd,.slice A2 rl.length c2] 93))).heap.size:=HZ3.out.lt
   have hb7:ab W7 b3 93 #[.int .i64 rd,.slice A2 rl.length c2]:=(hg8.block b3 hlt (fun e=>by have h1:=(HROW.out.lt b3 e.symm).2;have h2:=HB3W.out;omega)).trans HZ3.out
   refine ⟨hb7.cell 0,hb7.cell 1,?_⟩
   rw [hc8.2.1.head.cell 13]
   exact (HZ4.out.cell 13).symm.trans z2'
  simp only [zAA,zAC,zAB]
  obtain ⟨A10,c10,hv10⟩:=bj hc8.2.2.head
  dsimp only at hv10
  subst hv10
  have k13:=hc8.2.1.head.cell 13;have f13:=hc8.2.1.head.frozen 13
  have e13:(RC.setIfInBounds 1 (.int .i64 a2))[13]? =some (.slice A9 xs.length c9):=by rw [←HRC.out];rfl
  dsimp only at k13
  rw [e13] at k13
  have HC8:=zAD hc8;have HK8:=zAD hk8;have HG8:=zAD hg8
  clear hc8 hk8 hg8 z0 z1 z2 z2' hz3 hz4 hca hnb e13
  refine hPE _ _ ?_
  clear hPE PE
  simp only [zAI,zAJ]
  go_wp2_with fail
  refine ⟨rfl,?_⟩
  go_wp2_with fail
  go_ret
  have hc9:=aT HC8.out HBG.out 13 (.slice A10 (xs.length+1) c10) (g,208,RC.setIfInBounds 1 (.int .i64 a2)) (by simp) rfl (by simp)
  simp [cZ] at hc9
  have hca:=bM (ao (ar HC6.out) (.cells #[.int .i64 rd,.slice A2 rl.length c2] 93))
  refine ⟨rfl,⟨.slice A10 (xs.length+1) c10,A2,c2,?_,?_,?_⟩,hc9.1,fun g' t cs h ht hg'=>?_,fun B'=>?_⟩
  ·have h:=hc9.2.1.head
   rw [←HRC.out] at h
   exact h
  ·have h:=hc9.2.2.head
   rw [im,gG]
   exact h
  ·exact hc9.2.2.tail.head
  ·exact (HK8.out g' t cs (((h.below HBW.out h.lt).far (p:=⟨g,1,none⟩) hg' (.int .i64 a2)).alloc (.cells #[.int .i64 rd,.slice A2 rl.length c2] 93)) ht).far (p:=⟨g,13,none⟩) hg' _
  ·exact ak (di (fb (ce (ak (fO HBW.out) _ _) _)) (ie (KeepsFrom.refl _ _) HG8.out (gw hca.2.2.head))) _ _
end Go.Proofs.YthhijgcfbjcgiaaGreatDoor
namespace Go.Proofs.YthhijgcfbjcgiaaGreatDoor
open Go Go.RowKit
open List renaming replicate→zAA,length_append→zAC,mem_cons_of_mem→zAE,all_eq_true→zAF,length_cons→zAG,append_nil→zAH
open Bool renaming false_eq_true→zAB
open Int renaming le_refl→zAD
open Go.IntKind renaming i64→zAI
open Nat renaming le_refl→zAJ
theorem rm {s:List UInt8}:∀{cs:List (List UInt8)} {ns:List Int} {n k:Int},bK s cs ns=some (n,k)→n∈ns∧0≤k∧k≤s.length
 |[],_,_,_,h=>by simp [bK] at h
 |_::_,[],_,_,h=>by simp [bK] at h
 |c::cs,m::ns,n,k,h=>by
  unfold bK at h
  split at h
  ·rename_i hp
   have hle:=(List.isPrefixOf_iff_prefix.1 hp).length_le
   simp only [Option.some.injEq,Prod.mk.injEq] at h
   obtain ⟨rfl,rfl⟩:=h
   exact ⟨by simp,by omega,by omega⟩
  ·obtain ⟨a,b⟩:=rm h
   exact ⟨zAE _ a,b⟩
theorem gI {cs:List (List UInt8)} {ns:List Int} {l:List UInt8} {i:Int} (h0:0≤i) (h1:i≤8*(l.length:Int)):
  0≤(ac cs ns l i).2.1∧i+(ac cs ns l i).2.1≤8*(l.length:Int)∧((ac cs ns l i).2.2=0→(ac cs ns l i).1∈ns):=by
 unfold ac jL
 rw [if_neg (by omega)]
 have hl:(aC l i.toNat (min 24 (8*l.length - i.toNat))).length≤8*l.length - i.toNat:=by rw [bi];omega
 generalize aC l i.toNat (min 24 (8*l.length - i.toNat))=s at hl
 cases hf:bK s cs ns with
 |some p=>
  obtain ⟨n,k⟩:=p
  obtain ⟨a,b,c⟩:=rm hf
  exact ⟨b,by show i+k≤_;omega,fun _=>a⟩
 |none=>
  dsimp only
  split
  ·exact ⟨by decide,by show i+0≤_;omega,fun h=>by cases h⟩
  ·exact ⟨by decide,by show i+0≤_;omega,fun h=>by cases h⟩
theorem CU:aq.all (fun n=>decide (-16≤n)&&decide (n≤15))=true:=by kernel_rfl
theorem s7 {l:List UInt8} {i:Int} (h0:0≤i) (h1:i≤8*(l.length:Int)) (he:(ac aj aq l i).2.2=0): -16≤(ac aj aq l i).1∧(ac aj aq l i).1≤15:=by
 have h:=zAF.1 CU _ ((gI h0 h1).2.2 he)
 simpa using h
theorem pg (l:List UInt8):∀(f:Nat) (i:Int) (first:Bool) (left:Int),0≤i→i≤8*(l.length:Int)→(bm l f i first left).2.2=0→i≤(bm l f i first left).2.1∧(bm l f i first left).2.1≤8*(l.length:Int)
 |0,i,first,left,h0,h1,h=>by simp [bm] at h
 |f+1,i,first,left,h0,h1,h=>by
  have hok:=nt l i first h0 h1
  unfold mL at hok
  have hu:bm l (f+1) i first left=(if (aL l i first).2.1 then ([],i+(aL l i first).2.2.1,0) else if (aL l i first).2.2.2 !=0 then ([],0,(aL l i first).2.2.2) else
   if left - ((aL l i first).1.1+1)<0 then ([],0,11) else
   ((aL l i first).1::(bm l f (i+(aL l i first).2.2.1) false (left - ((aL l i first).1.1+1))).1,(bm l f (i+(aL l i first).2.2.1) false (left - ((aL l i first).1.1+1))).2.1,(bm l f (i+(aL l i first).2.2.1) false (left - ((aL l i first).1.1+1))).2.2)):=rfl
  rw [hu] at h⊢
  split at h
  ·rename_i he
   rw [if_pos he]
   exact ⟨by show i≤i+_;omega,by show i+_≤_;omega⟩
  ·rename_i he
   rw [if_neg he]
   split at h
   ·rename_i h2
    dsimp only at h
    rw [h] at h2
    cases h2
   ·rename_i h2
    rw [if_neg h2]
    split at h
    ·cases h
    ·rename_i h3
     rw [if_neg h3]
     have ih:=pg l f (i+(aL l i first).2.2.1) false (left - ((aL l i first).1.1+1)) (by omega) (by omega) h
     exact ⟨Int.le_trans (by omega) ih.1,ih.2⟩
theorem Aw {l:List UInt8} {i:Int} {intra:Bool} (h0:0≤i) (h1:i≤8*(l.length:Int)):0≤(bd l i intra).2.1∧i+(bd l i intra).2.1≤8*(l.length:Int):=by
 unfold bd
 rw [if_neg (by omega),if_neg (by omega)]
 cases intra with
 |true=>
  rw [if_pos rfl]
  split
  ·exact ⟨zAD 0,by show i+0≤_;omega⟩
  ·rename_i h8
   dsimp only
   split
   ·exact ⟨zAD 0,by show i+0≤_;omega⟩
   ·split
    ·exact ⟨zAD 0,by show i+0≤_;omega⟩
    ·rename_i hq
     have hq0:(bm l 66 (i+8) false 63).2.2=0:=by simpa using hq
     have h:=pg l 66 (i+8) false 63 (by omega) (by omega) hq0
     exact ⟨by show 0≤_ - i;omega,by show i+(_ - i)≤_;omega⟩
 |false=>
  rw [if_neg (by decide)]
  dsimp only
  split
  ·exact ⟨zAD 0,by show i+0≤_;omega⟩
  ·rename_i hq
   have hq0:(bm l 66 i true 64).2.2=0:=by simpa using hq
   have h:=pg l 66 i true 64 (by omega) (by omega) hq0
   exact ⟨by show 0≤_ - i;omega,by show i+(_ - i)≤_;omega⟩
def au (s:aW) (t:Nat):aW:=if 4≤t∧s.pt.1=true then {s with pa:=63} else s
def aB (l:List UInt8) (s:aW):Nat→(aW×List bB)×Int
 |0=>(({s with a:=s.a+(ac aA aM l s.a).2.1,kd:=(ac aA aM l s.a).1,pt:=kR (ac aA aM l s.a).1},[]),(ac aA aM l s.a).2.2)
 |1=>if 8*(l.length:Int)<s.a+5 then (({s with a:=s.a+5,qu:=0},[]),5) else (({s with a:=s.a+5,qu:=((aF l s.a.toNat 5:Nat):Int)},[]),if ((aF l s.a.toNat 5:Nat):Int)==0 then 9 else 0)
 |2=>if (ac aj aq l s.a).2.2 !=0 then ((s,[]),(ac aj aq l s.a).2.2) else (({s with a:=s.a+(ac aj aq l s.a).2.1,mx:=(bf s.x (ac aj aq l s.a).1).1},[]),(bf s.x (ac aj aq l s.a).1).2)
 |3=>if (ac aj aq l s.a).2.2 !=0 then ((s,[]),(ac aj aq l s.a).2.2) else (({s with a:=s.a+(ac aj aq l s.a).2.1,my:=(bf s.y (ac aj aq l s.a).1).1},[]),(bf s.y (ac aj aq l s.a).1).2)
 |4=>(({s with a:=s.a+(ac bH cf l s.a).2.1,pa:=(ac bH cf l s.a).1},[]),(ac bH cf l s.a).2.2)
 |_=>(({s with a:=s.a+(bd l s.a s.pt.1).2.1},[(bd l s.a s.pt.1).1]),(bd l s.a s.pt.1).2.2)
def eC (s:aW):List Nat:=(if s.pt.2.1 then [1] else [])++(if s.pt.2.2.1 then [2,3] else [])++(if s.pt.2.2.2.2 then [4] else [])
def br (l:List UInt8):List Nat→aW→List bB→(aW×List bB)×Int
 |[],s,bl=>((s,bl),0)
 |t::ts,s,bl=>if (aB l (au s t) t).2 !=0 then (((aB l (au s t) t).1.1,bl++(aB l (au s t) t).1.2),(aB l (au s t) t).2) else br l ts (aB l (au s t) t).1.1 (bl++(aB l (au s t) t).1.2)
theorem cY (l:List UInt8) (t:Nat) (ts:List Nat) (s:aW) (bl:List bB):br l (t::ts) s bl=if (aB l (au s t) t).2 !=0 then (((aB l (au s t) t).1.1,bl++(aB l (au s t) t).1.2),(aB l (au s t) t).2) else br l ts (aB l (au s t) t).1.1 (bl++(aB l (au s t) t).1.2):=rfl
def jw (l:List UInt8) (s:aW):(aW×List bB)×Int:=
 let k:=aB l s 0
 if k.2 !=0 then k else
 let m:=br l (eC k.1.1) k.1.1 []
 if m.2 !=0 then m else
 br l (zAA (cI (au m.1.1 5).pa) 5) m.1.1 m.1.2
theorem sI (l:List UInt8):∀(k:Nat) (s:aW) (bl:List bB),
  (bP l s.pt.1 k s.a).2.2≠0∧(br l (zAA k 5) s bl).2=(bP l s.pt.1 k s.a).2.2∨
  (bP l s.pt.1 k s.a).2.2=0∧(br l (zAA k 5) s bl).2=0∧(br l (zAA k 5) s bl).1.2=bl++(bP l s.pt.1 k s.a).1∧(br l (zAA k 5) s bl).1.1.a=(bP l s.pt.1 k s.a).2.1∧
   (br l (zAA k 5) s bl).1.1.ad=s.ad∧(br l (zAA k 5) s bl).1.1.kd=s.kd∧(br l (zAA k 5) s bl).1.1.qu=s.qu∧(br l (zAA k 5) s bl).1.1.mx=s.mx∧(br l (zAA k 5) s bl).1.1.my=s.my∧(br l (zAA k 5) s bl).1.1.pa=(if k=0 then s.pa else (au s 5).pa)
 |0,s,bl=> .inr ⟨rfl,rfl,by simp [bP,br],rfl,rfl,rfl,rfl,rfl,rfl,rfl⟩
 |k+1,s,bl=>by
  have e:aB l (au s 5) 5=(({au s 5 with a:=s.a+(bd l s.a s.pt.1).2.1},[(bd l s.a s.pt.1).1]),(bd l s.a s.pt.1).2.2):=by
   unfold au
   split<;>rfl
  have eb:bP l s.pt.1 (k+1) s.a=(if (bd l s.a s.pt.1).2.2 !=0 then ([],0,(bd l s.a s.pt.1).2.2) else ((bd l s.a s.pt.1).1::(bP l s.pt.1 k (s.a+(bd l s.a s.pt.1).2.1)).1,(bP l s.pt.1 k (s.a+(bd l s.a s.pt.1).2.1)).2.1,(bP l s.pt.1 k (s.a+(bd l s.a s.pt.1).2.1)).2.2)):=rfl
  rw [List.replicate_succ,cY,e,eb]
  dsimp only
  by_cases hz:(bd l s.a s.pt.1).2.2=0
  ·have hz2:((bd l s.a s.pt.1).2.2 !=0)=false:=by rw [hz];rfl
   rw [hz2,if_neg (by decide),if_neg (by decide)]
   have hpt:({au s 5 with a:=s.a+(bd l s.a s.pt.1).2.1}:aW).pt=s.pt:=by unfold au;split<;>rfl
   have ih:=sI l k {au s 5 with a:=s.a+(bd l s.a s.pt.1).2.1} (bl++[(bd l s.a s.pt.1).1])
   rw [hpt] at ih
   dsimp only at ih
   rcases ih with ⟨h1,h2⟩|⟨h1,h2,h3,h4,h5,h6,h7,h8,h9,h10⟩
   ·exact .inl ⟨h1,h2⟩
   ·refine .inr ⟨h1,h2,by rw [h3];simp,h4,h5.trans (by unfold au;split<;>rfl),h6.trans (by unfold au;split<;>rfl),h7.trans (by unfold au;split<;>rfl),h8.trans (by unfold au;split<;>rfl),h9.trans (by unfold au;split<;>rfl),h10.trans ?_⟩
    rw [if_neg (show ¬(k+1=0) by omega)]
    have e2:(au {au s 5 with a:=s.a+(bd l s.a s.pt.1).2.1} 5).pa=(au s 5).pa:=by
     by_cases hI:s.pt.1=true
     ·simp [au,hI]
     ·simp [au,hI]
    split
    ·rfl
    ·exact e2
  ·have hz2:((bd l s.a s.pt.1).2.2 !=0)=true:=by simpa using hz
   rw [hz2,if_pos rfl,if_pos rfl]
   exact .inl ⟨hz,rfl⟩
theorem ip (l:List UInt8):∀(ts us:List Nat) (s:aW) (bl:List bB),br l (ts++us) s bl=if (br l ts s bl).2 !=0 then br l ts s bl else br l us (br l ts s bl).1.1 (br l ts s bl).1.2
 |[],us,s,bl=>rfl
 |t::ts,us,s,bl=>by
  rw [List.cons_append,cY,cY]
  split
  ·rfl
  ·exact ip l ts us _ _
theorem JL (l:List UInt8) (kd:Int) (s:aW) (hq:s.qu=0):(mq l kd s.a).2.2≠0∧(br l (if pQ kd then [1] else []) s []).2=(mq l kd s.a).2.2∨(mq l kd s.a).2.2=0∧br l (if pQ kd then [1] else []) s []=(({s with a:=(mq l kd s.a).2.1,qu:=(mq l kd s.a).1},[]),0):=by
 unfold mq
 cases hp:pQ kd with
 |false=>
  right
  obtain ⟨a,pt,ad,kd2,qu,mx,my,pa,v,x,y⟩:=s
  dsimp only at hq
  subst hq
  exact ⟨rfl,rfl⟩
 |true=>
  rw [if_pos rfl,if_pos rfl,cY]
  have ha:au s 1=s:=by unfold au;rw [if_neg (by omega)]
  rw [ha]
  by_cases hm:8*(l.length:Int)<s.a+5
  ·have hs:aB l s 1=(({s with a:=s.a+5,qu:=0},[]),5):=if_pos hm
   left
   rw [hs,if_pos hm]
   exact ⟨by decide,rfl⟩
  ·have hs:aB l s 1=(({s with a:=s.a+5,qu:=((aF l s.a.toNat 5:Nat):Int)},[]),if ((aF l s.a.toNat 5:Nat):Int)==0 then 9 else 0):=if_neg hm
   rw [hs,if_neg hm]
   by_cases hz:aF l s.a.toNat 5=0
   ·left
    rw [hz]
    exact ⟨fun h=>absurd (show (9:Int)=0 from h) (by decide),rfl⟩
   ·right
    have h1:(((aF l s.a.toNat 5:Nat):Int)==0)=false:=by simpa using hz
    have h2:(aF l s.a.toNat 5==0)=false:=by simpa using hz
    rw [h1,h2]
    exact ⟨rfl,rfl⟩
theorem JM (l:List UInt8) (kd:Int) (s:aW) (hx:s.mx=0) (hy:s.my=0):(mv l kd s.a s.x s.y).2.2≠0∧(br l (if pV kd then [2,3] else []) s []).2=(mv l kd s.a s.x s.y).2.2∨(mv l kd s.a s.x s.y).2.2=0∧br l (if pV kd then [2,3] else []) s []=(({s with a:=(mv l kd s.a s.x s.y).2.1,mx:=(mv l kd s.a s.x s.y).1.1,my:=(mv l kd s.a s.x s.y).1.2},[]),0):=by
 unfold mv
 cases hp:pV kd with
 |false=>
  right
  obtain ⟨a,pt,ad,kd2,qu,mx,my,pa,v,x,y⟩:=s
  dsimp only at hx hy
  subst hx hy
  exact ⟨rfl,rfl⟩
 |true=>
  rw [if_pos rfl,if_pos rfl,cY]
  have ha:au s 2=s:=by unfold au;rw [if_neg (by omega)]
  rw [ha]
  have e2:dW l s.a s.x=if (ac aj aq l s.a).2.2 !=0 then (0,0,(ac aj aq l s.a).2.2) else ((bf s.x (ac aj aq l s.a).1).1,s.a+(ac aj aq l s.a).2.1,(bf s.x (ac aj aq l s.a).1).2):=rfl
  have s2:aB l s 2=if (ac aj aq l s.a).2.2 !=0 then ((s,[]),(ac aj aq l s.a).2.2) else (({s with a:=s.a+(ac aj aq l s.a).2.1,mx:=(bf s.x (ac aj aq l s.a).1).1},[]),(bf s.x (ac aj aq l s.a).1).2):=rfl
  dsimp only
  rw [e2,s2]
  cases h1:((ac aj aq l s.a).2.2 !=0) with
  |true=>
   left
   rw [if_pos rfl,if_pos rfl]
   dsimp only
   rw [h1,if_pos rfl,if_pos rfl]
   exact ⟨by simpa using h1,rfl⟩
  |false=>
   simp only [zAB,if_false]
   cases h2:((bf s.x (ac aj aq l s.a).1).2 !=0) with
   |true=>
    left
    simp only [if_true]
    exact ⟨by simpa using h2,trivial⟩
   |false=>
    simp only [zAB,if_false]
    rw [cY]
    generalize hs1:({s with a:=s.a+(ac aj aq l s.a).2.1,mx:=(bf s.x (ac aj aq l s.a).1).1}:aW)=s1
    have ha1:au s1 3=s1:=by unfold au;rw [if_neg (by omega)]
    have sa:s1.a=s.a+(ac aj aq l s.a).2.1:=by rw [←hs1]
    have sy:s1.y=s.y:=by rw [←hs1]
    have e3:dW l (s.a+(ac aj aq l s.a).2.1) s.y=if (ac aj aq l s1.a).2.2 !=0 then (0,0,(ac aj aq l s1.a).2.2) else ((bf s1.y (ac aj aq l s1.a).1).1,s1.a+(ac aj aq l s1.a).2.1,(bf s1.y (ac aj aq l s1.a).1).2):=by rw [sa,sy];rfl
    have s3:aB l s1 3=if (ac aj aq l s1.a).2.2 !=0 then ((s1,[]),(ac aj aq l s1.a).2.2) else (({s1 with a:=s1.a+(ac aj aq l s1.a).2.1,my:=(bf s1.y (ac aj aq l s1.a).1).1},[]),(bf s1.y (ac aj aq l s1.a).1).2):=rfl
    rw [ha1,e3,s3]
    cases h3:((ac aj aq l s1.a).2.2 !=0) with
    |true=>
     left
     simp only [if_true,h3]
     exact ⟨by simpa using h3,trivial⟩
    |false=>
     simp only [zAB,if_false]
     cases h4:((bf s1.y (ac aj aq l s1.a).1).2 !=0) with
     |true=>
      left
      simp only [if_true]
      exact ⟨by simpa using h4,trivial⟩
     |false=>
      right
      simp only [zAB,if_false]
      refine ⟨trivial,?_⟩
      rw [←hs1]
      rfl
theorem Ja {k:Int} (h:pC k=true):pI k=false:=by
 unfold pC at h
 unfold pI
 simp only [Bool.or_eq_true,beq_iff_eq] at h
 rcases h with ((((h|h)|h)|h)|h)|h<;>subst h<;>rfl
theorem JK (l:List UInt8) (kd:Int) (s:aW) (hp:s.pt.1=pI kd) (h0:s.pa=0):(mc l kd s.a).2.2≠0∧(br l (if pC kd then [4] else []) s []).2=(mc l kd s.a).2.2∨
  (mc l kd s.a).2.2=0∧∃s',br l (if pC kd then [4] else []) s []=((s',[]),0)∧(au s' 5).pa=(mc l kd s.a).1∧s'={s with a:=(mc l kd s.a).2.1,pa:=s'.pa}∧(pI kd=false→s'.pa=(mc l kd s.a).1):=by
 unfold mc
 cases hc:pC kd with
 |false=>
  right
  simp only [zAB,if_false]
  refine ⟨trivial,s,rfl,?_,rfl,fun h=>by rw [h0,h];rfl⟩
  unfold au
  rw [hp]
  cases hI:pI kd<;>simp [h0]
 |true=>
  have hI:=Ja hc
  rw [hI] at hp
  rw [if_pos rfl,if_pos rfl,cY]
  have ha:au s 4=s:=by unfold au;rw [hp,if_neg (by simp)]
  have s4:aB l s 4=(({s with a:=s.a+(ac bH cf l s.a).2.1,pa:=(ac bH cf l s.a).1},[]),(ac bH cf l s.a).2.2):=rfl
  rw [ha,s4]
  dsimp only
  cases h1:((ac bH cf l s.a).2.2 !=0) with
  |true=>
   left
   simp only [if_true]
   exact ⟨by simpa using h1,trivial⟩
  |false=>
   right
   simp only [zAB,if_false]
   refine ⟨trivial,_,rfl,?_,rfl,fun _=>rfl⟩
   unfold au
   dsimp only
   rw [hp,if_neg (by simp)]
theorem Fr:aM.all gY=true:=by kernel_rfl
theorem FE (s:aW) (kd:Int) (h:s.pt=(pI kd,pQ kd,pV kd,pF kd,pC kd)):eC s=((if pQ kd then [1] else [])++(if pV kd then [2,3] else []))++(if pC kd then [4] else []):=by unfold eC;rw [h]
def sH (i ad:Int) (x:bD) (v:Value):aW:=⟨i,(false,false,false,false,false),ad,0,0,0,0,0,v,(dy ad (ad - x.ad) x.had x.x x.y).1,(dy ad (ad - x.ad) x.had x.x x.y).2⟩
theorem EH {cs:List (List UInt8)} {ns:List Int} {l:List UInt8} {i:Int} (h:(ac cs ns l i).2.2=0):(ac cs ns l i).1∈ns:=by
 unfold ac at h⊢
 split at h
 ·cases h
 ·rename_i hi
  rw [if_neg hi]
  unfold jL at h⊢
  cases hf:bK (aC l i.toNat (min 24 (8*l.length - i.toNat))) cs ns with
  |some p=>obtain ⟨n,k⟩:=p;exact (rm hf).1
  |none=>
   rw [hf] at h
   dsimp only at h
   split at h<;>cases h
theorem FB (l:List UInt8) (i ad:Int) (x:bD) (v:Value) (hi:¬(i<0∨ad<1∨33<ad)) (ha:dm x ad=true):
  ((bR l i ad x).2.2≠0∧bR l i ad x=(m0,0,(jw l (sH i ad x v)).2)∧(jw l (sH i ad x v)).2≠0)∨
  ((jw l (sH i ad x v)).2=0∧∃s bl,(jw l (sH i ad x v)).1=(s,bl)∧bR l i ad x=(⟨ad,s.kd,s.qu,s.mx,s.my,s.pa,bl⟩,s.a - i,0)):=by
 have e0:bR l i ad x=(let pr:=dy ad (ad - x.ad) x.had x.x x.y
   let k:=ac aA aM l i
   if k.2.2 !=0 then (m0,0,k.2.2) else
   let q:=mq l k.1 (i+k.2.1)
   if q.2.2 !=0 then (m0,0,q.2.2) else
   let v:=mv l k.1 q.2.1 pr.1 pr.2
   if v.2.2 !=0 then (m0,0,v.2.2) else
   let c:=mc l k.1 v.2.1
   if c.2.2 !=0 then (m0,0,c.2.2) else
   let b:=bP l (pI k.1) (cI c.1) c.2.1
   if b.2.2 !=0 then (m0,0,b.2.2) else (⟨ad,k.1,q.1,v.1.1,v.1.2,c.1,b.1⟩,b.2.1 - i,0)):=by
  unfold bR
  rw [if_neg hi,ha]
  rfl
 rw [e0]
 unfold jw
 have s0:aB l (sH i ad x v) 0=(({sH i ad x v with a:=i+(ac aA aM l i).2.1,kd:=(ac aA aM l i).1,pt:=kR (ac aA aM l i).1},[]),(ac aA aM l i).2.2):=rfl
 rw [s0]
 dsimp only
 cases hk:((ac aA aM l i).2.2 !=0) with
 |true=>
  left
  simp only [if_true]
  exact ⟨by simpa using hk,trivial,by simpa using hk⟩
 |false=>
  simp only [zAB,if_false]
  have hin:gY (ac aA aM l i).1=true:=zAF.1 Fr _ (EH (by simpa using hk))
  generalize hs1:({sH i ad x v with a:=i+(ac aA aM l i).2.1,kd:=(ac aA aM l i).1,pt:=kR (ac aA aM l i).1}:aW)=s1
  obtain ⟨kd,hkd⟩:∃kd,(ac aA aM l i).1=kd:=⟨_,rfl⟩
  rw [hkd] at hs1 hin⊢
  have hpt:s1.pt=(pI kd,pQ kd,pV kd,pF kd,pC kd):=by rw [←hs1];show kR kd=_;unfold kR;rw [hin,if_pos rfl]
  have f1:s1.a=i+(ac aA aM l i).2.1:=by rw [←hs1]
  have f2:s1.x=(dy ad (ad - x.ad) x.had x.x x.y).1:=by rw [←hs1];rfl
  have f3:s1.y=(dy ad (ad - x.ad) x.had x.x x.y).2:=by rw [←hs1];rfl
  have f4:s1.ad=ad:=by rw [←hs1];rfl
  have f5:s1.kd=kd:=by rw [←hs1]
  have g1:s1.qu=0:=by rw [←hs1];rfl
  have g2:s1.mx=0:=by rw [←hs1];rfl
  have g3:s1.my=0:=by rw [←hs1];rfl
  have g4:s1.pa=0:=by rw [←hs1];rfl
  clear hs1
  rw [FE s1 kd hpt,ip,ip,←f1,←f2,←f3]
  rcases JL l kd s1 g1 with ⟨h1,h2⟩|⟨h1,h2⟩
  ·left
   have h3:((mq l kd s1.a).2.2 !=0)=true:=by simpa using h1
   simp only [h2,h3,if_true]
   exact ⟨h1,trivial,h1⟩
  ·rw [h2]
   have h3:((mq l kd s1.a).2.2 !=0)=false:=by simpa using h1
   simp only [h3,zAB,if_false,bne_self_eq_false]
   generalize hs2:({s1 with a:=(mq l kd s1.a).2.1,qu:=(mq l kd s1.a).1}:aW)=s2
   have p1:(mq l kd s1.a).2.1=s2.a:=by rw [←hs2]
   have p2:(mq l kd s1.a).1=s2.qu:=by rw [←hs2]
   have p3:s1.x=s2.x:=by rw [←hs2]
   have p4:s1.y=s2.y:=by rw [←hs2]
   have p5:s2.pt=(pI kd,pQ kd,pV kd,pF kd,pC kd):=by rw [←hs2];exact hpt
   have p6:s2.mx=0:=by rw [←hs2];exact g2
   have p7:s2.my=0:=by rw [←hs2];exact g3
   have p8:s2.pa=0:=by rw [←hs2];exact g4
   have p9:s2.kd=kd:=by rw [←hs2];exact f5
   rw [p1,p2,p3,p4]
   clear hs2 h1 h2 h3 p1 p2 p3 p4 g1 g2 g3 g4 f1 f2 f3 f4 f5 hpt
   rcases JM l kd s2 p6 p7 with ⟨h1,h2⟩|⟨h1,h2⟩
   ·left
    have h3:((mv l kd s2.a s2.x s2.y).2.2 !=0)=true:=by simpa using h1
    simp only [h2,h3,if_true]
    exact ⟨h1,trivial,h1⟩
   ·rw [h2]
    have h3:((mv l kd s2.a s2.x s2.y).2.2 !=0)=false:=by simpa using h1
    simp only [h3,zAB,if_false,bne_self_eq_false]
    generalize hs3:({s2 with a:=(mv l kd s2.a s2.x s2.y).2.1,mx:=(mv l kd s2.a s2.x s2.y).1.1,my:=(mv l kd s2.a s2.x s2.y).1.2}:aW)=s3
    have r1:(mv l kd s2.a s2.x s2.y).2.1=s3.a:=by rw [←hs3]
    have r2:(mv l kd s2.a s2.x s2.y).1.1=s3.mx:=by rw [←hs3]
    have r3:(mv l kd s2.a s2.x s2.y).1.2=s3.my:=by rw [←hs3]
    have r4:s2.qu=s3.qu:=by rw [←hs3]
    have r5:s3.pt=(pI kd,pQ kd,pV kd,pF kd,pC kd):=by rw [←hs3];exact p5
    have r8:s3.pa=0:=by rw [←hs3];exact p8
    have r9:s3.kd=kd:=by rw [←hs3];exact p9
    rw [r1,r2,r3,r4]
    clear hs3 h1 h2 h3 r1 r2 r3 r4 p5 p6 p7 p8 p9
    rcases JK l kd s3 (by rw [r5]) r8 with ⟨h1,h2⟩|⟨h1,s4,h2,h4,h5,h6⟩
    ·left
     have h3:((mc l kd s3.a).2.2 !=0)=true:=by simpa using h1
     simp only [h2,h3,if_true]
     exact ⟨h1,trivial,h1⟩
    ·rw [h2]
     have h3:((mc l kd s3.a).2.2 !=0)=false:=by simpa using h1
     simp only [h3,zAB,if_false,bne_self_eq_false]
     rw [h4]
     have t1:(mc l kd s3.a).2.1=s4.a:=by rw [h5]
     have t2:s4.pt.1=pI kd:=by rw [h5];show s3.pt.1=_;rw [r5]
     have t3:s4.qu=s3.qu:=by rw [h5]
     have t4:s4.mx=s3.mx:=by rw [h5]
     have t5:s4.my=s3.my:=by rw [h5]
     have t6:s4.kd=kd:=by rw [h5];exact r9
     rw [t1,←t2]
     rcases sI l (cI (mc l kd s3.a).1) s4 [] with ⟨k1,k2⟩|⟨k1,k2,k3,k4,k5,k6,k7,k8,k9,k10⟩
     ·left
      have k3:((bP l s4.pt.1 (cI (mc l kd s3.a).1) s4.a).2.2 !=0)=true:=by simpa using k1
      rw [k3,if_pos rfl,k2]
      exact ⟨k1,rfl,k1⟩
     ·right
      have k11:((bP l s4.pt.1 (cI (mc l kd s3.a).1) s4.a).2.2 !=0)=false:=by simpa using k1
      rw [k11,if_neg (by decide)]
      refine ⟨k2,_,_,rfl,?_⟩
      rw [k3,k4,k6,k7,k8,k9,k10,t3,t4,t5,t6,h4,List.nil_append]
      congr 2
      split
      ·rename_i hz
       cases hI:pI kd with
       |false=>exact (h6 hI).symm
       |true=>
        exfalso
        have hC:pC kd=false:=by
         cases hc:pC kd with
         |false=>rfl
         |true=>rw [Ja hc] at hI;cases hI
        have e63:(mc l kd s3.a).1=63:=by unfold mc;rw [hC,hI];rfl
        rw [e63] at hz
        revert hz
        decide
      ·rfl
structure hH (w0:World) (g:Nat) (A:Option Addr) (n c:Nat) (s:aW) (xs:List dF) (W:World):Prop where
 below:Below w0.heap.size w0 W
 cell:ab W g 208 (fR A n c s)
 row:W.ownsRow w0.heap.size 93 2 s.v xs.length (av gX xs)
 bl:∀p∈xs,W.ownsRow w0.heap.size 189 2 (.slice p.2.1 p.1.l.length p.2.2) p.1.l.length (av bA p.1.l)
theorem l7 {W W':World} {base e size n:Nat} {v:Value} {xs:List Value} (h:W.ownsRow base e size v n xs) (hk:∀(g:Nat) (cs:Array Value),ab W g e cs→ab W' g e cs):W'.ownsRow base e size v n xs:=by
 refine ⟨h.1,?_⟩
 rcases h.2 with h1|⟨g,cap,cur,h1,h2,h3,h4⟩
 ·exact .inl h1
 ·exact .inr ⟨g,cap,cur,h1,h2,hk g cur h3,h4⟩
theorem hH.mono {w0 W W':World} {g:Nat} {A:Option Addr} {n c:Nat} {s:aW} {xs:List dF} (h:hH w0 g A n c s xs W) (hb:Below W.heap.size W W'):hH w0 g A n c s xs W':=
 ⟨h.below.trans (hb.mono h.below.size),h.cell.below hb h.cell.lt,cG h.row hb (zAJ _),fun p hp=>cG (h.bl p hp) hb (zAJ _)⟩
theorem hH.turn {w0 W W':World} {g:Nat} {A:Option Addr} {n c:Nat} {s s':aW} {xs:List dF} (h:hH w0 g A n c s xs W) (hg:w0.heap.size≤g) (ht:fS g W W') (hc:ab W' g 208 (fR A n c s')) (hv:s'.v=s.v):hH w0 g A n c s' xs W':=by
 have hk:∀(e:TypeId),e≠208→∀(g':Nat) (cs:Array Value),ab W g' e cs→ab W' g' e cs:=fun e he g' cs hb=>ht.blk hb (fun hgg=>by subst hgg;exact aS hb h.cell he rfl)
 refine ⟨?_,hc,?_,fun p hp=>l7 (h.bl p hp) (hk _ (by simp))⟩
 ·exact h.below.trans ⟨ht.os,ht.tape,ht.output,ht.size,fun k hk2=>ht.block k (Nat.lt_of_lt_of_le hk2 h.below.size) (by omega)⟩
 ·rw [hv]
  exact l7 h.row (hk _ (by simp))
theorem hH.block {w0 W W':World} {g:Nat} {A:Option Addr} {n c:Nat} {s:aW} {xs:List dF} {r:bB×Int×Int} {a2:Int} {e:Ending} (h:hH w0 g A n c s xs W) (hp:Af w0 g A n c s xs r a2 W e W'):
  ∃v A2 c2,hH w0 g A n c {s with a:=a2,v:=v} (xs++[(r.1,A2,c2)]) W':=by
 obtain ⟨v,A2,c2,h1,h2,h3⟩:=hp.ex
 refine ⟨v,A2,c2,hp.below,h1,by rw [zAC];exact h2,fun p hpm=>?_⟩
 rcases List.mem_append.1 hpm with hpm|hpm
 ·exact l7 (h.bl p hpm) (fun g' cs hb=>hp.keep g' _ cs hb (by simp) (fun hgg=>by subst hgg;exact aS hb h.cell (by simp) rfl))
 ·rw [List.mem_singleton] at hpm
  subst hpm
  exact h3
def dV (l:List UInt8) (s:aW):List Nat:=0::(eC (aB l s 0).1.1++zAA (cI (au (br l (eC (aB l s 0).1.1) (aB l s 0).1.1 []).1.1 5).pa) 5)
theorem uQ (l:List UInt8) (s:aW):jw l s=br l (dV l s) s []:=by
 unfold jw dV
 rw [cY,show au s 0=s by unfold au;rw [if_neg (by omega)]]
 dsimp only
 have h0:(aB l s 0).1.2=[]:=rfl
 rw [h0,zAH]
 split
 ·rw [←h0]
 ·rw [ip]
theorem uV (l:List UInt8) {ts:List Nat} {t:Nat} {s s':aW} {bl bl':List bB} (h:br l ts s bl=((s',bl'),0)):br l (ts++[t]) s bl=(((aB l (au s' t) t).1.1,bl'++(aB l (au s' t) t).1.2),(aB l (au s' t) t).2):=by
 rw [ip,h]
 dsimp only
 rw [if_neg (by decide),cY]
 split
 ·rfl
 ·rename_i he
  have:(aB l (au s' t) t).2=0:=by simpa using he
  rw [this]
  rfl
theorem F7 (l:List UInt8) {ts TL:List Nat} {t:Nat} {s s':aW} {bl bl':List bB} (h:br l ts s bl=((s',bl'),0)) (hp:ts++[t]<+:TL) (he:(aB l (au s' t) t).2≠0):(br l TL s bl).2=(aB l (au s' t) t).2:=by
 obtain ⟨us,rfl⟩:=hp
 rw [ip,uV l h,if_pos (by simpa using he)]
theorem bo (s:aW) (t:Nat):(au s t).a=s.a∧(au s t).x=s.x∧(au s t).y=s.y∧(au s t).pt=s.pt∧(au s t).v=s.v:=by unfold au;split<;>simp
theorem jV (l:List UInt8) (s:aW) (t:Nat):(aB l s t).1.1.x=s.x∧(aB l s t).1.1.y=s.y∧(t≠0→(aB l s t).1.1.pt=s.pt)∧(aB l s t).1.2.length≤1:=by
 unfold aB
 split
 ·simp
 ·split<;>simp
 ·split<;>simp
 ·split<;>simp
 ·simp
 ·simp
theorem Id (l:List UInt8) {s:aW} {t:Nat} (h0:0≤s.a) (h1:s.a≤8*(l.length:Int)) (he:(aB l s t).2=0):0≤(aB l s t).1.1.a∧(aB l s t).1.1.a≤8*(l.length:Int):=by
 match t,he with
 |0,_=>
  have h:=gI (cs:=aA) (ns:=aM) h0 h1
  show 0≤s.a+_∧s.a+_≤_
  omega
 |1,he=>
  by_cases hm:8*(l.length:Int)<s.a+5
  ·have hs:aB l s 1=(({s with a:=s.a+5,qu:=0},[]),5):=if_pos hm
   rw [hs] at he
   cases he
  ·have hs:aB l s 1=(({s with a:=s.a+5,qu:=((aF l s.a.toNat 5:Nat):Int)},[]),if ((aF l s.a.toNat 5:Nat):Int)==0 then 9 else 0):=if_neg hm
   rw [hs]
   show 0≤s.a+5∧s.a+5≤_
   omega
 |2,_=>
  have h:=gI (cs:=aj) (ns:=aq) h0 h1
  show 0≤(if (ac aj aq l s.a).2.2 !=0 then ((s,[]),(ac aj aq l s.a).2.2) else (({s with a:=s.a+(ac aj aq l s.a).2.1,mx:=(bf s.x (ac aj aq l s.a).1).1},([]:List bB)),(bf s.x (ac aj aq l s.a).1).2)).1.1.a∧(if (ac aj aq l s.a).2.2 !=0 then ((s,[]),(ac aj aq l s.a).2.2) else (({s with a:=s.a+(ac aj aq l s.a).2.1,mx:=(bf s.x (ac aj aq l s.a).1).1},([]:List bB)),(bf s.x (ac aj aq l s.a).1).2)).1.1.a≤_
  split
  ·exact ⟨h0,h1⟩
  ·show 0≤s.a+_∧s.a+_≤_
   omega
 |3,_=>
  have h:=gI (cs:=aj) (ns:=aq) h0 h1
  show 0≤(if (ac aj aq l s.a).2.2 !=0 then ((s,[]),(ac aj aq l s.a).2.2) else (({s with a:=s.a+(ac aj aq l s.a).2.1,my:=(bf s.y (ac aj aq l s.a).1).1},([]:List bB)),(bf s.y (ac aj aq l s.a).1).2)).1.1.a∧(if (ac aj aq l s.a).2.2 !=0 then ((s,[]),(ac aj aq l s.a).2.2) else (({s with a:=s.a+(ac aj aq l s.a).2.1,my:=(bf s.y (ac aj aq l s.a).1).1},([]:List bB)),(bf s.y (ac aj aq l s.a).1).2)).1.1.a≤_
  split
  ·exact ⟨h0,h1⟩
  ·show 0≤s.a+_∧s.a+_≤_
   omega
 |4,_=>
  have h:=gI (cs:=bH) (ns:=cf) h0 h1
  show 0≤s.a+_∧s.a+_≤_
  omega
 |_+5,_=>
  have h:=Aw (intra:=s.pt.1) h0 h1
  show 0≤s.a+_∧s.a+_≤_
  omega
theorem rD (l:List UInt8):∀(ts:List Nat) {s s':aW} {bl bl':List bB},br l ts s bl=((s',bl'),0)→0≤s.a→s.a≤8*(l.length:Int)→0≤s'.a∧s'.a≤8*(l.length:Int)∧bl'.length≤bl.length+ts.length∧s'.x=s.x∧s'.y=s.y
 |[],s,s',bl,bl',h,h0,h1=>by
  simp only [br,Prod.mk.injEq,and_true] at h
  obtain ⟨rfl,rfl⟩:=h
  exact ⟨h0,h1,by simp,rfl,rfl⟩
 |t::ts,s,s',bl,bl',h,h0,h1=>by
  rw [cY] at h
  split at h
  ·rename_i he
   rw [(Prod.mk.inj h).2] at he
   cases he
  ·rename_i he
   have he:(aB l (au s t) t).2=0:=by simpa using he
   obtain ⟨k1,k2,k3,_,_⟩:=bo s t
   obtain ⟨b0,b1⟩:=Id l (by rw [k1];exact h0) (by rw [k1];exact h1) he
   obtain ⟨c1,c2,c3,c4⟩:=jV l (au s t) t
   obtain ⟨d1,d2,d3,d4,d5⟩:=rD l ts h b0 b1
   refine ⟨d1,d2,?_,by rw [d4,c1,k2],by rw [d5,c2,k3]⟩
   rw [zAC] at d3
   rw [zAG]
   omega
theorem qv (l:List UInt8):∀(ts:List Nat) {s s':aW} {bl bl':List bB},br l ts s bl=((s',bl'),0)→s'.x=s.x∧s'.y=s.y
 |[],s,s',bl,bl',h=>by
  simp only [br,Prod.mk.injEq,and_true] at h
  obtain ⟨rfl,rfl⟩:=h
  exact ⟨rfl,rfl⟩
 |t::ts,s,s',bl,bl',h=>by
  rw [cY] at h
  split at h
  ·rename_i he
   rw [(Prod.mk.inj h).2] at he
   cases he
  ·obtain ⟨d4,d5⟩:=qv l ts h
   obtain ⟨k1,k2,k3,_,_⟩:=bo s t
   obtain ⟨c1,c2,c3,c4⟩:=jV l (au s t) t
   exact ⟨by rw [d4,c1,k2],by rw [d5,c2,k3]⟩
theorem qt (l:List UInt8):∀(ts:List Nat) {s s':aW} {bl bl':List bB},br l ts s bl=((s',bl'),0)→0 ∉ ts→s'.pt=s.pt
 |[],s,s',bl,bl',h,_=>by
  simp only [br,Prod.mk.injEq,and_true] at h
  obtain ⟨rfl,rfl⟩:=h
  rfl
 |t::ts,s,s',bl,bl',h,hn=>by
  rw [cY] at h
  split at h
  ·rename_i he
   rw [(Prod.mk.inj h).2] at he
   cases he
  ·have:=qt l ts h (fun hm=>hn (zAE _ hm))
   rw [this,(jV l (au s t) t).2.2.1 (fun e=>hn (by rw [e];exact List.mem_cons_self ..)),(bo s t).2.2.2.1]
theorem jx (l:List UInt8) {ts:List Nat} {s s':aW} {bl':List bB} (h:br l (0::ts) s []=((s',bl'),0)):(aB l s 0).2=0∧br l ts (aB l s 0).1.1 []=((s',bl'),0):=by
 rw [cY,show au s 0=s by unfold au;rw [if_neg (by omega)]] at h
 split at h
 ·rename_i he
  rw [(Prod.mk.inj h).2] at he
  cases he
 ·rename_i he
  exact ⟨by simpa using he,h⟩
theorem oC (l:List UInt8) {ts:List Nat} {s s':aW} {bl':List bB} (h:br l (0::ts) s []=((s',bl'),0)) (hn:0 ∉ ts):s'.pt=(aB l s 0).1.1.pt:=qt l ts (jx l h).2 hn
theorem Gi (l:List UInt8) (s:aW):(dV l s).length≤11:=by
 have h:∀p:Int,cI p≤6:=fun p=>by unfold cI;split<;>omega
 have h2:∀q:aW,(eC q).length≤4:=fun q=>by unfold eC;(repeat' split)<;>simp
 have a:=h2 (aB l s 0).1.1
 unfold dV
 rw [zAG,zAC,List.length_replicate]
 have b:=h (au (br l (eC (aB l s 0).1.1) (aB l s 0).1.1 []).1.1 5).pa
 omega
theorem Iq (l:List UInt8) {s s':aW} {bl':List bB} (h:br l (0::eC (aB l s 0).1.1) s []=((s',bl'),0)):dV l s=0::(eC (aB l s 0).1.1++zAA (cI (au s' 5).pa) 5):=by
 unfold dV
 rw [(jx l h).2]
theorem J0 (l:List UInt8) (s:aW):au (aB l (au s 5) 5).1.1 5=(aB l (au s 5) 5).1.1:=by
 have e:(aB l (au s 5) 5).1.1={au s 5 with a:=(au s 5).a+(bd l (au s 5).a (au s 5).pt.1).2.1}:=rfl
 rw [e]
 by_cases hI:s.pt.1=true
 ·have h1:au s 5={s with pa:=63}:=by unfold au;rw [if_pos ⟨by decide,hI⟩]
  rw [h1]
  unfold au
  rw [if_pos ⟨by decide,hI⟩]
 ·have h1:au s 5=s:=by unfold au;rw [if_neg (fun h=>hI h.2)]
  rw [h1]
  unfold au
  rw [if_neg (fun h=>hI h.2)]
theorem uU (l:List UInt8) {ts:List Nat} {s s':aW} {bl bl':List bB} (h:br l (ts++[5]) s bl=((s',bl'),0)):au s' 5=s':=by
 rw [ip] at h
 split at h
 ·rename_i he
  rw [h] at he
  cases he
 ·rw [cY] at h
  split at h
  ·rename_i he
   rw [(Prod.mk.inj h).2] at he
   cases he
  ·have e:=(Prod.mk.inj (Prod.mk.inj h).1).1
   rw [←e]
   exact J0 l _
theorem jH (s:aW) {t:Nat} (h:t<4):au s t=s:=by unfold au;rw [if_neg (by omega)]
theorem IK (s:aW):au s 4=au s 5:=by unfold au;simp
structure iw (w0:World) (g:Nat) (A:Option Addr) (n c:Nat) (l:List UInt8) (s:aW) (xs:List dF) (t:Nat) (W:World) (e:Ending) (W':World):Prop where
 ret:e= .returned (.int .i64 (aB l s t).2)
 ex:∃v xs',hH w0 g A n c {(aB l s t).1.1 with v:=v} xs' W'∧xs'.map (·.1)=xs.map (·.1)++(aB l s t).1.2
 keep:∀(g':Nat) (ty:TypeId) (cs:Array Value),ab W g' ty cs→ty≠93→g'≠g→ab W' g' ty cs
 from_:∀B':Nat,KeepsFrom B' W W'
theorem Ir {g B:Nat} {W W':World} {t:TypeId} {cs:Array Value} (h:fS g W W') (hb:ab W g t cs):KeepsFrom B W W':=
 ⟨h.size,fun k o _ hk ho=>(h.block k (Array.getElem?_eq_some_iff.1 hk).1 (fun e=>by
  subst e
  have h2:W.heap[k]? =some (.cells cs t (0,0)):=hb
  rw [h2] at hk
  cases hk
  cases ho)).trans hk⟩
theorem gH {w0 W W':World} {g:Nat} {A:Option Addr} {n c:Nat} {l:List UInt8} {s:aW} {xs:List dF} {t:Nat} {e:Ending} (h:hH w0 g A n c s xs W) (hg:w0.heap.size≤g) (ht:fS g W W') (he:e= .returned (.int .i64 (aB l s t).2)) (hc:ab W' g 208 (fR A n c (aB l s t).1.1)) (hv:(aB l s t).1.1.v=s.v) (hbl:(aB l s t).1.2=[]):iw w0 g A n c l s xs t W e W':=
 ⟨he,⟨(aB l s t).1.1.v,xs,h.turn hg ht hc hv,by rw [hbl,zAH]⟩,fun g' ty cs hb _ hne=>ht.blk hb hne,fun B'=>Ir ht h.cell⟩
section
variable {w0 W:World} {g:Nat} {A:Option Addr} {n c:Nat} {l:List UInt8} {s:aW} {xs:List dF}
theorem lL {a k:Int} {m:Nat} (h0:0≤a) (hk:0≤k) (h1:a+k≤8*(m:Int)+5) (hm:m≤2 ^ 47):zAI.wrap (a+k)=a+k:=by rw [IntKind.wrap_i64];omega
theorem Ge (h:hH w0 g A n c s xs W) (hg:w0.heap.size≤g) (hA:Sl w0 A (l.map af)) (hn:l.length=n) (hsz:n≤2 ^ 47) (h0:0≤s.a) (h1:s.a≤8*(l.length:Int)):
  Calls Tryz.prog 224 #[.pointer (some ⟨g,0,none⟩)] W (iw w0 g A n c l s xs 0 W):=by
 obtain ⟨a,b,_⟩:=gI (cs:=aA) (ns:=aM) h0 h1
 refine (AV g A n c l s W h.cell (hA.below h.below) hn hsz (by omega) _ (lL (m:=l.length) h0 a (by omega) (by omega))).mono ?_
 rintro e W' ⟨rfl,hc,ht⟩
 exact gH h hg ht rfl hc rfl rfl
theorem EE (h:hH w0 g A n c s xs W) (hg:w0.heap.size≤g) (hA:Sl w0 A (l.map af)) (hn:l.length=n) (hsz:n≤2 ^ 47) (h0:0≤s.a) (h1:s.a≤8*(l.length:Int)):
  Calls Tryz.prog 225 #[.pointer (some ⟨g,0,none⟩)] W (iw w0 g A n c l s xs 1 W):=by
 have hw:zAI.wrap (s.a+5)=s.a+5:=lL (m:=n) h0 (by decide) (by omega) hsz
 by_cases hm:8*(l.length:Int)<s.a+5
 ·have hs:aB l s 1=(({s with a:=s.a+5,qu:=0},[]),5):=if_pos hm
  refine (xU g A n c l s W h.cell (hA.below h.below) 0 5 (s.a+5) (fun W2 _=>(de A n c s.a 5 W2 h0 (by decide) (by decide) (by omega) hsz).mono (fun e w' hh=>hh)) hw (.inr rfl)).mono ?_
  rintro e W' ⟨rfl,hc,ht⟩
  exact gH h hg ht (by rw [hs];rfl) (by rw [hs];exact hc) (by rw [hs]) (by rw [hs])
 ·have hs:aB l s 1=(({s with a:=s.a+5,qu:=((aF l s.a.toNat 5:Nat):Int)},[]),if ((aF l s.a.toNat 5:Nat):Int)==0 then 9 else 0):=if_neg hm
  refine (xU g A n c l s W h.cell (hA.below h.below) ((aF l s.a.toNat 5:Nat):Int) 0 (s.a+5) (fun W2 hW2=>fM _ A n c l s.a 5 W2 rfl hW2 hn h0 (by decide) (by decide) (by omega) hsz) hw (.inl rfl)).mono ?_
  rintro e W' ⟨rfl,hc,ht⟩
  exact gH h hg ht (by rw [hs];rfl) (by rw [hs];exact hc) (by rw [hs]) (by rw [hs])
theorem zB (h:hH w0 g A n c s xs W) (hg:w0.heap.size≤g) (hA:Sl w0 A (l.map af)) (hT:Ts w0) (hn:l.length=n) (hsz:n≤2 ^ 47) (h0:0≤s.a) (h1:s.a≤8*(l.length:Int)):
  Calls Tryz.prog 227 #[.pointer (some ⟨g,0,none⟩)] W (iw w0 g A n c l s xs 4 W):=by
 obtain ⟨a,b,_⟩:=gI (cs:=bH) (ns:=cf) h0 h1
 refine (Cr g A n c l s W h.cell (hT.below h.below) (hA.below h.below) hn hsz (by omega) _ (lL (m:=l.length) h0 a (by omega) (by omega))).mono ?_
 rintro e W' ⟨rfl,hc,ht⟩
 exact gH h hg ht rfl hc rfl rfl
theorem EA (h:hH w0 g A n c s xs W) (hg:w0.heap.size≤g) (hA:Sl w0 A (l.map af)) (hT:Ts w0) (hn:l.length=n) (hsz:n≤2 ^ 47) (h0:0≤s.a) (h1:s.a≤8*(l.length:Int)) (hx:xs.length≤100):
  Calls Tryz.prog 228 #[.pointer (some ⟨g,0,none⟩)] W (iw w0 g A n c l s xs 5 W):=by
 obtain ⟨a,b⟩:=Aw (intra:=s.pt.1) h0 h1
 refine (FX w0 g A n c l s xs W h.below hg h.cell (hT.below h.below) (hA.below h.below) hn hsz h.row hx _ (lL (m:=l.length) h0 a (by omega) (by omega))).mono ?_
 intro e W' hp
 obtain ⟨v,A2,c2,hr⟩:=h.block hp
 exact ⟨hp.ret,⟨v,_,hr,by rw [List.map_append];rfl⟩,hp.keep,hp.from_⟩
theorem EC {b0 b1 b2:Nat} (h:hH w0 g A n c s xs W) (hg:w0.heap.size≤g) (hA:Sl w0 A (l.map af)) (hn:l.length=n) (hsz:n≤2 ^ 47) (h0:0≤s.a) (h1:s.a≤8*(l.length:Int)) (hp:aH s.x=true)
  (k0:ab W b0 206 #[.pointer (some ⟨g,0,none⟩)]) (k1:ab W b1 3 #[.int .i64 s.x]) (k2:ab W b2 250 #[.pointer (some ⟨g,10,none⟩)]):
  Calls Tryz.prog 255 #[.pointer (some ⟨b0,0,none⟩),.pointer (some ⟨b1,0,none⟩),.pointer (some ⟨b2,0,none⟩)] W (iw w0 g A n c l s xs 2 W):=by
 obtain ⟨a,b,_⟩:=gI (cs:=aj) (ns:=aq) h0 h1
 refine (FY g b0 b1 b2 s.x A n c l s W h.cell k0 k1 k2 (hA.below h.below) hn hsz (by omega) hp (fun he=>s7 h0 h1 he) _ (lL (m:=l.length) h0 a (by omega) (by omega))).mono ?_
 rintro e W' (⟨hne,rfl,hc,ht⟩|⟨he,rfl,hc,ht⟩)
 ·have hs:aB l s 2=((s,[]),(ac aj aq l s.a).2.2):=if_pos (by simpa using hne)
  exact gH h hg ht (by rw [hs]) (by rw [hs];exact hc) (by rw [hs]) (by rw [hs])
 ·have hs:aB l s 2=(({s with a:=s.a+(ac aj aq l s.a).2.1,mx:=(bf s.x (ac aj aq l s.a).1).1},[]),(bf s.x (ac aj aq l s.a).1).2):=if_neg (by rw [he];decide)
  exact gH h hg ht (by rw [hs]) (by rw [hs];exact hc) (by rw [hs]) (by rw [hs])
theorem ED {b0 b1 b2:Nat} (h:hH w0 g A n c s xs W) (hg:w0.heap.size≤g) (hA:Sl w0 A (l.map af)) (hn:l.length=n) (hsz:n≤2 ^ 47) (h0:0≤s.a) (h1:s.a≤8*(l.length:Int)) (hp:aH s.y=true)
  (k0:ab W b0 206 #[.pointer (some ⟨g,0,none⟩)]) (k1:ab W b1 3 #[.int .i64 s.y]) (k2:ab W b2 250 #[.pointer (some ⟨g,11,none⟩)]):
  Calls Tryz.prog 255 #[.pointer (some ⟨b0,0,none⟩),.pointer (some ⟨b1,0,none⟩),.pointer (some ⟨b2,0,none⟩)] W (iw w0 g A n c l s xs 3 W):=by
 obtain ⟨a,b,_⟩:=gI (cs:=aj) (ns:=aq) h0 h1
 refine (FZ g b0 b1 b2 s.y A n c l s W h.cell k0 k1 k2 (hA.below h.below) hn hsz (by omega) hp (fun he=>s7 h0 h1 he) _ (lL (m:=l.length) h0 a (by omega) (by omega))).mono ?_
 rintro e W' (⟨hne,rfl,hc,ht⟩|⟨he,rfl,hc,ht⟩)
 ·have hs:aB l s 3=((s,[]),(ac aj aq l s.a).2.2):=if_pos (by simpa using hne)
  exact gH h hg ht (by rw [hs]) (by rw [hs];exact hc) (by rw [hs]) (by rw [hs])
 ·have hs:aB l s 3=(({s with a:=s.a+(ac aj aq l s.a).2.1,my:=(bf s.y (ac aj aq l s.a).1).1},[]),(bf s.y (ac aj aq l s.a).1).2):=if_neg (by rw [he];decide)
  exact gH h hg ht (by rw [hs]) (by rw [hs];exact hc) (by rw [hs]) (by rw [hs])
end
end Go.Proofs.YthhijgcfbjcgiaaGreatDoor
