/- PfxG -/
import Derived.Test.YthhijgcfbjcgiaaGreatDoorS13
import Derived.Test.YthhijgcfbjcgiaaGreatDoorS10
import Derived.Test.YthhijgcfbjcgiaaGreatDoorS14
namespace Go.Proofs.YthhijgcfbjcgiaaGreatDoor
open Go Go.RowKit
attribute [local go_sem] Oper.semAt_some
open Go.Lib renaming hid→zAA
open Nat renaming le_refl→zAB,reduceAdd→zAH,reduceSub→zAW
open List renaming length_append→zAC,setIfInBounds_toArray→zAD,getElem?_cons_succ→zAE,getElem?_cons_zero→zAF,getElem?_toArray→zAG,append_toArray→zAI,drop_succ_cons→zAJ,set_cons_succ→zAK,set_cons_zero→zAL,push_toArray→zAM,size_toArray→zAN,cons_append→zAO,length_cons→zAP,length_nil→zAS,nil_append→zAT,drop_zero→zAU,map_cons→zAV,map_nil→zAX
open Option renaming getD_some→zAQ
open Go.World renaming size_alloc→zAR
theorem zw (s:Value) (i:Int) (w:World) (hs:∃A m c,s= .slice A m c):Calls Tryz.prog 287 #[s,.int .i64 i] w fun e w'=>e= .returned (.func (.func 292) #[] #[.pointer (some ⟨w.heap.size,0,none⟩),.pointer (some ⟨w.heap.size+1,0,none⟩)])∧
  (w.alloc (.cells #[s] 25)).alloc (.cells #[.int .i64 i] 3)=w':=by
 obtain ⟨A,m,c,rfl⟩:=hs
 go_enter Tryz.func287,Tryz.ntmps287
 go_wp2_with fail
 go_ret
 exact ⟨rfl,rfl⟩
def Bq (N:List Nd) (l:List UInt8) (i m:Nat) (R:Int×Int×Int) (pre:List Nat) (k:Nat):Prop:=
 k<N.length∧fI N k (aC l (i+pre.length) (m - pre.length)) (pre.length:Int)=R
def n9 (h T:Nat) (N:List Nd) (A:Option Addr) (n c:Nat) (pre:List Nat) (k:Nat):List aI:=
 [(h,185,#[.pointer (some ⟨T,0,none⟩)]),(h+1,3,#[.int .i64 0]),(h+2,3,#[.int .i64 0]),(h+3,26,#[.int .i64 0]),(h+4,260,(nz (N.getD k bT)).toArray),(h+5,3,#[.int .i64 (pre.length:Int)]),(h+6,25,#[.slice A n c])]
theorem Fl {N:List Nd} {q k m:Nat} {l:List UInt8} {R:Int×Int×Int} {pre:List Nat} (hpl:pre.length<m) (h:fI N q (aC l (k+pre.length) (m - pre.length)) (pre.length:Int)=R) (tt:Nat) (ht:(N.getD q bT).to (cW l (k+pre.length))=tt):
  (tt=0→R=(0,0,7))∧(tt≠0→(N.getD tt bT).leaf=true→R=((N.getD tt bT).num,((pre.length+1:Nat):Int),0))∧(tt≠0→(N.getD tt bT).leaf=false→fI N tt (aC l (k+(pre.length+1)) (m - (pre.length+1))) ((pre.length+1:Nat):Int)=R):=by
 obtain ⟨m',hm'⟩:∃m',m - pre.length=m'+1:=⟨m - pre.length - 1,by omega⟩
 rw [hm',Bu,fI,ht] at h
 refine ⟨fun e=>?_,fun e hl=>?_,fun e hl=>?_⟩
 ·rw [if_pos e] at h;exact h.symm
 ·rw [if_neg e,if_pos hl] at h;exact h.symm
 ·rw [if_neg e,if_neg (by rw [hl];decide)] at h
  rw [show m - (pre.length+1)=m' by omega]
  exact h
theorem uJ (x:Nd) (l:List UInt8) (p:Nat):((nz x).toArray)[aP l p]? =some (.int .i64 ((x.to (cW l p):Nat):Int)):=by
 have:=gT l p
 unfold Nd.to cW
 by_cases h:aP l p=0
 ·rw [if_pos h,h];rfl
 ·have h1:aP l p=1:=by omega
  rw [if_neg h,h1];rfl
set_option maxRecDepth 100000 in
set_option maxHeartbeats 4000000 in
theorem Cm (w:World) (base T:Nat) (N:List Nd) (D:DataW Value) (many:Nat) (h:ej w base T N D many) (hm:many≠0) (hwf:Bn N=true) (hN:0<N.length) (A:Option Addr) (n c:Nat) (l:List UInt8) (i:Int) (hA:Sl w A (l.map af)) (hn:l.length=n) (hsz:n≤2 ^ 47) (hi: -9223372036854775808≤i∧i≤9223372036854775807):
  Calls Tryz.prog 275 #[.pointer (some ⟨T,0,none⟩),.slice A n c,.int .i64 i] w fun e w'=>e= .returned (.tuple #[.int .i64 (if i<0 then ((0,0,3):Int×Int×Int) else fI N 0 (aC l i.toNat (8*n - i.toNat)) 0).1,.int .i64 (if i<0 then ((0,0,3):Int×Int×Int) else fI N 0 (aC l i.toNat (8*n - i.toNat)) 0).2.1,.int .i64 (if i<0 then ((0,0,3):Int×Int×Int) else fI N 0 (aC l i.toNat (8*n - i.toNat)) 0).2.2])∧Below w.heap.size w w':=by
 have HN:=zAA (fun (W:World) (hb:Below w.heap.size w W)=>qQ W base T N D many (h.later hb) hm)
 by_cases h1:i<0
 ·have e1:decide (i<0)=true:=by simpa using h1
  rw [if_pos h1]
  clear h hN
  refine (callsIn_wide (n:=5)).1 ?_
  refine callsIn_of_wp_marks Tryz.func275 rfl trivial ?_ rfl
  simp only [Tryz.ntmps275,zAN,zAP,zAS,zAH,zAW,Array.replicate_succ,Array.replicate_zero,zAM,zAI,zAT,zAO]
  refine wpIn_wide.2 ?_
  go_wp2_with (go_at_call 202;refine (HN.out _ ((((Below.refl _ _).alloc (zAB _) _).alloc (by simp) _ |>.alloc (by simp;omega) _).alloc (by simp;omega) _)).mono ?_;rintro e w' ⟨rfl,rfl⟩)
  refine il (v:= .tuple #[.int .i64 0,.int .i64 0,.int .i64 3]) (by simp [results,Tryz.results275,go_sem]) ?_
  refine ⟨rfl,?_⟩
  exact (((((Below.refl _ _).alloc (zAB _) _).alloc (by simp) _).alloc (by simp;omega) _).alloc (by simp;omega) _)
 have e1:decide (i<0)=false:=by simpa using h1
 rw [if_neg h1]
 obtain ⟨k,rfl⟩:=Int.eq_ofNat_of_zero_le (by omega:0≤i)
 rw [Int.toNat_natCast]
 generalize hR:fI N 0 (aC l k (8*n - k)) 0=R
 have hb4:Below w.heap.size w ((((w.alloc (.cells #[.pointer (some ⟨T,0,none⟩)] 185)).alloc (.cells #[.int .i64 0] 3)).alloc (.cells #[.int .i64 0] 3)).alloc (.cells #[.int .i64 0] 26)):=
  ((((Below.refl _ _).alloc (zAB _) _).alloc (by simp) _).alloc (by simp;omega) _).alloc (by simp;omega) _
 obtain ⟨gb,cap,mb,hbg,hlt,hc1,hc2,hP,hBt,hRow,hMap,hbm,hbT⟩:=mX (h.later hb4) hN
 obtain ⟨c0,c1,c2,n0,n1,n2,n3⟩:=hP
 simp only [Nat.zero_mul,Nat.zero_add] at n0 n1 n2 n3
 rw [←kD hN] at n0 n1 n2 n3
 have HT:=zAA h;have HA:=zAA hA;have HR:=zAA hR;have Hn:=zAA hn;have HWF:=zAA hwf;have HB:=zAA hBt;have HL:=zAA hN
 have Cf:=zAA (fun W=>zw (.slice A n c) (k:Int) W ⟨_,_,_,rfl⟩)
 have hNl:(0:Int)<(N.length:Int):=by omega
 clear h hA hR hn hwf hBt hRow hMap hN hb4
 refine (callsIn_wide (n:=5)).1 ?_
 refine callsIn_of_wp_marks Tryz.func275 rfl trivial ?_ rfl
 simp only [Tryz.ntmps275,zAN,zAP,zAS,zAH,zAW,Array.replicate_succ,Array.replicate_zero,zAM,zAI,zAT,zAO]
 refine wpIn_wide.2 ?_
 go_wp2_with (first
  |(go_at_call 202;refine (HN.out _ ((((Below.refl _ _).alloc (zAB _) _).alloc (by simp) _ |>.alloc (by simp;omega) _).alloc (by simp;omega) _)).mono ?_;rintro e w' ⟨rfl,rfl⟩)
  |(go_at_call 287;refine (Cf.out _).mono ?_;rintro e w' ⟨rfl,rfl⟩))
 obtain ⟨h,hh⟩:∃h,h=w.heap.size:=⟨_,rfl⟩
 simp only [Nat.add_assoc,zAH]
 refine (wpIn_wide (n:=5)).1 ?_
 refine tb (α:=Nat) (enc:=fun x=> #[.int .i64 x]) (I:=fun pre W=>(∃q,Bq N l k (8*n - k) R pre q∧ay w (n9 w.heap.size T N A n c pre q) [] W)∧ab W (w.heap.size+7) 3 #[.int .i64 ((k+pre.length:Nat):Int)])
  (I2:=fun pre W=>(∃q,Bq N l k (8*n - k) R pre q∧ay w (n9 w.heap.size T N A n c pre q) [] W)∧ab W (w.heap.size+7) 3 #[.int .i64 ((k+pre.length - 1:Nat):Int)]) (S:=fun xs=>xs=fp l k (8*n - k)) (Sp:=fun pre=>pre<+:fp l k (8*n - k))
  rfl (by decide) (gf:=292) (lb:= #[.pointer (some ⟨w.heap.size+6,0,none⟩),.pointer (some ⟨w.heap.size+7,0,none⟩)]) rfl trivial (enters_of Tryz.func292 (by kernel_rfl) rfl)
  (Fj 4 (by decide) (w.heap.size+6) (w.heap.size+7) A n c l k Hn.out hsz (fun pre W=>∃q,Bq N l k (8*n - k) R pre q∧ay w (n9 w.heap.size T N A n c pre q) [] W) ?hC ?hCs) (fun _=>rfl)
  (fun cd pre W=>mY w [(w.heap.size+1,3,#[.int .i64 R.1]),(w.heap.size+2,3,#[.int .i64 R.2.1]),(w.heap.size+3,26,#[.int .i64 R.2.2])] cd W)
  (fun pre x _ W=>(∃q,Bq N l k (8*n - k) R pre q∧ay w (n9 w.heap.size T N A n c pre q) [] W)∧ab W (w.heap.size+7) 3 #[.int .i64 ((k+pre.length:Nat):Int)])
  ((ow (by simp;omega) _ _ _).and (bp _ _ _)) ((ow (by simp;omega) _ _ _).and (bp _ _ _)) (fun cd=>ik (by simp;omega) _ _) (fun x kk=>(ow (by simp;omega) _ _ _).and (bp _ _ _)) ?start ?round ?done ?stop
 case hC=>
  rintro pre W v ⟨q,hq,hb,hc,_⟩
  exact ⟨q,hq,hb.setCell (p:=⟨w.heap.size+7,0,none⟩) (by show w.heap.size≤_;simp) _,hc.far (p:=⟨w.heap.size+7,0,none⟩) (by unfold n9;simp) _,aE _⟩
 case hCs=>
  rintro pre W ⟨q,hq,hb,hc,_⟩
  exact ⟨hc.tail.tail.tail.tail.tail.tail.head,HA.out.below hb⟩
 case start=>
  refine ⟨⟨0,⟨HL.out,?_⟩,?_,?_,aE _⟩,?_⟩
  ·simpa using HR.out
  ·exact (((((((((Below.refl _ _).alloc (zAB _) _).alloc (by simp) _).alloc (by simp;omega) _).alloc (by simp;omega) _).alloc (by simp;omega) _).alloc (by simp;omega) _).alloc (by simp;omega) _).alloc (by simp;omega) _)
  ·unfold n9
   refine aa.cons ?_ (aa.cons ?_ (aa.cons ?_ (aa.cons ?_ (aa.cons ?_ (aa.cons ?_ (aa.cons ?_ (ag _)))))))
   all_goals (repeat (first|(refine aD (ab.new _ _ _) ?_;simp [zAR];done)|refine ab.alloc ?_ _))
  ·(repeat (first|(refine aD (ab.new _ _ _) ?_;simp [zAR];done)|refine ab.alloc ?_ _))
 case done=>
  rintro D xs W hD hxs ⟨⟨q,⟨hqN,hqw⟩,hbel,hcs,_⟩,hb⟩ hK
  unfold n9 at hcs
  have hxl:xs.length=8*n - k:=by rw [hxs,fW]
  have hRR:R=(0,0,5):=by rw [hxl,Nat.sub_self] at hqw;exact hqw.symm
  have f1:=hcs.tail.head.frozen 0
  have f2:=hcs.tail.tail.head.frozen 0
  have f3:=hcs.tail.tail.tail.head.frozen 0
  have r1:=hcs.tail.head.cell 0
  have r2:=hcs.tail.tail.head.cell 0
  have r3:=hcs.tail.tail.tail.head.cell 0
  have HRR:=zAA hRR;have HBel:=zAA hbel;have HCS:=zAA hcs;have HK:=zAA hK
  clear hxs hqN hqw hxl hRR hbel hcs hb hK
  gi_wp2_with fail
  go_wp2_with fail
  have hcs:=HCS.out
  have hDp:D≠w.heap.size+1∧D≠w.heap.size+2∧D≠w.heap.size+3:=by simp at hD;omega
  have hK3:=(((Below.heap_setCell (W.setCell ⟨w.heap.size+1,0,none⟩ (.int .i64 0) |>.setCell ⟨w.heap.size+2,0,none⟩ (.int .i64 0)) ⟨w.heap.size+3,0,none⟩ (.int .i64 5) D hDp.2.2).trans
   (Below.heap_setCell (W.setCell ⟨w.heap.size+1,0,none⟩ (.int .i64 0)) ⟨w.heap.size+2,0,none⟩ (.int .i64 0) D hDp.2.1)).trans (Below.heap_setCell W ⟨w.heap.size+1,0,none⟩ (.int .i64 0) D hDp.1)).trans HK.out
  have hc3:aa [(w.heap.size+1,3,#[.int .i64 0]),(w.heap.size+2,3,#[.int .i64 0]),(w.heap.size+3,26,#[.int .i64 5])] (((W.setCell ⟨w.heap.size+1,0,none⟩ (.int .i64 0)).setCell ⟨w.heap.size+2,0,none⟩ (.int .i64 0)).setCell ⟨w.heap.size+3,0,none⟩ (.int .i64 5)):=
   aa.cons (((hcs.tail.head.set_ 0 _).far (p:=⟨w.heap.size+2,0,none⟩) (by simp) _).far (p:=⟨w.heap.size+3,0,none⟩) (by simp) _)
    (aa.cons (((hcs.tail.tail.head.far (p:=⟨w.heap.size+1,0,none⟩) (by simp) _).set_ 0 _).far (p:=⟨w.heap.size+3,0,none⟩) (by simp) _)
     (aa.cons (((hcs.tail.tail.tail.head.far (p:=⟨w.heap.size+1,0,none⟩) (by simp) _).far (p:=⟨w.heap.size+2,0,none⟩) (by simp) _).set_ 0 _) (ag _)))
  have hc4:=cF (o':= .deferred none) hc3 hK3 rfl
  have hb4:=cq (o:= .deferred none) (((HBel.out.setCell (p:=⟨w.heap.size+1,0,none⟩) (by show w.heap.size≤_;simp) (.int .i64 0)).setCell (p:=⟨w.heap.size+2,0,none⟩) (by show w.heap.size≤_;simp) (.int .i64 0)).setCell (p:=⟨w.heap.size+3,0,none⟩) (by show w.heap.size≤_;simp) (.int .i64 5)) (D:=D) (by simp at hD;omega)
  have q1:=hc4.head.cell 0
  have q2:=hc4.tail.head.cell 0
  have q3:=hc4.tail.tail.head.cell 0
  rw [HRR.out]
  refine ef hK3 (v:= .tuple #[.int .i64 0,.int .i64 0,.int .i64 5]) ?_ ?_
  ·simp [results,Tryz.results275,go_sem,q1,q2,q3]
  ·exact ⟨rfl,hb4⟩
 case stop=>
  rintro D cd pre W hD hsp ⟨rfl,hbel,hcs,_⟩ hK
  have HBel:=zAA hbel;have HCS:=zAA hcs;have HK:=zAA hK
  clear hbel hcs hK hsp
  gi_wp2_with fail
  have hc4:=cF (o':= .deferred none) HCS.out HK.out rfl
  have hb4:=cq (o:= .deferred none) HBel.out (D:=D) (by simp at hD;omega)
  have q1:=hc4.head.cell 0
  have q2:=hc4.tail.head.cell 0
  have q3:=hc4.tail.tail.head.cell 0
  refine ef HK.out (v:= .tuple #[.int .i64 R.1,.int .i64 R.2.1,.int .i64 R.2.2]) ?_ ?_
  ·simp [results,Tryz.results275,go_sem,q1,q2,q3]
  ·exact ⟨rfl,hb4⟩
 case round=>
  apply Exists.intro
  refine And.intro ?_ ?_
  ·intro lp pre x W hI hsp
   gi_wp2
   obtain ⟨g0,_⟩:∃g0:Nat,g0=0:=⟨_,rfl⟩
   exact ⟨⟨g0,rfl,hI⟩,KeepsFrom.refl _ _⟩
  ·rintro lp pre x kk W ⟨⟨q,hq,hc⟩,hb⟩ hsp
   obtain ⟨hpl,hx⟩:=Dh _ _ _ _ _ hsp
   obtain ⟨hqN,hqw⟩:=hq
   obtain ⟨hbel,hcs,_⟩:=hc
   unfold n9 at hcs
   obtain ⟨tt,htt⟩:∃tt,(N.getD q bT).to (cW l (k+pre.length))=tt:=⟨_,rfl⟩
   have hst:=Fl hpl hqw tt htt
   have htN:tt<N.length:=by rw [←htt];exact Jn HWF.out q HL.out _
   have B0:=hcs.head;have B1:=hcs.tail.head;have B2:=hcs.tail.tail.head;have B3:=hcs.tail.tail.tail.head;have B4:=hcs.tail.tail.tail.tail.head;have B5:=hcs.tail.tail.tail.tail.tail.head
   dsimp only at B0 B1 B2 B3 B4 B5
   have hx2:(x:Int)<2:=by have:=gT l (k+pre.length);omega
   have hx0:¬((x:Int)<0):=by omega
   have p0:=B0.cell 0
   have nx:W.cell? ⟨w.heap.size+4,x,none⟩=some (.int .i64 (tt:Int)):=by rw [B4.cell,hx,uJ,htt]
   have m0:=B5.cell 0
   have mf:=B5.frozen 0
   have f1:=B1.frozen 0
   have r1:=B1.cell 0
   have r2:=B2.cell 0
   have r3:=B3.cell 0
   have f2:=B2.frozen 0
   have f3:=B3.frozen 0
   have hw1:IntKind.i64.wrap ((pre.length:Int)+1)=(pre.length:Int)+1:=by rw [IntKind.wrap_i64];omega
   have HBel:=zAA hbel;have HCS:=zAA hcs;have HST:=zAA hst;have Hb:=zAA hb;have HX:=zAA hx;have HTT:=zAA htt
   clear hbel hcs hst hb hx hpl hqw htt B0 B1 B2 B3 B4 B5
   by_cases h0:tt=0
   ·subst h0
    have nx:W.cell? ⟨w.heap.size+4,x,none⟩=some (.int .i64 0):=nx
    gi_wp2_with fail
    have hR:=HST.out.1 (by simp)
    have hcs:=HCS.out
    refine ⟨?_,rfl,?_,?_,aE _⟩
    ·exact ak (ak (ak (ak (KeepsFrom.refl _ _) _ _) _ _) _ _) _ _
    ·exact (((HBel.out.setCell (p:=⟨w.heap.size+5,0,none⟩) (by show w.heap.size≤_;simp) _).setCell (p:=⟨w.heap.size+1,0,none⟩) (by show w.heap.size≤_;simp) _).setCell (p:=⟨w.heap.size+2,0,none⟩) (by show w.heap.size≤_;simp) _).setCell (p:=⟨w.heap.size+3,0,none⟩) (by show w.heap.size≤_;simp) _
    ·rw [hR]
     refine aa.cons ?_ (aa.cons ?_ (aa.cons ?_ (ag _)))
     ·exact (((hcs.tail.head.far (p:=⟨w.heap.size+5,0,none⟩) (by simp) _).set_ 0 _).far (p:=⟨w.heap.size+2,0,none⟩) (by simp) _).far (p:=⟨w.heap.size+3,0,none⟩) (by simp) _
     ·exact (((hcs.tail.tail.head.far (p:=⟨w.heap.size+5,0,none⟩) (by simp) _).far (p:=⟨w.heap.size+1,0,none⟩) (by simp) _).set_ 0 _).far (p:=⟨w.heap.size+3,0,none⟩) (by simp) _
     ·exact (((hcs.tail.tail.tail.head.far (p:=⟨w.heap.size+5,0,none⟩) (by simp) _).far (p:=⟨w.heap.size+1,0,none⟩) (by simp) _).far (p:=⟨w.heap.size+2,0,none⟩) (by simp) _).set_ 0 _
   ·have h0b:((tt:Int)==0)=false:=beq_eq_false_iff_ne.2 (by omega)
    have hbel1:=HBel.out.setCell (p:=⟨w.heap.size+5,0,none⟩) (by show w.heap.size≤w.heap.size+5;omega) (.int .i64 ((pre.length:Int)+1))
    have hcs1:aa [(w.heap.size,185,#[.pointer (some ⟨T,0,none⟩)]),(w.heap.size+1,3,#[.int .i64 0]),(w.heap.size+2,3,#[.int .i64 0]),(w.heap.size+3,26,#[.int .i64 0]),(w.heap.size+4,260,(nz (N.getD q bT)).toArray),(w.heap.size+6,25,#[.slice A n c])] (W.setCell ⟨w.heap.size+5,0,none⟩ (.int .i64 ((pre.length:Int)+1))):=by
     have h:=HCS.out
     exact (aa.cons h.head (aa.cons h.tail.head (aa.cons h.tail.tail.head (aa.cons h.tail.tail.tail.head (aa.cons h.tail.tail.tail.tail.head (aa.cons h.tail.tail.tail.tail.tail.tail.head (ag _))))))).far (by simp) _
    have hm1:=HCS.out.tail.tail.tail.tail.tail.head.set_ 0 (.int .i64 ((pre.length:Int)+1))
    have hb1:=Hb.out.far (p:=⟨w.heap.size+5,0,none⟩) (by simp) (.int .i64 ((pre.length:Int)+1))
    have HBel1:=zAA hbel1;have HCS1:=zAA hcs1;have HM1:=zAA hm1;have HB1:=zAA hb1
    have hkf:=zAA (fun B=>ak (KeepsFrom.refl B W) ⟨w.heap.size+5,0,none⟩ (.int .i64 ((pre.length:Int)+1)))
    clear hbel1 hcs1 hm1 hb1
    gi_wp2_with fail
    generalize hW1:W.setCell ⟨w.heap.size+5,0,none⟩ (.int .i64 ((pre.length:Int)+1))=W1 at HBel1 HCS1 HM1 HB1 hkf⊢
    clear hW1 p0 nx m0 mf f1 f2 f3 r1 r2 r3
    obtain ⟨g2,cap2,mb2,_,_,hq1,hq2,⟨t0,_,_,k0,k1,k2,k3⟩,_,_,_,_,_⟩:=mX (HT.out.later HBel1.out) htN
    rw [←kD htN] at k0 k1 k2 k3
    have hcs:=HCS1.out
    have z0:=hcs.head.cell 0
    have z4:W1.cell? ⟨w.heap.size+4,x,none⟩=some (.int .i64 (tt:Int)):=by rw [hcs.tail.tail.tail.tail.head.cell,HX.out,uJ,HTT.out]
    have B4:=hcs.tail.tail.tail.tail.head
    dsimp only at B4
    have d0:=B4.frozen 0
    have d1:=B4.frozen 1
    have d2:=B4.frozen 2
    have d3:=B4.frozen 3
    have e0:W1.cell? ⟨w.heap.size+4,0,none⟩=some (.int .i64 (N.getD q bT).a):=by rw [B4.cell];rfl
    have e1:W1.cell? ⟨w.heap.size+4,1,none⟩=some (.int .i64 (N.getD q bT).b):=by rw [B4.cell];rfl
    have e2:W1.cell? ⟨w.heap.size+4,2,none⟩=some (.bool (N.getD q bT).leaf):=by rw [B4.cell];rfl
    have e3:W1.cell? ⟨w.heap.size+4,3,none⟩=some (.int .i64 (N.getD q bT).num):=by rw [B4.cell];rfl
    clear hcs B4
    refine fm (fun w'=>w'.cell? ⟨w.heap.size,0,none⟩=some (.pointer (some ⟨T,0,none⟩))∧w'.cell? ⟨T,0,none⟩=some (.slice (some ⟨g2,0,none⟩) N.length cap2)∧w'.cell? ⟨w.heap.size+4,x,none⟩=some (.int .i64 (tt:Int))) 8 (.take 0 (.take 1 (.take 2 (.take 3 (.take 4 (.take 5 (.take 6 (.take 7 .done)))))))) (by kernel_rfl) (by kernel_rfl) (by simp only [aR.out,Array.getD_eq_getD_getElem?,zAG,zAF,zAE,zAQ];rfl) (by simp only [zAV,zAX];rfl) (⟨z0,t0,z4⟩) (fun PE hPE=>?_)
    iterate 8
     refine ah (v:=?_) rfl (by rfl) ?_ ?_
     rotate_left
     ·intro _ hSw;(try dsimp only at hSw);obtain ⟨s0,s1,s2⟩:=hSw;go_simp;(try with_reducible rfl)
     simp only [zAD,zAL,zAK]
    refine hPE _ _ ?_
    clear hPE PE
    simp only [zAJ,zAU]
    go_wp2_with fail
    refine ⟨rfl,?_⟩
    generalize hW2:((((W1.setCell ⟨w.heap.size+4,0,none⟩ (.int .i64 (N[tt].a:Nat))).setCell ⟨w.heap.size+4,1,none⟩ (.int .i64 (N[tt].b:Nat))).setCell ⟨w.heap.size+4,2,none⟩ (.bool N[tt].leaf)).setCell ⟨w.heap.size+4,3,none⟩ (.int .i64 N[tt].num)).drew=W2
    have hcs:=HCS1.out
    have ho:aa [(w.heap.size,185,#[.pointer (some ⟨T,0,none⟩)]),(w.heap.size+1,3,#[.int .i64 0]),(w.heap.size+2,3,#[.int .i64 0]),(w.heap.size+3,26,#[.int .i64 0]),(w.heap.size+6,25,#[.slice A n c]),(w.heap.size+5,3,#[.int .i64 ((pre.length:Int)+1)]),(w.heap.size+7,3,#[.int .i64 ((k+pre.length:Nat):Int)])] W1:=
     aa.cons hcs.head (aa.cons hcs.tail.head (aa.cons hcs.tail.tail.head (aa.cons hcs.tail.tail.tail.head (aa.cons hcs.tail.tail.tail.tail.tail.head (aa.cons HM1.out (aa.cons HB1.out (ag _)))))))
    have HO:=zAA (show aa _ W2 from by rw [←hW2];exact ((((ho.far (p:=⟨w.heap.size+4,0,none⟩) (by simp) _).far (p:=⟨w.heap.size+4,1,none⟩) (by simp) _).far (p:=⟨w.heap.size+4,2,none⟩) (by simp) _).far (p:=⟨w.heap.size+4,3,none⟩) (by simp) _).drew)
    have HN4:=zAA (show ab W2 (w.heap.size+4) 260 (nz N[tt]).toArray from by rw [←hW2];exact (((hcs.tail.tail.tail.tail.head.set_ 0 _).set_ 1 _).set_ 2 _).set_ 3 _)
    have HBel2:=zAA (show Below w.heap.size w W2 from by rw [←hW2];exact ((((HBel1.out.setCell (p:=⟨w.heap.size+4,0,none⟩) (by show w.heap.size≤_;simp) _).setCell (p:=⟨w.heap.size+4,1,none⟩) (by show w.heap.size≤_;simp) _).setCell (p:=⟨w.heap.size+4,2,none⟩) (by show w.heap.size≤_;simp) _).setCell (p:=⟨w.heap.size+4,3,none⟩) (by show w.heap.size≤_;simp) _).drew)
    have HKF:=zAA (show ∀B,KeepsFrom B W W2 from fun B=>by rw [←hW2];exact fb (ak (ak (ak (ak (hkf.out B) _ _) _ _) _ _) _ _))
    clear hW2 hcs ho HCS1 HM1 HB1 HBel1 hkf z0 z4 d0 d1 d2 d3 e0 e1 e2 e3 t0 k0 k1 k2 k3
    have hcs:=HO.out
    have n2:W2.cell? ⟨w.heap.size+4,2,none⟩=some (.bool N[tt].leaf):=by rw [HN4.out.cell];rfl
    have n3:W2.cell? ⟨w.heap.size+4,3,none⟩=some (.int .i64 N[tt].num):=by rw [HN4.out.cell];rfl
    have m0:=hcs.tail.tail.tail.tail.tail.head.cell 0
    have f1:=hcs.tail.head.frozen 0
    have f2:=hcs.tail.tail.head.frozen 0
    have f3:=hcs.tail.tail.tail.head.frozen 0
    have r1:=hcs.tail.head.cell 0
    have r2:=hcs.tail.tail.head.cell 0
    have r3:=hcs.tail.tail.tail.head.cell 0
    have hkey:=HST.out.2
    rw [kD htN] at hkey
    have HKEY:=zAA hkey
    clear hcs hkey
    by_cases hlf:N[tt].leaf=true
    ·have HLF:=zAA hlf
     rw [hlf] at n2
     clear hlf
     gi_wp2_with fail
     refine fm (fun w'=>w'.cell? ⟨w.heap.size+4,3,none⟩=some (.int .i64 N[tt].num)∧w'.cell? ⟨w.heap.size+5,0,none⟩=some (.int .i64 ((pre.length:Int)+1))) 4 (.take 0 (.take 1 (.take 2 (.step 3 .done)))) (by kernel_rfl) (by kernel_rfl) (by simp only [aR.out,Array.getD_eq_getD_getElem?,zAG,zAF,zAE,zAQ];rfl) (by simp only [zAV,zAX];rfl) (⟨n3,m0⟩) (fun PE hPE=>?_)
     iterate 3
      refine ah (v:=?_) rfl (by rfl) ?_ ?_
      rotate_left
      ·intro _ hSw;(try dsimp only at hSw);obtain ⟨s0,s1⟩:=hSw;go_simp;(try with_reducible rfl)
      simp only [zAD,zAL,zAK]
     refine bG _ (w':=?_) rfl (by rfl) ?_ ?_ ?_
     rotate_left 1
     ·go_simp;(first|(with_reducible rfl)|(constructor<;>with_reducible rfl)|skip)
     ·constructor<;>go_simp
     refine hPE _ _ ?_
     clear hPE PE
     simp only [zAJ,zAU]
     go_wp2_with fail
     refine ⟨rfl,?_⟩
     gi_wp2_with fail
     have hR:=HKEY.out.1 h0 HLF.out
     have hcs:=HO.out
     refine ⟨?_,rfl,?_,?_,aE _⟩
     ·exact fb (ak (ak (ak (HKF.out _) _ _) _ _) _ _)
     ·exact (((HBel2.out.setCell (p:=⟨w.heap.size+1,0,none⟩) (by show w.heap.size≤_;simp) _).setCell (p:=⟨w.heap.size+2,0,none⟩) (by show w.heap.size≤_;simp) _).setCell (p:=⟨w.heap.size+3,0,none⟩) (by show w.heap.size≤_;simp) _).drew
     ·rw [hR]
      refine aa.cons ?_ (aa.cons ?_ (aa.cons ?_ (ag _)))
      ·exact ((hcs.tail.head.set_ 0 _).far (p:=⟨w.heap.size+2,0,none⟩) (by simp) _).far (p:=⟨w.heap.size+3,0,none⟩) (by simp) _
      ·exact ((hcs.tail.tail.head.far (p:=⟨w.heap.size+1,0,none⟩) (by simp) _).set_ 0 _).far (p:=⟨w.heap.size+3,0,none⟩) (by simp) _
      ·exact ((hcs.tail.tail.tail.head.far (p:=⟨w.heap.size+1,0,none⟩) (by simp) _).far (p:=⟨w.heap.size+2,0,none⟩) (by simp) _).set_ 0 _
    ·have hlf:N[tt].leaf=false:=by simpa using hlf
     have HLF:=zAA hlf
     rw [hlf] at n2
     clear hlf
     gi_wp2_with fail
     have hcs:=HO.out
     refine ⟨HKF.out _,trivial,⟨tt,⟨htN,?_⟩,HBel2.out,?_,aE _⟩,?_⟩
     ·rw [zAC];exact HKEY.out.2 h0 HLF.out
     ·unfold n9
      rw [kD htN]
      refine aa.cons hcs.head (aa.cons hcs.tail.head (aa.cons hcs.tail.tail.head (aa.cons hcs.tail.tail.tail.head (aa.cons HN4.out (aa.cons ?_ (aa.cons hcs.tail.tail.tail.tail.head (ag _)))))))
      rw [zAC]
      exact hcs.tail.tail.tail.tail.tail.head
     ·rw [zAC]
      exact hcs.tail.tail.tail.tail.tail.tail.head
end Go.Proofs.YthhijgcfbjcgiaaGreatDoor
