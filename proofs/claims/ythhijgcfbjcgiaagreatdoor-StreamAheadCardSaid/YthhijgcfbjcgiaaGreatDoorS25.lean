/- Numb, Get, Pairs -/
import Derived.Test.YthhijgcfbjcgiaaGreatDoorS24
import Derived.Lib.ConvBytes
import Derived.Test.YthhijgcfbjcgiaaGreatDoorS04
namespace Go.Proofs.YthhijgcfbjcgiaaGreatDoor
open Go Go.RowKit
open Go.Lib renaming hid→zAA,bytesWorld→zAE
open List renaming take_succ_eq_append_getElem→zAB,getElem_mem→zAC,take_of_length_le→zAD,take_length→zAG,getD→zAJ
open Nat renaming pow_le_pow_right→zAF,pow_succ→zAH
open Go.IntKind renaming u64→zAI
theorem uL (s:List UInt8) (c:UInt8):cJ (s++[c])=2*cJ s+(c.toNat - 48):=by unfold cJ;rw [List.foldl_append];rfl
theorem tI (s:List UInt8) (h:∀c∈s,c=48∨c=49) (k:Nat):cJ (s.take k)<2 ^ k:=by
 induction k with
 |zero=>simp [cJ]
 |succ k ih=>
  by_cases hk:k<s.length
  ·rw [zAB hk,uL]
   have:s[k].toNat - 48≤1:=by rcases h _ (zAC hk) with e|e<;>rw [e]<;>decide
   rw [zAH];omega
  ·rw [zAD (by omega)]
   rw [zAD (by omega)] at ih
   rw [zAH];omega
theorem yN (w:World) (e:TypeId) (t:ByteArray):Below w.heap.size w (zAE w e t):=
 have h:=((Below.refl w.heap.size w).drew.alloc (B:=w.heap.size) (by simp) (.cells (Lib.bytesCells w e t) e))
 ⟨h.os,h.tape,h.output,by rw [Lib.bytesWorld_size];omega,fun b hb=>Lib.bytesWorld_at_old w e t b hb⟩
theorem DZ (s:List UInt8) (j:Nat) (hj:j<s.length) (c:Nat) (hc:(s.getD j 0).toNat=48+c):cJ (s.take (j+1))=2*cJ (s.take j)+c:=by
 rw [zAB hj,uL]
 have h2:s.getD j 0=s[j]:=by simp [zAJ,hj]
 rw [h2] at hc
 omega
set_option maxRecDepth 100000 in
set_option maxHeartbeats 4000000 in
theorem Cj (s:List UInt8) (hs:∀c∈s,c=48∨c=49) (h1:1≤s.length) (h2:s.length≤20) (w:World):Calls Tryz.prog 299 #[.string (bs s),.int .i64 2,.int .i64 64] w fun e w'=>e= .returned (.tuple #[.int .u64 (cJ s:Nat),.nilIface])∧Below w.heap.size w w':=by
 have e1:(s==[])=false:=by rw [beq_eq_false_iff_ne];intro e;rw [e] at h1;simp at h1
 have e2:s.isEmpty=false:=by cases s with
  |nil=>simp at h1
  |cons a s=>rfl
 have hd:∀j,j<s.length→s.getD j 0=48∨s.getD j 0=49:=fun j hj=>by
  have h2:s.getD j 0=s[j]:=by simp [zAJ,hj]
  rw [h2];exact hs _ (zAC hj)
 have HD:=zAA hd
 have hlt:∀j,j≤s.length→cJ (s.take j)<1048576:=fun j hj=>by
  have:=tI s hs j
  have h3:2 ^ j≤2 ^ 20:=zAF (by decide) (by omega)
  omega
 have HL:=zAA hlt
 have hst:=DZ s
 have HS:=zAA hst
 have HE:Hid (cJ (s.take s.length)=cJ s):=zAA (by rw [zAG])
 clear hs hd hlt hst
 have hcv:=Lib.run_convert_string_bytes (P:=Tryz.prog) w 9 25 5 (bs s) (u:= .string) (by kernel_rfl) (by kernel_rfl) (by kernel_rfl)
 have hB:∀j,j<s.length→(zAE w 5 (bs s)).cell? ⟨w.heap.size,j,none⟩=some (.int .u8 (s.getD j 0).toNat):=fun j hj=>by
  rw [Lib.bytesWorld_cell w 5 (bs s) j (by rw [iA];exact hj),eA]
 have HB:=zAA hB
 have hbel:=yN w 5 (bs s)
 obtain ⟨W1,hW1⟩:∃W1,W1=zAE w 5 (bs s):=⟨_,rfl⟩
 rw [←hW1] at hcv HB hbel
 clear hW1 hB
 generalize cJ s=N at HE⊢
 rw [iA] at hcv
 obtain ⟨cp,hcp⟩:∃cp,cp=grownCap w s.length 0 5:=⟨_,rfl⟩
 rw [←hcp] at hcv
 clear hcp
 have hmv:zAI.wrap (zAI.wrap 18446744073709551616 - 1)=18446744073709551615:=by kernel_rfl
 go_enter Tryz.func299,Tryz.ntmps299
 go_wp2_with fail
 go_loop [12,13,101] (fun vu vn vi=>∃(j q:Nat) (a:Int),vu= .bool false∧vn= .int .u64 a∧vi= .int .i64 (j:Int)∧j≤s.length∧Hid (q=cJ (s.take j)∧a=(q:Int)))
  (fun _ _ vi=>s.length - (Go.RowKit.intOf vi).toNat)
 case atStart=>exact ⟨0,0,0,rfl,rfl,rfl,by omega,zAA ⟨rfl,rfl⟩⟩
 case round=>
  obtain ⟨j,q,a,rfl,rfl,rfl,hj,Hq⟩:=hrel
  obtain ⟨ha0,ha1⟩:0≤a∧a<1048576:=by
   have:=HL.out j hj
   rw [←Hq.out.1] at this
   rw [Hq.out.2]
   omega
  by_cases hlt:j<s.length
  ·have hc:=HB.out j hlt
   rcases HD.out j hlt with hz|hz
   ·rw [hz] at hc
    have Hn:=zAA (HS.out j hlt 0 (by rw [hz];rfl))
    clear hz
    go_wp2
    exact ⟨⟨j+1,2*q+0,a*2,rfl,by congr 1,by congr 1,by omega,zAA ⟨by rw [Hn.out,←Hq.out.1],by have:=Hq.out.2;omega⟩⟩,by simp [Go.RowKit.intOf];omega⟩
   ·rw [hz] at hc
    have Hn:=zAA (HS.out j hlt 1 (by rw [hz];rfl))
    clear hz
    go_wp2
    exact ⟨⟨j+1,2*q+1,a*2+1,rfl,by congr 1,by congr 1,by omega,zAA ⟨by rw [Hn.out,←Hq.out.1],by have:=Hq.out.2;omega⟩⟩,by simp [Go.RowKit.intOf];omega⟩
  ·obtain rfl:j=s.length:=by omega
   obtain ⟨hq1,hq2⟩:=Hq.out
   rw [HE.out] at hq1
   clear Hq
   subst hq1
   go_wp2
   go_ret2
   exact ⟨rfl,hbel⟩
set_option maxRecDepth 100000 in
set_option maxHeartbeats 4000000 in
theorem xd (s:List UInt8) (hs:∀c∈s,c=48∨c=49) (h1:1≤s.length) (h2:s.length≤20) (w:World):Calls Tryz.prog 297 #[.string (bs s),.int .i64 2,.int .i64 64] w fun e w'=>e= .returned (.tuple #[.int .i64 (cJ s:Nat),.nilIface])∧Below w.heap.size w w':=by
 have e1:(s==[])=false:=by rw [beq_eq_false_iff_ne];intro e;rw [e] at h1;simp at h1
 have e2:s.isEmpty=false:=by cases s with
  |nil=>simp at h1
  |cons a s=>rfl
 have hd:s[0]=48∨s[0]=49:=hs _ (zAC h1)
 have hlt:cJ s<1048576:=by
  have:=tI s hs s.length
  rw [zAG] at this
  have h3:2 ^ s.length≤2 ^ 20:=zAF (by decide) (by omega)
  omega
 have hC:=fun w=>Cj s hs h1 h2 w
 have HC:=zAA hC
 clear hs hC
 obtain ⟨a,ha⟩:∃a:Int,a=(cJ s:Nat):=⟨_,rfl⟩
 rw [←ha] at HC⊢
 have ha0:0≤a:=by omega
 have ha1:a<1048576:=by omega
 clear ha hlt
 go_enter Tryz.func297,Tryz.ntmps297
 rcases hd with hd|hd
 ·go_wp2_with (go_at_call 299;refine (HC.out _).mono ?_;rintro e w' ⟨rfl,hb⟩)
  go_ret2
  exact ⟨rfl,hb⟩
 ·go_wp2_with (go_at_call 299;refine (HC.out _).mono ?_;rintro e w' ⟨rfl,hb⟩)
  go_ret2
  exact ⟨rfl,hb⟩
set_option maxRecDepth 100000 in
set_option maxHeartbeats 4000000 in
theorem rH (s:List UInt8) (hs:∀c∈s,c=48∨c=49) (h1:1≤s.length) (h2:s.length≤20) (w:World):Calls Tryz.prog 296 #[.string (bs s),.int .i64 2,.int .i64 64] w fun e w'=>e= .returned (.tuple #[.int .i64 (cJ s:Nat),.nilIface])∧Below w.heap.size w w':=by
 have HC:=zAA (fun w=>xd s hs h1 h2 w)
 clear hs
 generalize cJ s=n at*
 go_enter Tryz.func296,Tryz.ntmps296
 go_wp2_with (go_at_call 297;refine (HC.out _).mono ?_;rintro e w' ⟨rfl,hb⟩)
 go_ret2
 exact ⟨rfl,hb⟩
set_option maxRecDepth 100000 in
set_option maxHeartbeats 4000000 in
theorem pi (s:List UInt8) (hs:∀c∈s,c=48∨c=49) (h1:1≤s.length) (h2:s.length≤20) (w:World):Calls Tryz.prog 295 #[.string (bs s)] w fun e w'=>e= .returned (.int .i64 (cJ s:Nat))∧Below w.heap.size w w':=by
 have HC:=zAA (fun w=>rH s hs h1 h2 w)
 clear hs
 generalize cJ s=n at*
 go_enter Tryz.func295,Tryz.ntmps295
 go_wp2_with (go_at_call 296;refine (HC.out _).mono ?_;rintro e w' ⟨rfl,hb⟩)
 go_ret
 exact ⟨rfl,hb⟩
end Go.Proofs.YthhijgcfbjcgiaaGreatDoor
namespace Go.Proofs.YthhijgcfbjcgiaaGreatDoor
open Go Go.RowKit
attribute [local go_sem] Oper.semAt_some
open Go.Lib renaming hid→zAA,hasPrefix→zA6
open List renaming setIfInBounds_toArray→zAB,set_cons_succ→zAC,set_cons_zero→zAD,singleton_append→zAE,append_assoc→zAF,mem_of_mem_drop→zAG,append_toArray→zAI,push_toArray→zAJ,size_toArray→zAK,cons_append→zAM,length_cons→zAN,mem_nil_iff→zAO,append_nil→zAP,length_nil→zAQ,nil_append→zAR,getElem?_append_right→zAS,mem_cons→zAT,take_of_length_le→zAX,mem_of_mem_take→zAY,drop_succ_cons→zA0,length_append→zA1,all_eq_true→zA3,drop_zero→zA4,IsPrefix→zA7
open Nat renaming reduceAdd→zAH,le_refl→zAL,reduceSub→zAU,add_assoc→zAZ
open Go.World renaming drew→zAV,size_alloc→zAW
open Bool renaming and_eq_true→zA2,false_or→zA5
open Go.IntKind renaming i8→zA8
def kv (r:(Int×Int)×Bool×Int×Int):Value:= .tuple #[.agg #[.int .i64 r.1.1,.int .i64 r.1.2],.bool r.2.1,.int .i64 r.2.2.1,.int .i64 r.2.2.2]
def fe (h:Nat) (r:(Int×Int)×Bool×Int×Int):List aI:=[(h,189,#[.int .i64 r.1.1,.int .i64 r.1.2]),(h+1,4,#[.bool r.2.1]),(h+2,3,#[.int .i64 r.2.2.1]),(h+3,26,#[.int .i64 r.2.2.2])]
def iO (h g1 b:Nat) (first more:Bool) (s:List UInt8):List aI:=(g1+1,4,#[.bool first])::(g1,4,#[.bool more])::(b,9,#[.string (bs s)])::fe h ((0,0),false,0,0)
theorem ru {s c:List UInt8} {p:Int×Int} {T:List ((Int×Int)×List UInt8)} {more:Bool} (h:bW s c=false):bL s ((p,c)::T) more=bL s T more:=by
 show (if !bW s c then _ else _)=_
 rw [h];rfl
theorem nd {s c:List UInt8} {p:Int×Int} {T:List ((Int×Int)×List UInt8)} {more:Bool} (h:bW s c=true) (hl:s.length≤c.length):bL s ((p,c)::T) more=bL s T true:=by
 show (if !bW s c then _ else if s.length≤c.length then _ else _)=_
 rw [h,if_neg (by decide),if_pos hl]
theorem po {s c:List UInt8} {p:Int×Int} {T:List ((Int×Int)×List UInt8)} {more:Bool} (h:bW s c=true) (hl:¬s.length≤c.length):bL s ((p,c)::T) more=((p.1,if s.getD c.length 0==49 then -p.2 else p.2),false,(c.length:Int)+1,0):=by
 show (if !bW s c then _ else if s.length≤c.length then _ else _)=_
 rw [h,if_neg (by decide),if_neg hl]
theorem eZ (h:Nat) (r:(Int×Int)×Bool×Int×Int) (tmps:Array Value) (W:World) (hc:aa (fe h r) W) (t6:tmps.getD 6 undef= .pointer (some ⟨h,0,none⟩)) (t7:tmps.getD 7 undef= .pointer (some ⟨h+1,0,none⟩))
  (t8:tmps.getD 8 undef= .pointer (some ⟨h+2,0,none⟩)) (t9:tmps.getD 9 undef= .pointer (some ⟨h+3,0,none⟩)):(results Tryz.f289 tmps).run Tryz.prog W= .ok (kv r) W:=by
 unfold fe at hc
 have h6:W.cell? ⟨h,0,none⟩=some (.int .i64 r.1.1):=hc.head.cell 0
 have h6':W.cell? ⟨h,1,none⟩=some (.int .i64 r.1.2):=hc.head.cell 1
 have h7:W.cell? ⟨h+1,0,none⟩=some (.bool r.2.1):=hc.tail.head.cell 0
 have h8:W.cell? ⟨h+2,0,none⟩=some (.int .i64 r.2.2.1):=hc.tail.tail.head.cell 0
 have h9:W.cell? ⟨h+3,0,none⟩=some (.int .i64 r.2.2.2):=hc.tail.tail.tail.head.cell 0
 have t6':tmps[6]?.getD undef= .pointer (some ⟨h,0,none⟩):=by simpa using t6
 have t7':tmps[7]?.getD undef= .pointer (some ⟨h+1,0,none⟩):=by simpa using t7
 have t8':tmps[8]?.getD undef= .pointer (some ⟨h+2,0,none⟩):=by simpa using t8
 have t9':tmps[9]?.getD undef= .pointer (some ⟨h+3,0,none⟩):=by simpa using t9
 unfold kv
 simp [results,Tryz.results289,t6',t7',t8',t9',asAddr,h6,h6',h7,h8,h9,go_sem]
theorem Gs (n:Int):zA8.wrap n=(n+128) % 256 - 128:=by
 simp [IntKind.wrap,IntKind.bits,IntKind.signed]
 split<;>omega
theorem rz (s:List UInt8) (n:Nat) (hn:s.length=n) (h:∀c∈s,c=48∨c=49):cJ s<2 ^ n:=by
 have h1:=tI s h n
 rwa [zAX (by omega)] at h1
theorem IX {w w1:World} (s:ByteArray) (hb:Below ((((w.alloc (.cells #[.int .i64 0,.int .i64 0] 189)).alloc (.cells #[.bool false] 4)).alloc (.cells #[.int .i64 0] 3)).alloc (.cells #[.int .i64 0] 26)).heap.size ((((w.alloc (.cells #[.int .i64 0,.int .i64 0] 189)).alloc (.cells #[.bool false] 4)).alloc (.cells #[.int .i64 0] 3)).alloc (.cells #[.int .i64 0] 26)) w1):
  ay w ((w1.heap.size,9,#[.string s])::fe w.heap.size ((0,0),false,0,0)) [] (w1.alloc (.cells #[.string s] 9))∧w.heap.size+4≤w1.heap.size:=by
 refine ⟨⟨?_,aa.cons (ab.new _ _ _) (aa.alloc ?_ _),aE _⟩,by have:=hb.size;simp at this;omega⟩
 ·exact ((((((Below.refl _ _).alloc (zAL _) _).alloc (by simp) _).alloc (by simp;omega) _).alloc (by simp;omega) _).trans (hb.mono (by simp;omega))).alloc (by have:=hb.size;simp at this;omega) _
 ·refine aa.below ?_ hb
  unfold fe
  refine aa.cons ?_ (aa.cons ?_ (aa.cons ?_ (aa.cons ?_ (ag _))))
  all_goals (repeat (first|(refine aD (ab.new _ _ _) ?_;simp [zAW];done)|refine ab.alloc ?_ _))
theorem fa {w W:World} {r0:(Int×Int)×Bool×Int×Int} (r:(Int×Int)×Bool×Int×Int) (hc:ay w (fe w.heap.size r0) [] W):aa (fe w.heap.size r) (((((W.setCell ⟨w.heap.size,0,none⟩ (.int .i64 r.1.1)).setCell ⟨w.heap.size,1,none⟩ (.int .i64 r.1.2)).setCell ⟨w.heap.size+1,0,none⟩ (.bool r.2.1)).setCell ⟨w.heap.size+2,0,none⟩ (.int .i64 r.2.2.1)).setCell ⟨w.heap.size+3,0,none⟩ (.int .i64 r.2.2.2))∧
  Below w.heap.size w (((((W.setCell ⟨w.heap.size,0,none⟩ (.int .i64 r.1.1)).setCell ⟨w.heap.size,1,none⟩ (.int .i64 r.1.2)).setCell ⟨w.heap.size+1,0,none⟩ (.bool r.2.1)).setCell ⟨w.heap.size+2,0,none⟩ (.int .i64 r.2.2.1)).setCell ⟨w.heap.size+3,0,none⟩ (.int .i64 r.2.2.2)):=by
 unfold fe at hc⊢
 have hx:=hc.2.1
 have b1:=hx.head
 have b2:=hx.tail.head
 have b3:=hx.tail.tail.head
 have b4:=hx.tail.tail.tail.head
 dsimp only at b1 b2 b3 b4
 refine ⟨aa.cons ?_ (aa.cons ?_ (aa.cons ?_ (aa.cons ?_ (ag _)))),?_⟩
 ·exact ((((b1.set_ 0 (.int .i64 r.1.1)).set_ 1 (.int .i64 r.1.2)).far (by simp) _).far (by simp) _).far (by simp) _
 ·exact (((((b2.far (p:=⟨w.heap.size,0,none⟩) (by simp) (.int .i64 r.1.1)).far (p:=⟨w.heap.size,1,none⟩) (by simp) (.int .i64 r.1.2)).set_ 0 (.bool r.2.1)).far (by simp) _).far (by simp) _)
 ·exact (((((b3.far (p:=⟨w.heap.size,0,none⟩) (by simp) (.int .i64 r.1.1)).far (p:=⟨w.heap.size,1,none⟩) (by simp) (.int .i64 r.1.2)).far (p:=⟨w.heap.size+1,0,none⟩) (by simp) (.bool r.2.1)).set_ 0 (.int .i64 r.2.2.1)).far (by simp) _)
 ·exact (((((b4.far (p:=⟨w.heap.size,0,none⟩) (by simp) (.int .i64 r.1.1)).far (p:=⟨w.heap.size,1,none⟩) (by simp) (.int .i64 r.1.2)).far (p:=⟨w.heap.size+1,0,none⟩) (by simp) (.bool r.2.1)).far (p:=⟨w.heap.size+2,0,none⟩) (by simp) (.int .i64 r.2.2.1)).set_ 0 (.int .i64 r.2.2.2))
 ·exact ((((hc.1.setCell (by simp) _).setCell (by simp) _).setCell (by simp) _).setCell (by simp) _).setCell (by simp) _
theorem Gz (c:UInt8):(c==49)=(((c.toNat:Nat):Int)==49):=by
 rw [Bool.eq_iff_iff,beq_iff_eq,beq_iff_eq]
 constructor
 ·rintro rfl;rfl
 ·intro h;exact UInt8.toNat_inj.1 (by have:c.toNat=49:=(by omega);rw [this];rfl)
theorem Gf (first:Bool):(aX first).all (fun x=>decide (0≤x.1.2)&&decide (x.1.2≤127))=true:=by cases first<;>kernel_rfl
theorem yo {first:Bool} {x:(Int×Int)×List UInt8} (h:x∈aX first):0≤x.1.2∧x.1.2≤127:=by
 have h1:=zA3.1 (Gf first) x h
 simpa using h1
theorem wT {w W:World} {g g1 b:Nat} {s:List UInt8} {first more:Bool} {q1 q2:Int} (h:ay w ((g,189,#[.int .i64 q1,.int .i64 q2])::iO w.heap.size g1 b first more s) [] W) (hb:b<g1) (hh:w.heap.size+4≤b):ay w (iO w.heap.size g1 b first true s) [] (W.setCell ⟨g1,0,none⟩ (.bool true)):=by
 have hx:=h.2.1.tail
 unfold iO at hx⊢
 refine ⟨h.1.setCell (by show w.heap.size≤g1;omega) _,aa.cons (hx.head.far (by show g1+1≠g1;omega) _) (aa.cons (hx.tail.head.set_ 0 _) (aa.far hx.tail.tail ?_ _)),aE _⟩
 intro q hq
 unfold fe at hq
 simp only [zAT,zAO,or_false] at hq
 rcases hq with rfl|rfl|rfl|rfl|rfl<;>simp<;>omega
theorem AF {w W:World} {r:(Int×Int)×Bool×Int×Int} {u:Value} (h:ay w (fe w.heap.size r) [] W) {g:Nat} (i:Nat) (hg:w.heap.size+4≤g):ay w (fe w.heap.size r) [] (W.setCell ⟨g,i,none⟩ u):=by
 refine ⟨h.1.setCell (by show w.heap.size≤g;omega) _,aa.far h.2.1 ?_ _,aE _⟩
 intro q hq
 unfold fe at hq
 simp only [zAT,zAO,or_false] at hq
 rcases hq with rfl|rfl|rfl|rfl<;>simp<;>omega
theorem ql {h:Nat} {W:World} (r:(Int×Int)×Bool×Int×Int) {D:Nat} {o:Obj} (hD:h+4≤D) (hK:W.heap[D]? =some o):(((((W.setCell ⟨h,0,none⟩ (.int .i64 r.1.1)).setCell ⟨h,1,none⟩ (.int .i64 r.1.2)).setCell ⟨h+1,0,none⟩ (.bool r.2.1)).setCell ⟨h+2,0,none⟩ (.int .i64 r.2.2.1)).setCell ⟨h+3,0,none⟩ (.int .i64 r.2.2.2)).heap[D]? =some o:=by
 rw [Below.heap_setCell _ _ _ D (by show D≠h+3;omega),Below.heap_setCell _ _ _ D (by show D≠h+2;omega),Below.heap_setCell _ _ _ D (by show D≠h+1;omega),Below.heap_setCell _ _ _ D (by show D≠h;omega),Below.heap_setCell _ _ _ D (by show D≠h;omega)]
 exact hK
set_option maxRecDepth 100000 in
set_option maxHeartbeats 40000000 in
theorem Dx (A:Option Addr) (n c:Nat) (l:List UInt8) (i:Int) (first:Bool) (w:World) (hA:Sl w A (l.map af)) (hn:l.length=n) (hsz:n≤2 ^ 47) (hT:Ts w):
  Calls Tryz.prog 289 #[.slice A n c,.int .i64 i,.bool first] w fun e w'=>e= .returned (kv (aL l i first))∧Below w.heap.size w w':=by
 obtain ⟨r,hr⟩:∃r,aL l i first=r:=⟨_,rfl⟩
 rw [hr]
 unfold aL at hr
 rw [hn] at hr
 have HA:=zAA hA;have HN:=zAA hn;have HT:=zAA hT
 clear hA hn hT
 by_cases hi0:i<0
 ·rw [if_pos hi0] at hr
  subst hr
  refine (callsIn_wide (n:=5)).1 ?_
  refine callsIn_of_wp_marks Tryz.func289 rfl trivial ?_ rfl
  simp only [Tryz.ntmps289,zAK,zAN,zAQ,zAH,zAU,Array.replicate_succ,Array.replicate_zero,zAJ,zAI,zAR,zAM]
  refine wpIn_wide.2 ?_
  go_wp2_with fail
  simp only [zAZ,zAH]
  refine il (v:=kv ((0,0),false,0,3)) ?_ ⟨rfl,?_⟩
  ·refine eZ w.heap.size ((0,0),false,0,3) _ _ ?_ rfl rfl rfl rfl
   unfold fe
   refine aa.cons ?_ (aa.cons ?_ (aa.cons ?_ (aa.cons ?_ (ag _))))
   all_goals (repeat (first|(refine aD (ab.new _ _ _) ?_;simp [zAW];done)|refine ab.alloc ?_ _))
  ·exact ((((Below.refl _ _).alloc (zAL _) _).alloc (by simp) _).alloc (by simp;omega) _).alloc (by simp;omega) _
 rw [if_neg hi0] at hr
 by_cases hi1:8*(n:Int)<i
 ·rw [if_pos hi1] at hr
  subst hr
  refine (callsIn_wide (n:=5)).1 ?_
  refine callsIn_of_wp_marks Tryz.func289 rfl trivial ?_ rfl
  simp only [Tryz.ntmps289,zAK,zAN,zAQ,zAH,zAU,Array.replicate_succ,Array.replicate_zero,zAJ,zAI,zAR,zAM]
  refine wpIn_wide.2 ?_
  go_wp2_with (go_at_call 84;refine (dd A n c _ hsz).mono ?_;rintro e w' ⟨rfl,rfl⟩)
  simp only [zAZ,zAH]
  refine il (v:=kv ((0,0),false,0,5)) ?_ ⟨rfl,?_⟩
  ·refine eZ w.heap.size ((0,0),false,0,5) _ _ ?_ rfl rfl rfl rfl
   unfold fe
   refine aa.cons ?_ (aa.cons ?_ (aa.cons ?_ (aa.cons ?_ (ag _))))
   all_goals (repeat (first|(refine aD (ab.new _ _ _) ?_;simp [zAW];done)|refine ab.alloc ?_ _))
  ·exact ((((Below.refl _ _).alloc (zAL _) _).alloc (by simp) _).alloc (by simp;omega) _).alloc (by simp;omega) _
 rw [if_neg hi1] at hr
 obtain ⟨k,rfl⟩:∃k:Nat,i=(k:Int):=⟨i.toNat,by omega⟩
 rw [Int.toNat_natCast] at hr
 dsimp only at hr
 have hk:k≤8*n:=by omega
 have SEEN:=zAA (fun W h=>BF A n c l k W h HN.out hsz hk)
 have hor:=lR l k (min 20 (8*n - k))
 have hlen:(aC l k (min 20 (8*n - k))).length≤20:=by rw [bi];omega
 generalize aC l k (min 20 (8*n - k))=s at*
 have HOR:=zAA hor
 clear hor
 have SM:=zAA (fun W=>kY s fX W)
 refine (callsIn_wide (n:=5)).1 ?_
 refine callsIn_of_wp_marks Tryz.func289 rfl trivial ?_ rfl
 simp only [Tryz.ntmps289,zAK,zAN,zAQ,zAH,zAU,Array.replicate_succ,Array.replicate_zero,zAJ,zAI,zAR,zAM]
 refine wpIn_wide.2 ?_
 go_wp2_with (first|(go_at_call 84;refine (dd A n c _ hsz).mono ?_;rintro e w' ⟨rfl,rfl⟩)|(go_at_call 293;refine (SEEN.out _ (HA.out.below (((((Below.refl _ _).alloc (zAL _) _).alloc (by simp) _).alloc (by simp;omega) _).alloc (by simp;omega) _))).mono ?_;rintro e w1 ⟨rfl,hb1⟩;have HB1:=zAA hb1;clear hb1)|fail)
 obtain ⟨hcs,hbb⟩:=IX (bs s) HB1.out
 have HCS:=zAA hcs
 have HBB:=zAA hbb
 clear hcs hbb
 obtain ⟨b,hb⟩:∃b,w1.heap.size=b:=⟨_,rfl⟩
 rw [hb] at HCS HBB
 rw [hb]
 obtain ⟨w2,hw2⟩:∃w2,w1.alloc (.cells #[.string (bs s)] 9)=w2:=⟨_,rfl⟩
 rw [hw2] at HCS
 rw [hw2]
 clear hb hw2
 refine (SM.out _).mono ?_
 rintro e w3 ⟨rfl,hb3⟩
 have HC3:=zAA (bz HCS.out hb3)
 clear hb3
 have hx:=HC3.out.2.1
 unfold fe at hx
 have c0:=hx.head.cell 0
 have c1:=hx.tail.head.cell 0
 have c1':=hx.tail.head.cell 1
 have c2:=hx.tail.tail.head.cell 0
 have c3:=hx.tail.tail.tail.head.cell 0
 have c4:=hx.tail.tail.tail.tail.head.cell 0
 have f1:=hx.tail.head.frozen 0
 have f1':=hx.tail.head.frozen 1
 have f2:=hx.tail.tail.head.frozen 0
 have f3:=hx.tail.tail.tail.head.frozen 0
 have f4:=hx.tail.tail.tail.tail.head.frozen 0
 dsimp only at c0 c1 c1' c2 c3 c4 f1 f1' f2 f3 f4
 clear hx
 simp only [zAZ,zAH]
 cases he:bW s fX with
 |true=>
  rw [he,if_pos rfl] at hr
  clear he
  by_cases hsl:s.length<20
  ·rw [if_pos hsl] at hr
   subst hr
   go_wp2_with fail
   obtain ⟨q1,q2⟩:=fa ((0,0),false,0,5) (ar HC3.out)
   exact il (v:=kv ((0,0),false,0,5)) (eZ w.heap.size ((0,0),false,0,5) _ _ q1 rfl rfl rfl rfl) ⟨rfl,q2⟩
  ·rw [if_neg hsl] at hr
   have hs20:s.length=20:=by omega
   have hNb:cJ (s.drop 12)<256:=rz (s.drop 12) 8 (by simp;omega) (fun c hc=>HOR.out c (zAG hc))
   have e20:s.take 20=s:=zAX (by omega)
   have NA:=zAA (fun W=>pi ((s.take 20).drop 12) (fun c hc=>HOR.out c (by rw [e20] at hc;exact zAG hc)) (by simp;omega) (by simp;omega) W)
   have NB:=zAA (fun W=>pi ((s.take 12).drop 6) (fun c hc=>HOR.out c (zAY (zAG hc))) (by simp;omega) (by simp;omega) W)
   obtain ⟨na,hna⟩:∃na,cJ (s.drop 12)=na:=⟨_,rfl⟩
   rw [hna] at hr hNb
   have NA:=zAA (fun W=>by have h:=NA.out W;rw [show cJ ((s.take 20).drop 12)=na by rw [e20,hna]] at h;exact h)
   clear hna e20
   generalize cJ ((s.take 12).drop 6)=nb at hr NB
   have hcv:zA8.wrap (na:Int)=i8 na:=by rw [Gs];unfold i8;split<;>omega
   have hv1: -128≤i8 na∧i8 na≤127:=by unfold i8;split<;>omega
   obtain ⟨v,hv⟩:∃v,i8 na=v:=⟨_,rfl⟩
   rw [hv] at hr hcv hv1
   obtain ⟨hv1,hv2⟩:=hv1
   clear hv
   cases q1:(v==0) with
   |true=>
    rw [q1,Bool.true_or,if_pos rfl] at hr
    subst hr
    go_wp2_with (go_at_call 295;refine (NA.out _).mono ?_;rintro e w4 ⟨rfl,hb4⟩;have HC4:=zAA (bz HC3.out hb4);clear hb4;clear c0 c1 c1' c2 c3 c4 f1 f1' f2 f3 f4;have hx:=HC4.out.2.1;unfold fe at hx;have c0:=hx.head.cell 0;have c1:=hx.tail.head.cell 0;have c1':=hx.tail.head.cell 1;have c2:=hx.tail.tail.head.cell 0;have c3:=hx.tail.tail.tail.head.cell 0;have c4:=hx.tail.tail.tail.tail.head.cell 0;have f1:=hx.tail.head.frozen 0;have f1':=hx.tail.head.frozen 1;have f2:=hx.tail.tail.head.frozen 0;have f3:=hx.tail.tail.tail.head.frozen 0;have f4:=hx.tail.tail.tail.tail.head.frozen 0;dsimp only at c0 c1 c1' c2 c3 c4 f1 f1' f2 f3 f4;clear hx)
    obtain ⟨q1,q2⟩:=fa ((0,0),false,0,10) (ar HC4.out)
    exact il (v:=kv ((0,0),false,0,10)) (eZ w.heap.size ((0,0),false,0,10) _ _ q1 rfl rfl rfl rfl) ⟨rfl,q2⟩
   |false=>
    cases q2:(v== -128) with
    |true=>
     rw [q1,q2,zA5,if_pos rfl] at hr
     subst hr
     go_wp2_with (go_at_call 295;refine (NA.out _).mono ?_;rintro e w4 ⟨rfl,hb4⟩;have HC4:=zAA (bz HC3.out hb4);clear hb4;clear c0 c1 c1' c2 c3 c4 f1 f1' f2 f3 f4;have hx:=HC4.out.2.1;unfold fe at hx;have c0:=hx.head.cell 0;have c1:=hx.tail.head.cell 0;have c1':=hx.tail.head.cell 1;have c2:=hx.tail.tail.head.cell 0;have c3:=hx.tail.tail.tail.head.cell 0;have c4:=hx.tail.tail.tail.tail.head.cell 0;have f1:=hx.tail.head.frozen 0;have f1':=hx.tail.head.frozen 1;have f2:=hx.tail.tail.head.frozen 0;have f3:=hx.tail.tail.tail.head.frozen 0;have f4:=hx.tail.tail.tail.tail.head.frozen 0;dsimp only at c0 c1 c1' c2 c3 c4 f1 f1' f2 f3 f4;clear hx)
     obtain ⟨q1,q2⟩:=fa ((0,0),false,0,10) (ar HC4.out)
     exact il (v:=kv ((0,0),false,0,10)) (eZ w.heap.size ((0,0),false,0,10) _ _ q1 rfl rfl rfl rfl) ⟨rfl,q2⟩
    |false=>
     rw [q1,q2,zA5,if_neg (by decide)] at hr
     subst hr
     have HTOK:=zAA trivial
     go_wp2_with (first|(clear HTOK;go_at_call 295;refine (NA.out _).mono ?_;rintro e w4 ⟨rfl,hb4⟩;have HC4:=zAA (bz HC3.out hb4);clear hb4;clear c0 c1 c1' c2 c3 c4 f1 f1' f2 f3 f4;have hx:=HC4.out.2.1;unfold fe at hx;have c0:=hx.head.cell 0;have c1:=hx.tail.head.cell 0;have c1':=hx.tail.head.cell 1;have c2:=hx.tail.tail.head.cell 0;have c3:=hx.tail.tail.tail.head.cell 0;have c4:=hx.tail.tail.tail.tail.head.cell 0;have f1:=hx.tail.head.frozen 0;have f1':=hx.tail.head.frozen 1;have f2:=hx.tail.tail.head.frozen 0;have f3:=hx.tail.tail.tail.head.frozen 0;have f4:=hx.tail.tail.tail.tail.head.frozen 0;dsimp only at c0 c1 c1' c2 c3 c4 f1 f1' f2 f3 f4;clear hx)|(go_at_call 295;refine (NB.out _).mono ?_;rintro e w5 ⟨rfl,hb5⟩;have HC5:=zAA (bz HC4.out hb5);clear hb5;clear c0 c1 c1' c2 c3 c4 f1 f1' f2 f3 f4;have hx:=HC5.out.2.1;unfold fe at hx;have c0:=hx.head.cell 0;have c1:=hx.tail.head.cell 0;have c1':=hx.tail.head.cell 1;have c2:=hx.tail.tail.head.cell 0;have c3:=hx.tail.tail.tail.head.cell 0;have c4:=hx.tail.tail.tail.tail.head.cell 0;have f1:=hx.tail.head.frozen 0;have f1':=hx.tail.head.frozen 1;have f2:=hx.tail.tail.head.frozen 0;have f3:=hx.tail.tail.tail.head.frozen 0;have f4:=hx.tail.tail.tail.tail.head.frozen 0;dsimp only at c0 c1 c1' c2 c3 c4 f1 f1' f2 f3 f4;clear hx))
     obtain ⟨q1,q2⟩:=fa (((nb:Nat),v),false,20,0) (ar HC5.out)
     exact il (v:=kv (((nb:Nat),v),false,20,0)) (eZ w.heap.size (((nb:Nat),v),false,20,0) _ _ q1 rfl rfl rfl rfl) ⟨rfl,q2⟩
 |false=>
  rw [he,if_neg (by decide)] at hr
  cases first with
  |false=>
   cases hp:bJ.isPrefixOf s with
   |true=>
    rw [hp,if_pos (show (!false&&true)=true by decide)] at hr
    subst hr
    have hp2:zA6 (bs s).data.toList (bs bJ).data.toList=true:=by rw [eA,eA];exact hp
    have HP:=zAA (fun W=>Tryz.strings_HasPrefix (bs s) (bs bJ) W)
    rw [hp2] at HP
    go_wp2_with (go_at_call 187;refine (HP.out _).mono ?_;rintro e w4 ⟨rfl,rfl⟩)
    obtain ⟨q1,q2⟩:=fa ((0,0),true,2,0) (ar HC3.out)
    exact il (v:=kv ((0,0),true,2,0)) (eZ w.heap.size ((0,0),true,2,0) _ _ q1 rfl rfl rfl rfl) ⟨rfl,q2⟩
   |false=>
    rw [hp,if_neg (show ¬((!false&&false)=true) by decide)] at hr
    have hp2:zA6 (bs s).data.toList (bs bJ).data.toList=false:=by rw [eA,eA];exact hp
    have HP:=zAA (fun W=>Tryz.strings_HasPrefix (bs s) (bs bJ) W)
    rw [hp2] at HP
    obtain ⟨m0,hm0⟩:∃m0,bW s bJ=m0:=⟨_,rfl⟩
    have SE:=zAA (fun W=>kY s bJ W)
    rw [hm0] at hr SE
    rw [show (!false&&m0)=m0 by simp] at hr
    have HR:=zAA hr
    clear hr hp hp2 hm0 he
    go_wp2_with (first|(go_at_call 187;refine (HP.out _).mono ?_;rintro e w4 ⟨rfl,rfl⟩)|(go_at_call 294;refine (SE.out _).mono ?_;rintro e w4 ⟨rfl,hb4⟩;have HC4:=zAA (bz HC3.out hb4);clear hb4)|(go_at_call 245;refine (m7 false _).mono ?_;rintro e w' ⟨rfl,rfl⟩))
    obtain ⟨hcB,hsz4⟩:ay w ((w4.heap.size+1,4,#[.bool false])::(w4.heap.size,4,#[.bool m0])::(b,9,#[.string (bs s)])::fe w.heap.size ((0,0),false,0,0)) [] ((w4.alloc (.cells #[.bool m0] 4)).alloc (.cells #[.bool false] 4))∧b<w4.heap.size:=by
     refine ⟨dO (ao (dO (ao HC4.out _) (ab.new _ _ _)) _) (aD (ab.new _ _ _) (by simp)),HC4.out.2.1.head.lt⟩
    obtain ⟨g1,hg1⟩:∃g1,w4.heap.size=g1:=⟨_,rfl⟩
    rw [hg1] at hcB hsz4⊢
    obtain ⟨W,hW⟩:∃W,(w4.alloc (.cells #[.bool m0] 4)).alloc (.cells #[.bool false] 4)=W:=⟨_,rfl⟩
    have hWs:W.heap.size=g1+2:=by rw [←hW];simp;omega
    rw [hW] at hcB⊢
    clear hW hg1
    have HCB:=zAA hcB
    have HWS:=zAA hWs
    clear hcB hWs
    refine (wpIn_wide (n:=5)).1 ?_
    refine C5 (α:=(Int×Int)×List UInt8) (enc:=lW) (I:=cR w (fun pre (more:Bool)=>∀T,bL s (pre++T) m0=bL s T more) (fun _ more=>iO w.heap.size g1 b false more s) (fun _ _=>[])) (I2:=cR w (fun pre (more:Bool)=>∀T,bL s (pre++T) m0=bL s T more) (fun _ more=>iO w.heap.size g1 b false more s) (fun _ _=>[])) (S:=fun xs=>xs=aX false) (Sp:=fun pre=>pre<+:aX false)
     rfl (by decide) (gf:=270) (lb:= #[.pointer (some ⟨g1+1,0,none⟩)]) rfl trivial (enters_of Tryz.func270 (by kernel_rfl) rfl)
     (qb 4 (by decide) (g1+1) false _ gC ?hIs) (fun _=>rfl)
     (fun cd _ W=>mY w (fe w.heap.size r) cd W)
     (fun pre x g W=>cR w (fun pre (more:Bool)=>(∀T,bL s (pre++T) m0=bL s T more)∧b<g) (fun _ more=>(g,189,#[.int .i64 x.1.1,.int .i64 x.1.2])::iO w.heap.size g1 b false more s) (fun _ _=>[]) pre W)
     (bq HCB.out.1.size _ _ _) (bq HCB.out.1.size _ _ _) (fun cd=>ik HCB.out.1.size _ _) (fun x g=>bq HCB.out.1.size _ _ _) ?start ?round ?done ?stop
    case hIs=>
     rintro pre W' ⟨⟨_,_,hc⟩⟩
     exact ⟨hc.2.1.head,HT.out.below hc.1⟩
    case start=>exact ⟨⟨m0,fun T=>rfl,HCB.out⟩⟩
    case round=>
     apply Exists.intro
     refine And.intro ?_ ?_
     ·rintro lp pre x W' ⟨⟨u,hu,hc⟩⟩ hsp
      have HU:=zAA hu;have HC:=zAA hc
      clear hu hc hsp
      unfold lW
      gi_wp2
      obtain ⟨g0,hg0⟩:∃g0,W'.heap.size=g0:=⟨_,rfl⟩
      have hcc:=dO (ao HC.out (.cells #[.int .i64 x.1.1,.int .i64 x.1.2] 189)) (aD (ab.new W' 189 #[.int .i64 x.1.1,.int .i64 x.1.2]) hg0)
      rw [hg0]
      exact ⟨⟨g0,rfl,⟨u,⟨HU.out,hg0▸HC.out.2.1.tail.tail.head.lt⟩,hcc⟩⟩,ce (KeepsFrom.refl _ _) _,(bO.refl _ _).alloc _⟩
     ·rintro lp pre x g W' ⟨⟨more,⟨hu,hbg⟩,hc⟩⟩ hsp
      obtain ⟨⟨q1,q2⟩,cc⟩:=x
      dsimp only at hc
      have hs:=hc.2.1
      unfold iO at hs
      have s0:=hs.tail.tail.tail.head.cell 0
      dsimp only at s0
      have SMC:=zAA (fun W=>kY s cc W)
      have HC:=zAA hc;have HU:=zAA hu;have HSP:=zAA hsp
      clear hc hu hsp hs
      cases e1:bW s cc with
      |false=>
       have HM:=zAA (fun T=>ru (p:=(q1,q2)) (T:=T) (more:=more) e1)
       rw [e1] at SMC
       clear e1
       gi_wp2_with (refine ⟨trivial,?_⟩;gi_at_call 294;refine (callsIn_wide.2 (SMC.out _)).mono ?_;rintro e w5 ⟨rfl,hb5⟩;have HB5:=zAA hb5;clear hb5)
       refine ⟨fO HB5.out,(bO.refl _ _).below HB5.out,⟨⟨more,fun T=>?_,bz (ar HC.out) HB5.out⟩⟩⟩
       rw [zAF,zAE,HU.out,HM.out]
      |true=>
       by_cases hl:s.length≤cc.length
       ·have HM:=zAA (fun T=>nd (p:=(q1,q2)) (T:=T) (more:=more) e1 hl)
        rw [e1] at SMC
        have hl2:((s.length:Nat):Int)≤((cc.length:Nat):Int):=by omega
        clear e1 hl
        gi_wp2_with (refine ⟨trivial,?_⟩;gi_at_call 294;refine (callsIn_wide.2 (SMC.out _)).mono ?_;rintro e w5 ⟨rfl,hb5⟩;have HC5:=zAA (bz HC.out hb5);have HB5:=zAA hb5;clear hb5;have hx:=HC5.out.2.1;unfold iO at hx;have s5:=hx.tail.tail.tail.head.cell 0;have m5:=hx.tail.tail.head.cell 0;have f5:=hx.tail.tail.head.frozen 0;dsimp only at s5 m5 f5;clear hx)
        refine ⟨ak (fO HB5.out) _ _,((bO.refl _ _).below HB5.out).set _ (by rw [HWS.out];show g1<_;omega) _,⟨⟨true,fun T=>?_,?_⟩⟩⟩
        ·rw [zAF,zAE,HU.out,HM.out]
        ·exact wT HC5.out hsz4 HBB.out
       ·have HM:=zAA (fun T=>po (p:=(q1,q2)) (T:=T) (more:=more) e1 hl)
        rw [e1] at SMC
        have hl2:¬((s.length:Nat):Int)≤((cc.length:Nat):Int):=by omega
        clear e1
        have hlc:cc.length<s.length:=by omega
        have hl20:((cc.length:Nat):Int)≤20:=by omega
        have hq2:=yo (x:=((q1,q2),cc)) (zA7.mem (by simp) HSP.out)
        dsimp only at hq2
        have hwn:wrap64 (-q2)= -q2:=by unfold wrap64;omega
        have hg0:¬w.heap.size=g:=by have:=HBB.out;omega
        have hg1:¬w.heap.size+1=g:=by have:=HBB.out;omega
        have hg2:¬w.heap.size+2=g:=by have:=HBB.out;omega
        have hg3:¬w.heap.size+3=g:=by have:=HBB.out;omega
        have hgd:s.getD cc.length 0=s[cc.length]:=by simp [hlc]
        have HRR:=zAA (show r=((q1,if s[cc.length]==49 then -q2 else q2),false,(cc.length:Int)+1,0) by
         obtain ⟨t,ht⟩:=HSP.out
         rw [←HR.out,←ht,zAF,HU.out,zAE,HM.out,hgd])
        have hu8:(s[cc.length]==49)=(((s[cc.length].toNat:Nat):Int)==49):=Gz _
        rw [hu8] at HRR
        clear HM hgd hl hlen hu8 hq2
        cases e2:(((s[cc.length].toNat:Nat):Int)==49) with
        |true=>
         rw [e2,if_pos rfl] at HRR
         gi_wp2_with (refine ⟨trivial,?_⟩;gi_at_call 294;refine (callsIn_wide.2 (SMC.out _)).mono ?_;rintro e w5 ⟨rfl,hb5⟩;have HC5:=zAA (bz HC.out hb5);have HB5:=zAA hb5;clear hb5;have hx:=HC5.out.2.1;unfold iO at hx;have p50:=hx.head.cell 0;have p51:=hx.head.cell 1;have s5:=hx.tail.tail.tail.head.cell 0;have p5f:=hx.head.frozen 1;unfold fe at hx;have c1:=hx.tail.tail.tail.tail.head.cell 0;have c1':=hx.tail.tail.tail.tail.head.cell 1;have c2:=hx.tail.tail.tail.tail.tail.head.cell 0;have c3:=hx.tail.tail.tail.tail.tail.tail.head.cell 0;have c4:=hx.tail.tail.tail.tail.tail.tail.tail.head.cell 0;have f1:=hx.tail.tail.tail.tail.head.frozen 0;have f1':=hx.tail.tail.tail.tail.head.frozen 1;have f2:=hx.tail.tail.tail.tail.tail.head.frozen 0;have f3:=hx.tail.tail.tail.tail.tail.tail.head.frozen 0;have f4:=hx.tail.tail.tail.tail.tail.tail.tail.head.frozen 0;dsimp only at p50 p51 s5 p5f c1 c1' c2 c3 c4 f1 f1' f2 f3 f4;clear hx)
         have hcG:=AF (u:= .int .i64 (-q2)) (ar (ar (ar (ar HC5.out)))) (g:=g) 1 (by have:=HBB.out;omega)
         obtain ⟨k1,k2⟩:=fa ((q1, -q2),false,(cc.length:Int)+1,0) hcG
         rw [HRR.out]
         exact ⟨ak (ak (ak (ak (ak (ak (fO HB5.out) _ _) _ _) _ _) _ _) _ _) _ _,rfl,k2,k1,aE _⟩
        |false=>
         rw [e2,if_neg (by decide)] at HRR
         gi_wp2_with (refine ⟨trivial,?_⟩;gi_at_call 294;refine (callsIn_wide.2 (SMC.out _)).mono ?_;rintro e w5 ⟨rfl,hb5⟩;have HC5:=zAA (bz HC.out hb5);have HB5:=zAA hb5;clear hb5;have hx:=HC5.out.2.1;unfold iO at hx;have p50:=hx.head.cell 0;have p51:=hx.head.cell 1;have s5:=hx.tail.tail.tail.head.cell 0;have p5f:=hx.head.frozen 1;unfold fe at hx;have c1:=hx.tail.tail.tail.tail.head.cell 0;have c1':=hx.tail.tail.tail.tail.head.cell 1;have c2:=hx.tail.tail.tail.tail.tail.head.cell 0;have c3:=hx.tail.tail.tail.tail.tail.tail.head.cell 0;have c4:=hx.tail.tail.tail.tail.tail.tail.tail.head.cell 0;have f1:=hx.tail.tail.tail.tail.head.frozen 0;have f1':=hx.tail.tail.tail.tail.head.frozen 1;have f2:=hx.tail.tail.tail.tail.tail.head.frozen 0;have f3:=hx.tail.tail.tail.tail.tail.tail.head.frozen 0;have f4:=hx.tail.tail.tail.tail.tail.tail.tail.head.frozen 0;dsimp only at p50 p51 s5 p5f c1 c1' c2 c3 c4 f1 f1' f2 f3 f4;clear hx)
         obtain ⟨k1,k2⟩:=fa ((q1,q2),false,(cc.length:Int)+1,0) (ar (ar (ar (ar HC5.out))))
         rw [HRR.out]
         exact ⟨ak (ak (ak (ak (ak (fO HB5.out) _ _) _ _) _ _) _ _) _ _,rfl,k2,k1,aE _⟩
    case done=>
     rintro D xs W2 hD rfl ⟨⟨more,hu,hc⟩⟩ hK
     cases more with
     |true=>
      have hrr:r=((0,0),false,0,5):=by
       have h:=hu []
       rw [zAP] at h
       rw [←HR.out,h];rfl
      have HC:=zAA hc;have HK:=zAA hK;have HRR:=zAA hrr
      have hx:=hc.2.1
      clear hc hK hrr hu
      unfold iO fe at hx
      have m5:=hx.tail.head.cell 0;have c1:=hx.tail.tail.tail.head.cell 0;have c1':=hx.tail.tail.tail.head.cell 1;have c2:=hx.tail.tail.tail.tail.head.cell 0;have c3:=hx.tail.tail.tail.tail.tail.head.cell 0;have c4:=hx.tail.tail.tail.tail.tail.tail.head.cell 0;have f1:=hx.tail.tail.tail.head.frozen 0;have f1':=hx.tail.tail.tail.head.frozen 1;have f2:=hx.tail.tail.tail.tail.head.frozen 0;have f3:=hx.tail.tail.tail.tail.tail.head.frozen 0;have f4:=hx.tail.tail.tail.tail.tail.tail.head.frozen 0;dsimp only at m5 c1 c1' c2 c3 c4 f1 f1' f2 f3 f4;clear hx
      gi_wp2_with fail
      go_wp2_with fail
      obtain ⟨k1,k2⟩:=fa ((0,0),false,0,5) (ar (ar (ar HC.out)))
      have hK5:=ql (h:=w.heap.size) ((0,0),false,0,5) (by rw [HWS.out] at hD;have:=HBB.out;omega) HK.out
      rw [HRR.out]
      exact ef hK5 (v:=kv ((0,0),false,0,5)) (eZ w.heap.size ((0,0),false,0,5) _ _ (cF (o':= .deferred none) k1 hK5 rfl) rfl rfl rfl rfl) ⟨rfl,cq k2 (by rw [HWS.out] at hD;have:=HBB.out;omega)⟩
     |false=>
      have hrr:r=((0,0),false,0,7):=by
       have h:=hu []
       rw [zAP] at h
       rw [←HR.out,h];rfl
      have HC:=zAA hc;have HK:=zAA hK;have HRR:=zAA hrr
      have hx:=hc.2.1
      clear hc hK hrr hu
      unfold iO fe at hx
      have m5:=hx.tail.head.cell 0;have c1:=hx.tail.tail.tail.head.cell 0;have c1':=hx.tail.tail.tail.head.cell 1;have c2:=hx.tail.tail.tail.tail.head.cell 0;have c3:=hx.tail.tail.tail.tail.tail.head.cell 0;have c4:=hx.tail.tail.tail.tail.tail.tail.head.cell 0;have f1:=hx.tail.tail.tail.head.frozen 0;have f1':=hx.tail.tail.tail.head.frozen 1;have f2:=hx.tail.tail.tail.tail.head.frozen 0;have f3:=hx.tail.tail.tail.tail.tail.head.frozen 0;have f4:=hx.tail.tail.tail.tail.tail.tail.head.frozen 0;dsimp only at m5 c1 c1' c2 c3 c4 f1 f1' f2 f3 f4;clear hx
      gi_wp2_with fail
      go_wp2_with fail
      obtain ⟨k1,k2⟩:=fa ((0,0),false,0,7) (ar (ar (ar HC.out)))
      have hK5:=ql (h:=w.heap.size) ((0,0),false,0,7) (by rw [HWS.out] at hD;have:=HBB.out;omega) HK.out
      rw [HRR.out]
      exact ef hK5 (v:=kv ((0,0),false,0,7)) (eZ w.heap.size ((0,0),false,0,7) _ _ (cF (o':= .deferred none) k1 hK5 rfl) rfl rfl rfl rfl) ⟨rfl,cq k2 (by rw [HWS.out] at hD;have:=HBB.out;omega)⟩
    case stop=>
     rintro D cd pre W2 hD hsp ⟨rfl,hbel,hcs,_⟩ hK
     have HBel:=zAA hbel;have HCS:=zAA hcs;have HK:=zAA hK
     clear hbel hcs hK hsp
     gi_wp2_with fail
     exact ef HK.out (v:=kv r) (eZ w.heap.size r _ _ (cF (o':= .deferred none) HCS.out HK.out rfl) rfl rfl rfl rfl) ⟨rfl,cq HBel.out (by rw [HWS.out] at hD;have:=HBB.out;omega)⟩
  |true=>
   rw [if_neg (show ¬((!true&&bJ.isPrefixOf s)=true) by simp),show (!true&&bW s bJ)=false from rfl] at hr
   have HR:=zAA hr
   clear hr he
   go_wp2_with (first|(go_at_call 245;refine (m7 true _).mono ?_;rintro e w' ⟨rfl,rfl⟩)|fail)
   obtain ⟨hcB,hsz4⟩:ay w ((w3.heap.size+1,4,#[.bool true])::(w3.heap.size,4,#[.bool false])::(b,9,#[.string (bs s)])::fe w.heap.size ((0,0),false,0,0)) [] ((w3.alloc (.cells #[.bool false] 4)).alloc (.cells #[.bool true] 4))∧b<w3.heap.size:=by
    refine ⟨dO (ao (dO (ao HC3.out _) (ab.new _ _ _)) _) (aD (ab.new _ _ _) (by simp)),HC3.out.2.1.head.lt⟩
   obtain ⟨g1,hg1⟩:∃g1,w3.heap.size=g1:=⟨_,rfl⟩
   rw [hg1] at hcB hsz4⊢
   obtain ⟨W,hW⟩:∃W,(w3.alloc (.cells #[.bool false] 4)).alloc (.cells #[.bool true] 4)=W:=⟨_,rfl⟩
   have hWs:W.heap.size=g1+2:=by rw [←hW];simp;omega
   rw [hW] at hcB⊢
   clear hW hg1
   have HCB:=zAA hcB
   have HWS:=zAA hWs
   clear hcB hWs
   refine (wpIn_wide (n:=5)).1 ?_
   refine C5 (α:=(Int×Int)×List UInt8) (enc:=lW) (I:=cR w (fun pre (more:Bool)=>∀T,bL s (pre++T) false=bL s T more) (fun _ more=>iO w.heap.size g1 b true more s) (fun _ _=>[])) (I2:=cR w (fun pre (more:Bool)=>∀T,bL s (pre++T) false=bL s T more) (fun _ more=>iO w.heap.size g1 b true more s) (fun _ _=>[])) (S:=fun xs=>xs=aX true) (Sp:=fun pre=>pre<+:aX true)
    rfl (by decide) (gf:=270) (lb:= #[.pointer (some ⟨g1+1,0,none⟩)]) rfl trivial (enters_of Tryz.func270 (by kernel_rfl) rfl)
    (qb 4 (by decide) (g1+1) true _ gC ?hIs) (fun _=>rfl)
    (fun cd _ W=>mY w (fe w.heap.size r) cd W)
    (fun pre x g W=>cR w (fun pre (more:Bool)=>(∀T,bL s (pre++T) false=bL s T more)∧b<g) (fun _ more=>(g,189,#[.int .i64 x.1.1,.int .i64 x.1.2])::iO w.heap.size g1 b true more s) (fun _ _=>[]) pre W)
    (bq HCB.out.1.size _ _ _) (bq HCB.out.1.size _ _ _) (fun cd=>ik HCB.out.1.size _ _) (fun x g=>bq HCB.out.1.size _ _ _) ?start ?round ?done ?stop
   case hIs=>
    rintro pre W' ⟨⟨_,_,hc⟩⟩
    exact ⟨hc.2.1.head,HT.out.below hc.1⟩
   case start=>exact ⟨⟨false,fun T=>rfl,HCB.out⟩⟩
   case round=>
    apply Exists.intro
    refine And.intro ?_ ?_
    ·rintro lp pre x W' ⟨⟨u,hu,hc⟩⟩ hsp
     have HU:=zAA hu;have HC:=zAA hc
     clear hu hc hsp
     unfold lW
     gi_wp2
     obtain ⟨g0,hg0⟩:∃g0,W'.heap.size=g0:=⟨_,rfl⟩
     have hcc:=dO (ao HC.out (.cells #[.int .i64 x.1.1,.int .i64 x.1.2] 189)) (aD (ab.new W' 189 #[.int .i64 x.1.1,.int .i64 x.1.2]) hg0)
     rw [hg0]
     exact ⟨⟨g0,rfl,⟨u,⟨HU.out,hg0▸HC.out.2.1.tail.tail.head.lt⟩,hcc⟩⟩,ce (KeepsFrom.refl _ _) _,(bO.refl _ _).alloc _⟩
    ·rintro lp pre x g W' ⟨⟨more,⟨hu,hbg⟩,hc⟩⟩ hsp
     obtain ⟨⟨q1,q2⟩,cc⟩:=x
     dsimp only at hc
     have hs:=hc.2.1
     unfold iO at hs
     have s0:=hs.tail.tail.tail.head.cell 0
     dsimp only at s0
     have SMC:=zAA (fun W=>kY s cc W)
     have HC:=zAA hc;have HU:=zAA hu;have HSP:=zAA hsp
     clear hc hu hsp hs
     cases e1:bW s cc with
     |false=>
      have HM:=zAA (fun T=>ru (p:=(q1,q2)) (T:=T) (more:=more) e1)
      rw [e1] at SMC
      clear e1
      gi_wp2_with (refine ⟨trivial,?_⟩;gi_at_call 294;refine (callsIn_wide.2 (SMC.out _)).mono ?_;rintro e w5 ⟨rfl,hb5⟩;have HB5:=zAA hb5;clear hb5)
      refine ⟨fO HB5.out,(bO.refl _ _).below HB5.out,⟨⟨more,fun T=>?_,bz (ar HC.out) HB5.out⟩⟩⟩
      rw [zAF,zAE,HU.out,HM.out]
     |true=>
      by_cases hl:s.length≤cc.length
      ·have HM:=zAA (fun T=>nd (p:=(q1,q2)) (T:=T) (more:=more) e1 hl)
       rw [e1] at SMC
       have hl2:((s.length:Nat):Int)≤((cc.length:Nat):Int):=by omega
       clear e1 hl
       gi_wp2_with (refine ⟨trivial,?_⟩;gi_at_call 294;refine (callsIn_wide.2 (SMC.out _)).mono ?_;rintro e w5 ⟨rfl,hb5⟩;have HC5:=zAA (bz HC.out hb5);have HB5:=zAA hb5;clear hb5;have hx:=HC5.out.2.1;unfold iO at hx;have s5:=hx.tail.tail.tail.head.cell 0;have m5:=hx.tail.tail.head.cell 0;have f5:=hx.tail.tail.head.frozen 0;dsimp only at s5 m5 f5;clear hx)
       refine ⟨ak (fO HB5.out) _ _,((bO.refl _ _).below HB5.out).set _ (by rw [HWS.out];show g1<_;omega) _,⟨⟨true,fun T=>?_,?_⟩⟩⟩
       ·rw [zAF,zAE,HU.out,HM.out]
       ·exact wT HC5.out hsz4 HBB.out
      ·have HM:=zAA (fun T=>po (p:=(q1,q2)) (T:=T) (more:=more) e1 hl)
       rw [e1] at SMC
       have hl2:¬((s.length:Nat):Int)≤((cc.length:Nat):Int):=by omega
       clear e1
       have hlc:cc.length<s.length:=by omega
       have hl20:((cc.length:Nat):Int)≤20:=by omega
       have hq2:=yo (x:=((q1,q2),cc)) (zA7.mem (by simp) HSP.out)
       dsimp only at hq2
       have hwn:wrap64 (-q2)= -q2:=by unfold wrap64;omega
       have hg0:¬w.heap.size=g:=by have:=HBB.out;omega
       have hg1:¬w.heap.size+1=g:=by have:=HBB.out;omega
       have hg2:¬w.heap.size+2=g:=by have:=HBB.out;omega
       have hg3:¬w.heap.size+3=g:=by have:=HBB.out;omega
       have hgd:s.getD cc.length 0=s[cc.length]:=by simp [hlc]
       have HRR:=zAA (show r=((q1,if s[cc.length]==49 then -q2 else q2),false,(cc.length:Int)+1,0) by
        obtain ⟨t,ht⟩:=HSP.out
        rw [←HR.out,←ht,zAF,HU.out,zAE,HM.out,hgd])
       have hu8:(s[cc.length]==49)=(((s[cc.length].toNat:Nat):Int)==49):=Gz _
       rw [hu8] at HRR
       clear HM hgd hl hlen hu8 hq2
       cases e2:(((s[cc.length].toNat:Nat):Int)==49) with
       |true=>
        rw [e2,if_pos rfl] at HRR
        gi_wp2_with (refine ⟨trivial,?_⟩;gi_at_call 294;refine (callsIn_wide.2 (SMC.out _)).mono ?_;rintro e w5 ⟨rfl,hb5⟩;have HC5:=zAA (bz HC.out hb5);have HB5:=zAA hb5;clear hb5;have hx:=HC5.out.2.1;unfold iO at hx;have p50:=hx.head.cell 0;have p51:=hx.head.cell 1;have s5:=hx.tail.tail.tail.head.cell 0;have p5f:=hx.head.frozen 1;unfold fe at hx;have c1:=hx.tail.tail.tail.tail.head.cell 0;have c1':=hx.tail.tail.tail.tail.head.cell 1;have c2:=hx.tail.tail.tail.tail.tail.head.cell 0;have c3:=hx.tail.tail.tail.tail.tail.tail.head.cell 0;have c4:=hx.tail.tail.tail.tail.tail.tail.tail.head.cell 0;have f1:=hx.tail.tail.tail.tail.head.frozen 0;have f1':=hx.tail.tail.tail.tail.head.frozen 1;have f2:=hx.tail.tail.tail.tail.tail.head.frozen 0;have f3:=hx.tail.tail.tail.tail.tail.tail.head.frozen 0;have f4:=hx.tail.tail.tail.tail.tail.tail.tail.head.frozen 0;dsimp only at p50 p51 s5 p5f c1 c1' c2 c3 c4 f1 f1' f2 f3 f4;clear hx)
        have hcG:=AF (u:= .int .i64 (-q2)) (ar (ar (ar (ar HC5.out)))) (g:=g) 1 (by have:=HBB.out;omega)
        obtain ⟨k1,k2⟩:=fa ((q1, -q2),false,(cc.length:Int)+1,0) hcG
        rw [HRR.out]
        exact ⟨ak (ak (ak (ak (ak (ak (fO HB5.out) _ _) _ _) _ _) _ _) _ _) _ _,rfl,k2,k1,aE _⟩
       |false=>
        rw [e2,if_neg (by decide)] at HRR
        gi_wp2_with (refine ⟨trivial,?_⟩;gi_at_call 294;refine (callsIn_wide.2 (SMC.out _)).mono ?_;rintro e w5 ⟨rfl,hb5⟩;have HC5:=zAA (bz HC.out hb5);have HB5:=zAA hb5;clear hb5;have hx:=HC5.out.2.1;unfold iO at hx;have p50:=hx.head.cell 0;have p51:=hx.head.cell 1;have s5:=hx.tail.tail.tail.head.cell 0;have p5f:=hx.head.frozen 1;unfold fe at hx;have c1:=hx.tail.tail.tail.tail.head.cell 0;have c1':=hx.tail.tail.tail.tail.head.cell 1;have c2:=hx.tail.tail.tail.tail.tail.head.cell 0;have c3:=hx.tail.tail.tail.tail.tail.tail.head.cell 0;have c4:=hx.tail.tail.tail.tail.tail.tail.tail.head.cell 0;have f1:=hx.tail.tail.tail.tail.head.frozen 0;have f1':=hx.tail.tail.tail.tail.head.frozen 1;have f2:=hx.tail.tail.tail.tail.tail.head.frozen 0;have f3:=hx.tail.tail.tail.tail.tail.tail.head.frozen 0;have f4:=hx.tail.tail.tail.tail.tail.tail.tail.head.frozen 0;dsimp only at p50 p51 s5 p5f c1 c1' c2 c3 c4 f1 f1' f2 f3 f4;clear hx)
        obtain ⟨k1,k2⟩:=fa ((q1,q2),false,(cc.length:Int)+1,0) (ar (ar (ar (ar HC5.out))))
        rw [HRR.out]
        exact ⟨ak (ak (ak (ak (ak (fO HB5.out) _ _) _ _) _ _) _ _) _ _,rfl,k2,k1,aE _⟩
   case done=>
    rintro D xs W2 hD rfl ⟨⟨more,hu,hc⟩⟩ hK
    cases more with
    |true=>
     have hrr:r=((0,0),false,0,5):=by
      have h:=hu []
      rw [zAP] at h
      rw [←HR.out,h];rfl
     have HC:=zAA hc;have HK:=zAA hK;have HRR:=zAA hrr
     have hx:=hc.2.1
     clear hc hK hrr hu
     unfold iO fe at hx
     have m5:=hx.tail.head.cell 0;have c1:=hx.tail.tail.tail.head.cell 0;have c1':=hx.tail.tail.tail.head.cell 1;have c2:=hx.tail.tail.tail.tail.head.cell 0;have c3:=hx.tail.tail.tail.tail.tail.head.cell 0;have c4:=hx.tail.tail.tail.tail.tail.tail.head.cell 0;have f1:=hx.tail.tail.tail.head.frozen 0;have f1':=hx.tail.tail.tail.head.frozen 1;have f2:=hx.tail.tail.tail.tail.head.frozen 0;have f3:=hx.tail.tail.tail.tail.tail.head.frozen 0;have f4:=hx.tail.tail.tail.tail.tail.tail.head.frozen 0;dsimp only at m5 c1 c1' c2 c3 c4 f1 f1' f2 f3 f4;clear hx
     gi_wp2_with fail
     go_wp2_with fail
     obtain ⟨k1,k2⟩:=fa ((0,0),false,0,5) (ar (ar (ar HC.out)))
     have hK5:=ql (h:=w.heap.size) ((0,0),false,0,5) (by rw [HWS.out] at hD;have:=HBB.out;omega) HK.out
     rw [HRR.out]
     exact ef hK5 (v:=kv ((0,0),false,0,5)) (eZ w.heap.size ((0,0),false,0,5) _ _ (cF (o':= .deferred none) k1 hK5 rfl) rfl rfl rfl rfl) ⟨rfl,cq k2 (by rw [HWS.out] at hD;have:=HBB.out;omega)⟩
    |false=>
     have hrr:r=((0,0),false,0,7):=by
      have h:=hu []
      rw [zAP] at h
      rw [←HR.out,h];rfl
     have HC:=zAA hc;have HK:=zAA hK;have HRR:=zAA hrr
     have hx:=hc.2.1
     clear hc hK hrr hu
     unfold iO fe at hx
     have m5:=hx.tail.head.cell 0;have c1:=hx.tail.tail.tail.head.cell 0;have c1':=hx.tail.tail.tail.head.cell 1;have c2:=hx.tail.tail.tail.tail.head.cell 0;have c3:=hx.tail.tail.tail.tail.tail.head.cell 0;have c4:=hx.tail.tail.tail.tail.tail.tail.head.cell 0;have f1:=hx.tail.tail.tail.head.frozen 0;have f1':=hx.tail.tail.tail.head.frozen 1;have f2:=hx.tail.tail.tail.tail.head.frozen 0;have f3:=hx.tail.tail.tail.tail.tail.head.frozen 0;have f4:=hx.tail.tail.tail.tail.tail.tail.head.frozen 0;dsimp only at m5 c1 c1' c2 c3 c4 f1 f1' f2 f3 f4;clear hx
     gi_wp2_with fail
     go_wp2_with fail
     obtain ⟨k1,k2⟩:=fa ((0,0),false,0,7) (ar (ar (ar HC.out)))
     have hK5:=ql (h:=w.heap.size) ((0,0),false,0,7) (by rw [HWS.out] at hD;have:=HBB.out;omega) HK.out
     rw [HRR.out]
     exact ef hK5 (v:=kv ((0,0),false,0,7)) (eZ w.heap.size ((0,0),false,0,7) _ _ (cF (o':= .deferred none) k1 hK5 rfl) rfl rfl rfl rfl) ⟨rfl,cq k2 (by rw [HWS.out] at hD;have:=HBB.out;omega)⟩
   case stop=>
    rintro D cd pre W2 hD hsp ⟨rfl,hbel,hcs,_⟩ hK
    have HBel:=zAA hbel;have HCS:=zAA hcs;have HK:=zAA hK
    clear hbel hcs hK hsp
    gi_wp2_with fail
    exact ef HK.out (v:=kv r) (eZ w.heap.size r _ _ (cF (o':= .deferred none) HCS.out HK.out rfl) rfl rfl rfl rfl) ⟨rfl,cq HBel.out (by rw [HWS.out] at hD;have:=HBB.out;omega)⟩
abbrev fU:Type:=(Int×Int)×Int
def ib (first:Bool) (k:Nat):Bool:=first&&k==0
def cz (l:List UInt8) (i:Int) (first:Bool):Nat→Int
 |0=>i
 |k+1=>cz l i first k+(aL l (cz l i first k) (ib first k)).2.2.1
def gK (l:List UInt8) (i:Int) (first:Bool) (k:Nat):(Int×Int)×Bool×Int×Int:=aL l (cz l i first k) (ib first k)
def mw (l:List UInt8) (i:Int) (first:Bool) (pre:List fU):Prop:=∀k x,pre[k]? =some x→x=((gK l i first k).1,(gK l i first k).2.2.2)∧(gK l i first k).2.1=false
theorem mw.snoc {l:List UInt8} {i:Int} {first:Bool} {pre:List fU} (h:mw l i first pre) (he:(gK l i first pre.length).2.1=false):mw l i first (pre++[((gK l i first pre.length).1,(gK l i first pre.length).2.2.2)]):=by
 intro k x hk
 rcases Nat.lt_trichotomy k pre.length with hlt|heq|hgt
 ·rw [List.getElem?_append_left hlt] at hk;exact h k x hk
 ·subst heq
  rw [zAS (zAL _)] at hk
  simp at hk
  exact ⟨hk.symm,he⟩
 ·rw [zAS (by omega)] at hk
  rw [List.getElem?_eq_none (by simp;omega)] at hk
  cases hk
def mL (s:Nat) (r:(Int×Int)×Bool×Int×Int):Prop:=0≤r.2.2.1∧r.2.2.1≤s∧(r.2.2.2=0→1≤r.2.2.1)∧(r.2.2.2=0→r.2.1=false→0≤r.1.1∧r.1.1≤63∧ -127≤r.1.2∧r.1.2≤127∧r.1.2≠0)∧(r.2.2.2=0∨(r.2.1=false∧r.2.2.1=0))
theorem rv (s:List UInt8):∀(T:List ((Int×Int)×List UInt8)) (more:Bool),(∀x∈T,0≤x.1.1∧x.1.1≤63∧1≤x.1.2∧x.1.2≤127)→mL s.length (bL s T more)
 |[],more,_=>by
  show mL _ ((0,0),false,0,if more then 5 else 7)
  unfold mL
  cases more<;>simp
 |(p,c)::T,more,h=>by
  have hT:=fun x hx=>h x (List.mem_cons_of_mem _ hx)
  cases hs:bW s c with
  |false=>rw [ru hs];exact rv s T more hT
  |true=>
   by_cases hl:s.length≤c.length
   ·rw [nd hs hl];exact rv s T true hT
   ·rw [po hs hl]
    have h0:=h (p,c) (by simp)
    dsimp only at h0
    unfold mL
    dsimp only
    refine ⟨by omega,by omega,fun _=>by omega,fun _ _=>⟨h0.1,h0.2.1,?_⟩,.inl rfl⟩
    split<;>omega
theorem Ie (first:Bool):(aX first).all (fun x=>decide (0≤x.1.1)&&decide (x.1.1≤63)&&decide (1≤x.1.2)&&decide (x.1.2≤127))=true:=by cases first<;>kernel_rfl
theorem nt (l:List UInt8) (i:Int) (first:Bool) (h0:0≤i) (h1:i≤8*(l.length:Int)):mL (8*l.length - i.toNat) (aL l i first):=by
 unfold aL
 rw [if_neg (by omega),if_neg (by omega)]
 dsimp only
 have hlen:(aC l i.toNat (min 20 (8*l.length - i.toNat))).length≤8*l.length - i.toNat:=by rw [bi];omega
 have hl20:(aC l i.toNat (min 20 (8*l.length - i.toNat))).length≤20:=by rw [bi];omega
 have hor:=lR l i.toNat (min 20 (8*l.length - i.toNat))
 generalize aC l i.toNat (min 20 (8*l.length - i.toNat))=s at hlen hor hl20
 generalize 8*l.length - i.toNat=m at hlen
 split
 ·split
  ·unfold mL;simp
  ·rename_i hs20
   split
   ·unfold mL;simp
   ·rename_i hz
    have h6:=rz ((s.take 12).drop 6) 6 (by simp;omega) (fun c hc=>hor c (zAY (zAG hc)))
    have h8:=rz (s.drop 12) 8 (by simp;omega) (fun c hc=>hor c (zAG hc))
    simp only [Bool.or_eq_true,beq_iff_eq,not_or] at hz
    generalize cJ ((s.take 12).drop 6)=a at h6
    unfold mL
    dsimp only
    refine ⟨by omega,by omega,fun _=>by omega,fun _ _=>⟨by omega,by omega,?_⟩,.inl rfl⟩
    have hb:∀n:Nat,n<256→i8 n≠0→i8 n≠ -128→ -127≤i8 n∧i8 n≤127∧i8 n≠0:=fun n hn a b=>by unfold i8 at*;split at* <;>omega
    exact hb _ (by omega) hz.1 hz.2
 ·split
  ·rename_i hp
   simp only [zA2] at hp
   have:=(List.isPrefixOf_iff_prefix.1 hp.2).length_le
   unfold mL
   dsimp only
   have h2:bJ.length=2:=rfl
   refine ⟨by omega,by omega,fun _=>by omega,(fun _ h=>by cases h),.inl rfl⟩
  ·have h:=rv s (aX first) (!first&&bW s bJ) (fun x hx=>by have h:=zA3.1 (Ie first) x hx;simp only [zA2,decide_eq_true_eq] at h;omega)
   unfold mL at h⊢
   exact ⟨h.1,by omega,h.2.2⟩
theorem je (l:List UInt8) (i:Int) (first:Bool) (h0:0≤i) (h1:i≤8*(l.length:Int)):∀k,0≤cz l i first k∧cz l i first k≤8*(l.length:Int)
 |0=>⟨h0,h1⟩
 |k+1=>by
  have ih:=je l i first h0 h1 k
  have h:=nt l (cz l i first k) (ib first k) ih.1 ih.2
  unfold mL at h
  show 0≤cz l i first k+_∧cz l i first k+_≤_
  omega
def IL (gc:Nat) (w:World):Int:=match w.cell? ⟨gc,1,none⟩ with|some (.int .i64 x)=>x|_=>0
theorem qh {w:World} {gc:Nat} {t:TypeId} {v:Value} {x:Int} (h:ab w gc t #[v,.int .i64 x]):IL gc w=x:=by
 unfold IL
 rw [h.cell 1]
 rfl
set_option maxRecDepth 100000 in
set_option maxHeartbeats 8000000 in
theorem uM (n:Nat) (hn:1≤n) (gc b1 b2:Nat) (A:Option Addr) (m c:Nat) (l:List UInt8) (i0:Int) (first:Bool) (hl:l.length=m) (hsz:m≤2 ^ 47) (h0:0≤i0) (h1:i0≤8*(l.length:Int)) (hne:gc≠b2) (C:List fU→World→Prop)
  (hC1:∀pre W v,C pre W→C pre (W.setCell ⟨gc,1,none⟩ v)) (hC2:∀pre W v,C pre W→C pre (W.setCell ⟨b2,0,none⟩ v)) (hCb:∀pre W W',C pre W→Below W.heap.size W W'→C pre W')
  (hC0:∀pre W,C pre W→∀x∈pre,x.2=0) (hCs:∀pre W,C pre W→ab W b1 300 #[.pointer (some ⟨gc,0,none⟩)]∧Sl W A (l.map af)∧Ts W):
  wj Fence.wide n Tryz.prog 288 #[.pointer (some ⟨b1,0,none⟩),.pointer (some ⟨b2,0,none⟩)] (fun x:fU=> #[.agg #[.int .i64 x.1.1,.int .i64 x.1.2],.int .i64 x.2])
   (fun pre W=>C pre W∧ab W gc 302 #[.slice A m c,.int .i64 i0]∧ab W b2 4 #[.bool first])
   (fun pre W=>C pre W∧ab W gc 302 #[.slice A m c,.int .i64 (cz l i0 first (pre.length+1))]∧ab W b2 4 #[.bool false])
   (fun pre W=>C pre W∧ab W gc 302 #[.slice A m c,.int .i64 (cz l i0 first pre.length)]∧ab W b2 4 #[.bool false])
   (fun pre W=>C pre W∧ab W gc 302 #[.slice A m c,.int .i64 (cz l i0 first (pre.length+1))]∧ab W b2 4 #[.bool false])
   (fun xs=>mw l i0 first xs∧(gK l i0 first xs.length).2.1=true) (mw l i0 first):=by
 intro lp K Jx W hK hY h00 hk0
 refine callsIn_of_wp Tryz.func288 rfl trivial ?_ rfl
 simp only [Tryz.ntmps288,zAK,zAN,zAQ,zAH,zAU,Array.replicate_succ,Array.replicate_zero,zAJ,zAI,zAR,zAM]
 have HY:=zAA hY;have HC1:=zAA hC1;have HC2:=zAA hC2;have HCb:=zAA hCb;have HCs:=zAA hCs;have HC0:=zAA hC0;have HK:=zAA hK;have HL:=zAA hl
 have H0:=zAA h00;have HK0:=zAA hk0;have HPO:=zAA (je l i0 first h0 h1);have HNE:=zAA hne
 clear hY hC1 hC2 hCb hCs hC0 hK hl h00 hk0 h0 h1 hne
 gi_wp2_with fail
 gi_loopw [] (fun wr=>∃(pre:List fU),Hid (mw l i0 first pre)∧Hid (C pre wr)∧Hid (ab wr gc 302 #[.slice A m c,.int .i64 (cz l i0 first pre.length)])∧Hid (ab wr b2 4 #[.bool (ib first pre.length)])∧Hid (K wr)) (fun wr=>8*m - (IL gc wr).toNat)
 case atStart=>
  exact ⟨[],zAA (fun k x h=>by simp at h),zAA H0.out.1,zAA H0.out.2.1,zAA (by have h:=H0.out.2.2;unfold ib;simpa using h),HK0⟩
 case round=>
  obtain ⟨pre,HSP,HCr,HBc,HBf,HKr⟩:=hrel
  have x0:=HBc.out.cell 0
  have x1:=HBc.out.cell 1
  have x2:=HBf.out.cell 0
  obtain ⟨hb1,hA,hts⟩:=HCs.out _ _ HCr.out
  have x3:=hb1.cell 0
  have G:=zAA (fun W h1 h2=>Dx A m c l (cz l i0 first pre.length) (ib first pre.length) W h1 HL.out hsz h2)
  have hok:=nt l (cz l i0 first pre.length) (ib first pre.length) (HPO.out _).1 (HPO.out _).2
  have hps:cz l i0 first (pre.length+1)=cz l i0 first pre.length+(aL l (cz l i0 first pre.length) (ib first pre.length)).2.2.1:=rfl
  have hgk:gK l i0 first pre.length=aL l (cz l i0 first pre.length) (ib first pre.length):=rfl
  obtain ⟨⟨⟨p1,p2⟩,en,nb,er⟩,hr⟩:∃r,aL l (cz l i0 first pre.length) (ib first pre.length)=r:=⟨_,rfl⟩
  have hp0:=(HPO.out pre.length)
  have hp1:=(HPO.out (pre.length+1))
  rw [hr] at G hok hps hgk
  unfold kv at G
  dsimp only at G hps
  rw [hps] at hp1
  obtain ⟨pk,hpk⟩:∃pk,cz l i0 first pre.length=pk:=⟨_,rfl⟩
  obtain ⟨fk,hfk⟩:∃fk,ib first pre.length=fk:=⟨_,rfl⟩
  have hlm:(l.length:Int)=(m:Int):=by rw [HL.out]
  rw [hpk] at G hp0 hp1 hps x1 HBc
  rw [hlm] at hp0 hp1
  rw [hfk] at G x2 HBf
  have hwr:IntKind.i64.wrap (pk+nb)=pk+nb:=by rw [IntKind.wrap_i64];omega
  have HPS:=zAA hps;have HGK:=zAA hgk;have HOK:=zAA hok
  have hb12:b1≠b2:=by
   rintro rfl
   have h:=hb1.symm.trans HBf.out
   simp at h
  have hbg1:b1≠gc:=by
   rintro rfl
   have h:=hb1.symm.trans HBc.out
   simp at h
  have hne1:gc≠b2:=HNE.out
  have hne2:b2≠gc:=fun h=>HNE.out h.symm
  have HS0:=zAA (show aa [(gc,302,#[.slice A m c,.int .i64 pk]),(b2,4,#[.bool fk]),(b1,300,#[.pointer (some ⟨gc,0,none⟩)])] wr.drew from aa.cons HBc.out (aa.cons HBf.out (aa.cons hb1 (ag _))))
  have HA0:=zAA (show Sl wr.drew A (l.map af) from hA);have HT0:=zAA (show Ts wr.drew from hts)
  have hlt3:gc<wr.heap.size∧b1<wr.heap.size∧b2<wr.heap.size:=⟨HBc.out.lt,hb1.lt,HBf.out.lt⟩
  have HLT:=zAA hlt3
  have hb21:b2≠b1:=fun h=>hb12 h.symm
  have hgb1:gc≠b1:=fun h=>hbg1 h.symm
  clear hok hps hgk hr hpk hfk hlm hb1 hA hts hlt3
  gi_wp2_with fail
  refine wpIn_wide.2 ?_
  refine ai (fun w'=>aa [(gc,302,#[.slice A m c,.int .i64 pk]),(b2,4,#[.bool fk]),(b1,300,#[.pointer (some ⟨gc,0,none⟩)])] w') 19 (.take 0 (.take 1 (.take 2 (.take 3 (.take 4 (.take 5 (.take 6 (.take 7 (.take 8 (.fork 9 (.take 10 (.take 11 (.take 12 (.take 13 (.take 14 (.step 15 (.step 16 (.step 17 (.step 18 (.done)))))))))) 15 (.step 9 (.take 10 (.take 11 (.take 12 (.take 13 (.take 14 (.step 16 (.step 17 (.step 18 (.done)))))))))))))))))))) (by kernel_rfl) (by kernel_rfl) (by simp only [aR.out,Array.getD_eq_getD_getElem?,List.getElem?_toArray,List.getElem?_cons_zero,List.getElem?_cons_succ,Option.getD_some];rfl) (by simp only [List.map_cons,List.map_nil];rfl) (HS0.out) (fun PE hPE=>?_)
  iterate 9
   refine ah (v:=?_) rfl (by rfl) ?_ ?_
   rotate_left
   ·intro _ hSw;(try dsimp only at hSw);have z0:=hSw.head.cell 0;have z1:=hSw.head.cell 1;have z2:=hSw.tail.head.cell 0;have z3:=hSw.tail.tail.head.cell 0;dsimp only at z0 z1 z2 z3;go_simp;(try with_reducible rfl)
   simp only [zAB,zAD,zAC]
  refine ⟨?_,?_⟩
  ·refine aV (f:=289) rfl (by rfl) (by first|(go_simp;done)|(go_simp;rfl)) (G.out _ HA0.out HT0.out) ?_
   rintro e w2 ⟨rfl,hb2⟩
   have hS2:=HS0.out.below hb2
   refine ⟨_,rfl,_,fun _ h=>h,hS2,?_⟩
   simp only [zAB,zAD,zAC]
   iterate 5
    refine ah (v:=?_) rfl (by rfl) ?_ ?_
    rotate_left
    ·intro _ hSw;(try dsimp only at hSw);go_simp;(try with_reducible rfl)
    simp only [zAB,zAD,zAC]
   obtain ⟨g,hg⟩:∃g,w2.heap.size=g:=⟨_,rfl⟩
   have hgl:wr.heap.size≤g:=by have:=hb2.size;simp at this;omega
   obtain ⟨hl1,hl2,hl3⟩:=HLT.out
   have hggc:g≠gc:=by omega
   have hgb2:g≠b2:=by omega
   have hggc':gc≠g:=by omega
   have hgb2':b2≠g:=by omega
   refine aw (v:=?_) (w':=?_) rfl (by rfl) ?_ ?_ ?_
   rotate_left 2
   ·go_simp;(try (constructor<;>with_reducible rfl))
   ·exact hS2.alloc _
   simp only [zAB,zAD,zAC]
   have hS3:=hS2.alloc (.cells #[.int .i64 p1,.int .i64 p2] 189)
   have hg5:ab (w2.alloc (.cells #[.int .i64 p1,.int .i64 p2] 189)) g 189 #[.int .i64 p1,.int .i64 p2]:=aD (ab.new _ _ _) hg
   have hb5:Below wr.heap.size wr (w2.alloc (.cells #[.int .i64 p1,.int .i64 p2] 189)):=(((Below.refl _ wr).drew).trans (hb2.mono (by simp))).alloc (by have:=hb2.size;simpa using this) _
   refine bG _ (w':=?_) rfl (by rfl) ?_ ?_ ?_
   rotate_left 1
   ·go_simp;(first|(with_reducible rfl)|(constructor<;>with_reducible rfl)|skip)
   ·exact hS3
   refine aw (v:=?_) (w':=?_) rfl (by rfl) ?_ ?_ ?_
   rotate_left 2
   ·go_simp;(try (constructor<;>with_reducible rfl))
   ·exact hS3
   simp only [zAB,zAD,zAC]
   refine aw (v:=?_) (w':=?_) rfl (by rfl) ?_ ?_ ?_
   rotate_left 2
   ·go_simp;(try (constructor<;>with_reducible rfl))
   ·exact hS3
   simp only [zAB,zAD,zAC]
   have hs5:=hS3
   refine hPE _ _ ?_
   clear hPE PE
   simp only [zA0,zA4]
   go_wp2_with fail
   refine ⟨rfl,?_⟩
   generalize w2.alloc (.cells #[.int .i64 p1,.int .i64 p2] 189)=w5 at hs5 hg5 hb5⊢
   clear x0 x1 x2 x3 hS2 hS3 hb2 hl1 hl2 hl3 hg
   have HS5:=zAA hs5;have HG5:=zAA hg5;have HB5:=zAA hb5
   clear hs5 hg5 hb5
   have HC5:=zAA (HCb.out _ _ _ HCr.out HB5.out)
   have HK5:=zAA (HK.out.below HKr.out HB5.out)
   have z0:=HS5.out.head.cell 0;have z1:=HS5.out.head.cell 1;have z2:=HS5.out.tail.head.cell 0;have z3:=HS5.out.tail.tail.head.cell 0;have z4:=HG5.out.cell 0;have z5:=HG5.out.cell 1
   have f1:=HS5.out.head.frozen 1;have f2:=HS5.out.tail.head.frozen 0
   have HP1:=zAA ((HG5.out.far (p:=⟨b2,0,none⟩) hgb2 (.bool false)).far (p:=⟨gc,1,none⟩) hggc (.int .i64 (pk+nb)))
   have HCU:=zAA ((HS5.out.head.far (p:=⟨b2,0,none⟩) hne1 (.bool false)).set_ 1 (.int .i64 (pk+nb)))
   have HFL:=zAA ((HS5.out.tail.head.set_ 0 (.bool false)).far (p:=⟨gc,1,none⟩) hne2 (.int .i64 (pk+nb)))
   have HC6:=zAA (HC1.out _ _ (.int .i64 (pk+nb)) (HC2.out _ _ (.bool false) HC5.out))
   have HK6:=zAA (HK.out.set (HK.out.set HK5.out HS5.out.tail.head (v:= .bool false) (p:=⟨b2,0,none⟩)) (HS5.out.head.far (p:=⟨b2,0,none⟩) hne1 (.bool false)) (v:= .int .i64 (pk+nb)) (p:=⟨gc,1,none⟩))
   have z6:=HP1.out.cell 0;have z7:=HP1.out.cell 1
   dsimp only at z0 z1 z2 z3 z4 z5 z6 z7 f1 f2
   cases en with
   |true=>
    gi_wp2_with fail
    refine ⟨fun _ h=>(by cases h),?_⟩
    gi_wp2_with fail
    refine bodyPost_ret (results_none rfl _ _ _) rfl ?_
    exact ⟨⟨_,rfl⟩,.inl ⟨pre,⟨HSP.out,by rw [HGK.out]⟩,⟨HC6.out,by rw [HPS.out];exact HCU.out,HFL.out⟩,HK6.out⟩⟩
   |false=>
    have hsp:=HSP.out.snoc (by rw [HGK.out])
    rw [HGK.out] at hsp
    dsimp only at hsp
    obtain ⟨fn,tmps,assign,body,hyy,hR⟩:=HY.out pre _ _ ⟨HC6.out,by rw [HPS.out];exact HCU.out,HFL.out⟩ HK6.out hsp
    have HR:=zAA hR;have HSP2:=zAA hsp
    dsimp only at hyy
    clear hR hsp
    gi_wp2_with fail
    refine HR.out.mono ?_
    rintro e W3 (⟨rfl,hI3,hk3⟩|⟨rfl,hJx3⟩)
    ·have her:er=0:=HC0.out _ _ hI3.1 ((p1,p2),er) (by simp)
     subst her
     have hI4:=hI3.2.1
     rw [zA1] at hI4
     have hI4:ab W3 gc 302 #[.slice A m c,.int .i64 (cz l i0 first (pre.length+1))]:=hI4
     rw [HPS.out] at hI4
     have HI4:=zAA hI4;have HI3:=zAA hI3;have HK3:=zAA hk3
     clear hI4 hI3 hk3 hyy
     gi_wp2_with fail
     refine ⟨⟨pre++[((p1,p2),0)],HSP2,zAA HI3.out.1,zAA HI3.out.2.1,zAA ?_,HK3⟩,?_⟩
     ·have h:=HI3.out.2.2
      have e:ib first (pre++[((p1,p2),(0:Int))]).length=false:=by unfold ib;simp
      rw [e];exact h
     ·have h9:=qh HI4.out;have h10:=qh HBc.out
      have h11:=HOK.out
      unfold mL at h11
      have h12:=h11.2.2.1 rfl
      dsimp only at h12
      rw [h9,h10]
      omega
    ·gi_wp2_with fail
     refine bodyPost_ret (results_none rfl _ _ _) rfl ?_
     exact ⟨⟨_,rfl⟩,.inr ⟨_,HSP2.out,hJx3⟩⟩
  ·obtain ⟨g,hg⟩:∃g,wr.heap.size=g:=⟨_,rfl⟩
   obtain ⟨hl1,hl2,hl3⟩:=HLT.out
   have hggc:g≠gc:=by omega
   have hgb2:g≠b2:=by omega
   have hggc':gc≠g:=by omega
   have hgb2':b2≠g:=by omega
   refine aw (v:=?_) (w':=?_) rfl (by rfl) ?_ ?_ ?_
   rotate_left 2
   ·go_simp;(try (constructor<;>with_reducible rfl))
   ·exact HS0.out.alloc _
   simp only [zAB,zAD,zAC]
   have hd:(zAV wr).heap.size=g:=hg
   have hP0:ab ((zAV wr).alloc (.cells #[.int .i64 0,.int .i64 0] 189)) g 189 #[.int .i64 0,.int .i64 0]:=aD (ab.new _ _ _) hd
   have hBa:Below (zAV wr).heap.size (zAV wr) ((zAV wr).alloc (.cells #[.int .i64 0,.int .i64 0] 189)):=(Below.refl _ _).alloc (zAL _) _
   refine aV (f:=289) rfl (by rfl) (by first|(go_simp;done)|(go_simp;rfl)) (G.out _ (HA0.out.below hBa) (HT0.out.below hBa)) ?_
   rintro e w2 ⟨rfl,hb2⟩
   have hS2:=(HS0.out.alloc (.cells #[.int .i64 0,.int .i64 0] 189)).below hb2
   have hP2:=hP0.below hb2 hP0.lt
   refine ⟨_,rfl,_,fun _ h=>h,hS2,?_⟩
   simp only [zAB,zAD,zAC]
   iterate 5
    refine ah (v:=?_) rfl (by rfl) ?_ ?_
    rotate_left
    ·intro _ hSw;(try dsimp only at hSw);go_simp;(try with_reducible rfl)
    simp only [zAB,zAD,zAC]
   have hS3:=aa.far (aa.far hS2 (p:=⟨g,0,none⟩) (fun q hq=>by simp only [zAT,zAO,or_false] at hq;rcases hq with rfl|rfl|rfl<;>simp<;>omega) (.int .i64 p1)) (p:=⟨g,1,none⟩) (fun q hq=>by simp only [zAT,zAO,or_false] at hq;rcases hq with rfl|rfl|rfl<;>simp<;>omega) (.int .i64 p2)
   have hg5:=(hP2.set_ 0 (.int .i64 p1)).set_ 1 (.int .i64 p2)
   have hb5:Below wr.heap.size wr ((w2.setCell ⟨g,0,none⟩ (.int .i64 p1)).setCell ⟨g,1,none⟩ (.int .i64 p2)):=((((((Below.refl _ wr).drew).alloc (by simp) _).trans (hb2.mono (by simp))).setCell (p:=⟨g,0,none⟩) (by show _≤g;omega) _).setCell (p:=⟨g,1,none⟩) (by show _≤g;omega) _)
   have q0:=hP2.cell 0;have q1:=hP2.cell 1;have k0:=hP2.frozen 0;have k1:=hP2.frozen 1
   refine bG _ (w':=?_) rfl (by rfl) ?_ ?_ ?_
   rotate_left 1
   ·go_simp;(first|(with_reducible rfl)|(constructor<;>with_reducible rfl)|skip)
   ·exact hS3
   refine aw (v:=?_) (w':=?_) rfl (by rfl) ?_ ?_ ?_
   rotate_left 2
   ·go_simp;(try (constructor<;>with_reducible rfl))
   ·exact hS3
   simp only [zAB,zAD,zAC]
   refine aw (v:=?_) (w':=?_) rfl (by rfl) ?_ ?_ ?_
   rotate_left 2
   ·go_simp;(try (constructor<;>with_reducible rfl))
   ·exact hS3
   simp only [zAB,zAD,zAC]
   have hs5:=hS3
   refine hPE _ _ ?_
   clear hPE PE
   simp only [zA0,zA4]
   go_wp2_with fail
   refine ⟨rfl,?_⟩
   generalize (w2.setCell ⟨g,0,none⟩ (.int .i64 p1)).setCell ⟨g,1,none⟩ (.int .i64 p2)=w5 at hs5 hg5 hb5⊢
   clear x0 x1 x2 x3 hS2 hS3 hb2 hl1 hl2 hl3 hg
   have HS5:=zAA hs5;have HG5:=zAA hg5;have HB5:=zAA hb5
   clear hs5 hg5 hb5
   have HC5:=zAA (HCb.out _ _ _ HCr.out HB5.out)
   have HK5:=zAA (HK.out.below HKr.out HB5.out)
   have z0:=HS5.out.head.cell 0;have z1:=HS5.out.head.cell 1;have z2:=HS5.out.tail.head.cell 0;have z3:=HS5.out.tail.tail.head.cell 0;have z4:=HG5.out.cell 0;have z5:=HG5.out.cell 1
   have f1:=HS5.out.head.frozen 1;have f2:=HS5.out.tail.head.frozen 0
   have HP1:=zAA ((HG5.out.far (p:=⟨b2,0,none⟩) hgb2 (.bool false)).far (p:=⟨gc,1,none⟩) hggc (.int .i64 (pk+nb)))
   have HCU:=zAA ((HS5.out.head.far (p:=⟨b2,0,none⟩) hne1 (.bool false)).set_ 1 (.int .i64 (pk+nb)))
   have HFL:=zAA ((HS5.out.tail.head.set_ 0 (.bool false)).far (p:=⟨gc,1,none⟩) hne2 (.int .i64 (pk+nb)))
   have HC6:=zAA (HC1.out _ _ (.int .i64 (pk+nb)) (HC2.out _ _ (.bool false) HC5.out))
   have HK6:=zAA (HK.out.set (HK.out.set HK5.out HS5.out.tail.head (v:= .bool false) (p:=⟨b2,0,none⟩)) (HS5.out.head.far (p:=⟨b2,0,none⟩) hne1 (.bool false)) (v:= .int .i64 (pk+nb)) (p:=⟨gc,1,none⟩))
   have z6:=HP1.out.cell 0;have z7:=HP1.out.cell 1
   dsimp only at z0 z1 z2 z3 z4 z5 z6 z7 f1 f2
   cases en with
   |true=>
    gi_wp2_with fail
    refine ⟨fun _ h=>(by cases h),?_⟩
    gi_wp2_with fail
    refine bodyPost_ret (results_none rfl _ _ _) rfl ?_
    exact ⟨⟨_,rfl⟩,.inl ⟨pre,⟨HSP.out,by rw [HGK.out]⟩,⟨HC6.out,by rw [HPS.out];exact HCU.out,HFL.out⟩,HK6.out⟩⟩
   |false=>
    have hsp:=HSP.out.snoc (by rw [HGK.out])
    rw [HGK.out] at hsp
    dsimp only at hsp
    obtain ⟨fn,tmps,assign,body,hyy,hR⟩:=HY.out pre _ _ ⟨HC6.out,by rw [HPS.out];exact HCU.out,HFL.out⟩ HK6.out hsp
    have HR:=zAA hR;have HSP2:=zAA hsp
    dsimp only at hyy
    clear hR hsp
    gi_wp2_with fail
    refine HR.out.mono ?_
    rintro e W3 (⟨rfl,hI3,hk3⟩|⟨rfl,hJx3⟩)
    ·have her:er=0:=HC0.out _ _ hI3.1 ((p1,p2),er) (by simp)
     subst her
     have hI4:=hI3.2.1
     rw [zA1] at hI4
     have hI4:ab W3 gc 302 #[.slice A m c,.int .i64 (cz l i0 first (pre.length+1))]:=hI4
     rw [HPS.out] at hI4
     have HI4:=zAA hI4;have HI3:=zAA hI3;have HK3:=zAA hk3
     clear hI4 hI3 hk3 hyy
     gi_wp2_with fail
     refine ⟨⟨pre++[((p1,p2),0)],HSP2,zAA HI3.out.1,zAA HI3.out.2.1,zAA ?_,HK3⟩,?_⟩
     ·have h:=HI3.out.2.2
      have e:ib first (pre++[((p1,p2),(0:Int))]).length=false:=by unfold ib;simp
      rw [e];exact h
     ·have h9:=qh HI4.out;have h10:=qh HBc.out
      have h11:=HOK.out
      unfold mL at h11
      have h12:=h11.2.2.1 rfl
      dsimp only at h12
      rw [h9,h10]
      omega
    ·gi_wp2_with fail
     refine bodyPost_ret (results_none rfl _ _ _) rfl ?_
     exact ⟨⟨_,rfl⟩,.inr ⟨_,HSP2.out,hJx3⟩⟩
end Go.Proofs.YthhijgcfbjcgiaaGreatDoor
