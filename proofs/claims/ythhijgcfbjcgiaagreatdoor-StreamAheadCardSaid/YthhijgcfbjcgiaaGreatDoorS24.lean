/- Cf1, Tabl, Short, Cput, BPut -/
import Derived.Test.YthhijgcfbjcgiaaGreatDoorS23
import Derived.Test.YthhijgcfbjcgiaaGreatDoorS02
import Derived.Test.YthhijgcfbjcgiaaGreatDoorS17
import Derived.Test.YthhijgcfbjcgiaaGreatDoorS10
import Derived.Test.YthhijgcfbjcgiaaGreatDoorS19
import Derived.Test.YthhijgcfbjcgiaaGreatDoorS01
namespace Go.Proofs.YthhijgcfbjcgiaaGreatDoor
open Go Go.RowKit
open Go.Lib renaming hid→zAA,IsBuilder→zAP
open Nat renaming le_refl→zAB
open Bool renaming and_false→zAC,false_and→zAD
open List renaming setIfInBounds_toArray→zAE,getElem?_cons_succ→zAF,getElem?_cons_zero→zAG,getElem?_toArray→zAH,drop_succ_cons→zAI,set_cons_succ→zAJ,set_cons_zero→zAK,take_length→zAL,map_append→zAN,drop_zero→zAO,map_cons→zAQ,map_nil→zAR
open Option renaming getD_some→zAM
theorem kY (a b:List UInt8) (w:World):Calls Tryz.prog 294 #[.string (bs a),.string (bs b)] w fun e w'=>e= .returned (.bool (bW a b))∧Below w.heap.size w w':=by
 unfold bW
 by_cases h:a.length≤b.length
 ·have hm:min (a.length:Int) (b.length:Int)=(a.length:Int):=by omega
  have hn:min a.length b.length=a.length:=by omega
  have h1:(a.length:Int)≤(b.length:Int):=by omega
  rw [hn,zAL]
  go_enter Tryz.func294,Tryz.ntmps294
  go_wp2_with fail
  refine ai (fun _=>True) 6 (.take 0 (.take 1 (.take 2 (.take 3 (.take 4 (.take 5 .done)))))) (by kernel_rfl) (by kernel_rfl) (by simp only [aR.out,Array.getD_eq_getD_getElem?,zAH,zAG,zAF,zAM];rfl) (by simp only [zAQ,zAR];rfl) (trivial) (fun PE hPE=>?_)
  iterate 6
   refine ah (v:=?_) rfl (by rfl) ?_ ?_
   rotate_left
   ·intro _ hSw;(try dsimp only at hSw);go_simp;(try with_reducible rfl)
   simp only [zAE,zAK,zAJ]
  refine hPE _ _ ?_
  clear hPE PE
  simp only [zAI,zAO]
  go_wp2_with fail
  refine ⟨rfl,?_⟩
  go_wp2_with fail
  go_ret
  exact ⟨rfl,(Below.refl _ _).drew⟩
 ·have hm:min (a.length:Int) (b.length:Int)=(b.length:Int):=by omega
  have hn:min a.length b.length=b.length:=by omega
  have h1:(b.length:Int)≤(a.length:Int):=by omega
  rw [hn,zAL]
  go_enter Tryz.func294,Tryz.ntmps294
  go_wp2_with fail
  refine ai (fun _=>True) 6 (.take 0 (.take 1 (.take 2 (.take 3 (.take 4 (.take 5 .done)))))) (by kernel_rfl) (by kernel_rfl) (by simp only [aR.out,Array.getD_eq_getD_getElem?,zAH,zAG,zAF,zAM];rfl) (by simp only [zAQ,zAR];rfl) (trivial) (fun PE hPE=>?_)
  iterate 6
   refine ah (v:=?_) rfl (by rfl) ?_ ?_
   rotate_left
   ·intro _ hSw;(try dsimp only at hSw);go_simp;(try with_reducible rfl)
   simp only [zAE,zAK,zAJ]
  refine hPE _ _ ?_
  clear hPE PE
  simp only [zAI,zAO]
  go_wp2_with fail
  refine ⟨rfl,?_⟩
  go_wp2_with fail
  go_ret
  exact ⟨rfl,(Below.refl _ _).drew⟩
theorem uk (w:World):Calls Tryz.prog 166 #[] w fun e w'=>e= .returned (.string (bs bJ))∧w=w':=by
 go_enter Tryz.func166,Tryz.ntmps166
 go_wp2
 go_ret
 exact ⟨rfl,rfl⟩
set_option maxHeartbeats 1000000 in
theorem rV (p:Int×Int) (w:World):Calls Tryz.prog 207 #[.agg #[.int .i64 p.1,.int .i64 p.2]] w fun e w'=>e= .returned (.bool (ft p))∧Below w.heap.size w w':=by
 obtain ⟨a,b⟩:=p
 unfold ft
 dsimp only
 cases d1:decide (0≤a) with
 |false=>
  simp only [zAD]
  go_enter Tryz.func207,Tryz.ntmps207
  go_wp2
  go_ret
  exact ⟨rfl,(Below.refl _ _).alloc (zAB _) _⟩
 |true=>
  cases d2:decide (a≤63) with
  |false=>
   simp only [zAD,zAC]
   go_enter Tryz.func207,Tryz.ntmps207
   go_wp2
   go_ret
   exact ⟨rfl,(Below.refl _ _).alloc (zAB _) _⟩
  |true=>
   cases d3:decide (-127≤b) with
   |false=>
    simp only [zAD,zAC]
    go_enter Tryz.func207,Tryz.ntmps207
    go_wp2
    go_ret
    exact ⟨rfl,(Below.refl _ _).alloc (zAB _) _⟩
   |true=>
    cases d4:decide (b≤127) with
    |false=>
     simp only [zAD,zAC]
     go_enter Tryz.func207,Tryz.ntmps207
     go_wp2
     go_ret
     exact ⟨rfl,(Below.refl _ _).alloc (zAB _) _⟩
    |true=>
     cases d5:(b !=0) with
     |false=>
      simp only [zAC]
      go_enter Tryz.func207,Tryz.ntmps207
      go_wp2
      go_ret
      exact ⟨rfl,(Below.refl _ _).alloc (zAB _) _⟩
     |true=>
      simp only [Bool.and_self]
      go_enter Tryz.func207,Tryz.ntmps207
      go_wp2
      go_ret
      exact ⟨rfl,(Below.refl _ _).alloc (zAB _) _⟩
set_option maxRecDepth 100000 in
set_option maxHeartbeats 2000000 in
theorem BF (A:Option Addr) (n c:Nat) (l:List UInt8) (i:Nat) (w:World) (hA:Sl w A (l.map af)) (hn:l.length=n) (hsz:n≤2 ^ 47) (hi:i≤8*n):
  Calls Tryz.prog 293 #[.slice A n c,.int .i64 (i:Int)] w fun e w'=>e= .returned (.string (bs (aC l i (min 20 (8*n - i)))))∧Below w.heap.size w w':=by
 have HA:=zAA hA;have HN:=zAA hn
 clear hA hn
 go_enter Tryz.func293,Tryz.ntmps293
 go_wp2_with fail
 go_loopg [9] 20 (fun g v9=>fun wr=>∃j:Nat,j+g=20∧v9= .int .i64 (j:Int)∧(j=0∨i+j≤8*n)∧Hid (zAP 174 5 w.heap.size w.heap.size ((aC l i j).map af) wr)∧Hid (Below w.heap.size w wr))
 case atStart=>exact ⟨0,by omega,rfl,.inl rfl,zAA (qj w),zAA ((Below.refl _ _).alloc (zAB _) _)⟩
 case round=>
  obtain ⟨j,hj,rfl,hin,HB,HBl⟩:=hrel
  have fin:∀(wr:World),Hid (zAP 174 5 w.heap.size w.heap.size ((aC l i j).map af) wr)→Hid (Below w.heap.size w wr)→Calls Tryz.prog 153 #[.pointer (some ⟨w.heap.size,0,none⟩)] wr fun e w'=>e= .returned (.string (bs (aC l i j)))∧Below w.heap.size wr w':=
   fun wr HB HBl=>Tryz.Builder_String_any _ _ (aC l i j) _ HB.out HBl.out.size
  have FIN:=zAA fin
  clear fin
  cases gk with
  |zero=>
   obtain rfl:j=20:=by omega
   have hlt:¬(((20:Nat):Int)<20):=by omega
   have HMIN:=zAA (show min 20 (8*n - i)=20 by omega)
   go_wp2_with (go_at_call 153;refine (FIN.out _ HB HBl).mono ?_;rintro e w' ⟨rfl,hb1⟩;have HB1:=zAA hb1;clear hb1)
   go_ret
   rw [HMIN.out]
   exact ⟨rfl,HBl.out.trans HB1.out⟩
  |succ g=>
   have hlt:((j:Int)<20):=by omega
   have hw0:IntKind.i64.wrap ((i:Int)+(j:Int))=(i:Int)+(j:Int):=by rw [IntKind.wrap_i64];omega
   by_cases hmore:i+j<8*n
   ·have Rd:=zAA (fun W h=>fM ((aP l (i+j):Nat):Int) A n c l ((i:Int)+(j:Int)) 1 W (by rw [show ((i:Int)+(j:Int)).toNat=i+j by omega];show ((aF l (i+j) 1:Nat):Int)=_;rw [l5]) h HN.out (by omega) (by decide) (by decide) (by omega) hsz)
    have HJ:=zAA hj
    have HM:=zAA hmore
    have Hs:=zAA (kW l i j)
    have hb2:=gT l (i+j)
    have HL:=zAA (show ((aC l i j).map af).length+1≤140737488355328 by rw [List.length_map,bi];omega)
    obtain ⟨q,hq⟩:∃q,aP l (i+j)=q:=⟨_,rfl⟩
    have hbc:cW l (i+j)=if q=0 then 48 else 49:=by unfold cW;rw [hq]
    rw [hq] at Rd hb2
    have HBC:=zAA hbc
    clear hj hmore hq hbc hin
    have hq01:q=0∨q=1:=by omega
    rcases hq01 with rfl|rfl
    ·go_wp2_with (first
      |(go_at_call 56;refine (Rd.out _ (HA.out.below HBl.out)).mono ?_;rintro e w' ⟨rfl,rfl⟩)
      |(go_at_call 152;refine (ku w.heap.size w.heap.size _ 48 wr HB.out HL.out HBl.out.size).mono ?_;rintro e w1 ⟨rfl,hB1,hb1⟩;have HB1:=zAA hB1;have Hb1:=zAA hb1;clear hB1 hb1))
     go_roundg g
     case measure=>omega
     case rel=>
      refine ⟨j+1,by have:=HJ.out;omega,rfl,.inr (by have:=HM.out;omega),zAA ?_,zAA (HBl.out.trans Hb1.out)⟩
      rw [Hs.out,HBC.out,zAN]
      exact HB1.out
    ·go_wp2_with (first
      |(go_at_call 56;refine (Rd.out _ (HA.out.below HBl.out)).mono ?_;rintro e w' ⟨rfl,rfl⟩)
      |(go_at_call 152;refine (ku w.heap.size w.heap.size _ 49 wr HB.out HL.out HBl.out.size).mono ?_;rintro e w1 ⟨rfl,hB1,hb1⟩;have HB1:=zAA hB1;have Hb1:=zAA hb1;clear hB1 hb1))
     go_roundg g
     case measure=>omega
     case rel=>
      refine ⟨j+1,by have:=HJ.out;omega,rfl,.inr (by have:=HM.out;omega),zAA ?_,zAA (HBl.out.trans Hb1.out)⟩
      rw [Hs.out,HBC.out,zAN]
      exact HB1.out
   ·have Rd:=zAA (fun W=>de A n c ((i:Int)+(j:Int)) 1 W (by omega) (by decide) (by decide) (by omega) hsz)
    have HMIN:=zAA (show min 20 (8*n - i)=j by omega)
    clear hin hmore
    go_wp2_with (first
     |(go_at_call 56;refine (Rd.out _).mono ?_;rintro e w' ⟨rfl,rfl⟩)
     |(go_at_call 153;refine (FIN.out _ HB HBl).mono ?_;rintro e w' ⟨rfl,hb1⟩;have HB1:=zAA hb1;clear hb1))
    go_ret
    rw [HMIN.out]
    exact ⟨rfl,HBl.out.trans HB1.out⟩
end Go.Proofs.YthhijgcfbjcgiaaGreatDoor
namespace Go.Proofs.YthhijgcfbjcgiaaGreatDoor
open Go Go.RowKit
attribute [local go_sem] Oper.semAt_some
open Go.Lib renaming hid→zAA,fields→zAH
open List renaming drop_eq_getElem_cons→zAB,cons_append→zAD,getElem?_eq_getElem→zAE,getElem?_toArray→zAF,singleton_append→zAG,append_toArray→zAJ,mem_singleton→zAK,append_assoc→zAL,getElem?_map→zAM,push_toArray→zAN,size_toArray→zAO,length_cons→zAP,length_nil→zAQ,mem_append→zAR,nil_append→zAS
open Nat renaming le_refl→zAC,reduceAdd→zAI,reduceSub→zAT
def Ct:Array Value:= #[.string ⟨#[49,49,32,48,49,48,48,32,48,48,49,48,49,32,48,48,48,48,49,49,48,32,48,48,49,48,48,49,49,48,32,48,48,49,48,48,48,48,49,32,48,48,48,48,48,48,49,48,49,48,32,48,48,48,48,48,48,48,49,49,49,48,49,32,48,48,48,48,48,48,48,49,49,48,48,48,32,48,48,48,48,48,48,48,49,48,48,49,49,32,48,48,48,48,48,48,48,49,48,48,48,48,32,48,48,48,48,48,48,48,48,49,49,48,49,48,32,48,48,48,48,48,48,48,48,49,49,48,48,49,32,48,48,48,48,48,48,48,48,49,49,48,48,48,32,48,48,48,48,48,48,48,48,49,48,49,49,49]⟩,.string ⟨#[48,49,49,32,48,48,48,49,49,48,32,48,48,49,48,48,49,48,49,32,48,48,48,48,48,48,49,49,48,48,32,48,48,48,48,48,48,48,49,49,48,49,49,32,48,48,48,48,48,48,48,48,49,48,49,49,48,32,48,48,48,48,48,48,48,48,49,48,49,48,49]⟩,.string ⟨#[48,49,48,49,32,48,48,48,48,49,48,48,32,48,48,48,48,48,48,49,48,49,49,32,48,48,48,48,48,48,48,49,48,49,48,48,32,48,48,48,48,48,48,48,48,49,48,49,48,48]⟩,.string ⟨#[48,48,49,49,49,32,48,48,49,48,48,49,48,48,32,48,48,48,48,48,48,48,49,49,49,48,48,32,48,48,48,48,48,48,48,48,49,48,48,49,49]⟩,.string ⟨#[48,48,49,49,48,32,48,48,48,48,48,48,49,49,49,49,32,48,48,48,48,48,48,48,49,48,48,49,48]⟩,.string ⟨#[48,48,48,49,49,49,32,48,48,48,48,48,48,49,48,48,49,32,48,48,48,48,48,48,48,48,49,48,48,49,48]⟩,.string ⟨#[48,48,48,49,48,49,32,48,48,48,48,48,48,48,49,49,49,49,48]⟩,.string ⟨#[48,48,48,49,48,48,32,48,48,48,48,48,48,48,49,48,49,48,49]⟩,.string ⟨#[48,48,48,48,49,49,49,32,48,48,48,48,48,48,48,49,48,48,48,49]⟩,.string ⟨#[48,48,48,48,49,48,49,32,48,48,48,48,48,48,48,48,49,48,48,48,49]⟩,.string ⟨#[48,48,49,48,48,49,49,49,32,48,48,48,48,48,48,48,48,49,48,48,48,48]⟩,.string ⟨#[48,48,49,48,48,48,49,49]⟩,.string ⟨#[48,48,49,48,48,48,49,48]⟩,.string ⟨#[48,48,49,48,48,48,48,48]⟩,.string ⟨#[48,48,48,48,48,48,49,49,49,48]⟩,.string ⟨#[48,48,48,48,48,48,49,49,48,49]⟩,.string ⟨#[48,48,48,48,48,48,49,48,48,48]⟩,.string ⟨#[48,48,48,48,48,48,48,49,49,49,49,49]⟩,.string ⟨#[48,48,48,48,48,48,48,49,49,48,49,48]⟩,.string ⟨#[48,48,48,48,48,48,48,49,49,48,48,49]⟩,.string ⟨#[48,48,48,48,48,48,48,49,48,49,49,49]⟩,.string ⟨#[48,48,48,48,48,48,48,49,48,49,49,48]⟩,.string ⟨#[48,48,48,48,48,48,48,48,49,49,49,49,49]⟩,.string ⟨#[48,48,48,48,48,48,48,48,49,49,49,49,48]⟩,.string ⟨#[48,48,48,48,48,48,48,48,49,49,49,48,49]⟩,.string ⟨#[48,48,48,48,48,48,48,48,49,49,49,48,48]⟩,.string ⟨#[48,48,48,48,48,48,48,48,49,49,48,49,49]⟩]
theorem F4:Ct=(fP.map bE).toArray:=by kernel_rfl
theorem F3:fP.length=27:=by kernel_rfl
set_option maxRecDepth 100000 in
theorem BE (w:World):Calls Tryz.prog 271 #[] w fun e w'=>e= .returned (.slice (some ⟨w.heap.size,0,none⟩) 27 27)∧w.alloc (.cells Ct 9)=w':=by
 go_enter Tryz.func271,Tryz.ntmps271
 go_wp2
 go_ret
 exact ⟨rfl,rfl⟩
theorem m7 (first:Bool) (w:World):Calls Tryz.prog 245 #[.bool first] w fun e w'=>e= .returned (.func (.func 270) #[] #[.pointer (some ⟨w.heap.size,0,none⟩)])∧w.alloc (.cells #[.bool first] 4)=w':=by
 go_enter Tryz.func245,Tryz.ntmps245
 go_wp2
 go_ret
 exact ⟨rfl,rfl⟩
def lW (x:(Int×Int)×List UInt8):Array Value:= #[.agg #[.int .i64 x.1.1,.int .i64 x.1.2],.string (bs x.2)]
theorem El:∀r∈fP,∀c∈r,c.toNat<128:=by decide+kernel
theorem Em:∀r∈fP,r.length≤1000:=by decide+kernel
theorem Cs:∀r∈fP,(zAH r).length≤100:=by decide+kernel
def nV (first:Bool) (r i:Nat) (c:List UInt8):List UInt8:=if first&&r==0&&i==0 then [49] else c
theorem ko (first:Bool) (r i:Nat) (c:List UInt8) (cs:List (List UInt8)):fl first r i (c::cs)=((((r:Int),(i:Int)+1),nV first r i c))::fl first r (i+1) cs:=rfl
theorem yp (first:Bool) (r:Nat) (x:List UInt8) (xs:List (List UInt8)):dM first r (x::xs)=fl first r 0 (zAH x)++dM first (r+1) xs:=rfl
def JV:Value→Int
 | .int _ n=>n
 |_=>0
set_option maxRecDepth 100000 in
set_option maxHeartbeats 4000000 in
theorem qb (n:Nat) (hn:1≤n) (b:Nat) (first:Bool) (I:List ((Int×Int)×List UInt8)→World→Prop) (hI:∀pre A B,I pre A→Below A.heap.size A B→I pre B) (hIs:∀pre W,I pre W→ab W b 4 #[.bool first]∧Ts W):
  ES Fence.wide n Tryz.prog 270 #[.pointer (some ⟨b,0,none⟩)] lW I I (fun xs=>xs=aX first) (fun pre=>pre<+:aX first):=by
 intro lp K Jx W hK hY h0 hk0
 refine callsIn_of_wp Tryz.func270 rfl trivial ?_ rfl
 simp only [Tryz.ntmps270,zAO,zAP,zAQ,zAI,zAT,Array.replicate_succ,Array.replicate_zero,zAN,zAJ,zAS,zAD]
 have HY:=zAA hY;have HI:=zAA hI;have HIs:=zAA hIs;have HK:=zAA hK;have H0:=zAA h0;have HK0:=zAA hk0
 clear hY hI hIs hK h0 hk0
 obtain ⟨RA,hra⟩:∃RA,RA=Ct:=⟨_,rfl⟩
 have CR:=zAA (fun W=>BE W)
 rw [←hra] at CR
 have HRA:=zAA (hra.trans F4)
 clear hra
 obtain ⟨TL,htl⟩:∃TL,TL=aX first:=⟨_,rfl⟩
 have HTL:=zAA htl
 rw [←htl] at HY
 rw [←htl]
 clear htl
 gi_wp2_with (refine ⟨trivial,?_⟩;gi_at_call 271;refine (callsIn_wide.2 (CR.out _)).mono ?_;rintro e w1 ⟨rfl,rfl⟩)
 gi_loopw [9] (fun v9 wr=>∃(r:Nat) (pre:List ((Int×Int)×List UInt8)),v9= .int .i64 (r:Int)∧r≤27∧Hid (TL=pre++dM first r (fP.drop r))∧Hid (I pre wr)∧Hid (K wr)∧Hid (ab wr W.heap.size 9 RA)) (fun v9 _=>27 - (JV v9).toNat)
 case atStart=>
  refine ⟨0,[],rfl,by omega,zAA (by rw [HTL.out];rfl),zAA (HI.out _ _ _ H0.out ((Below.refl _ _).alloc (zAC _) _)),zAA (HK.out.below HK0.out ((Below.refl _ _).alloc (zAC _) _)),zAA (ab.new _ _ _)⟩
 case round=>
  obtain ⟨r,pre0,rfl,hr,HD,HI0,HK1,HB⟩:=hrel
  by_cases hrl:r<27
  ·have hrli:(r:Int)<27:=by omega
   have hr0:¬((r:Int)<0):=by omega
   have hrow:r<fP.length:=by rw [F3];exact hrl
   obtain ⟨x,hx⟩:∃x,fP[r]=x:=⟨_,rfl⟩
   have hmem:x∈fP:=by rw [←hx];exact List.getElem_mem hrow
   have hc:wr.cell? ⟨W.heap.size,r,none⟩=some (.string (bs x)):=by
    rw [HB.out.cell,HRA.out,zAF,zAM,zAE hrow,hx];rfl
   have HF0:=zAA (show TL=pre0++(fl first r 0 ((zAH x).drop 0)++dM first (r+1) (fP.drop (r+1))) by
    rw [HD.out,zAB hrow,hx,yp];rfl)
   obtain ⟨hb,ht⟩:=HIs.out _ _ HI0.out
   have CF:=zAA (Tryz.strings_Fields (bs x) wr (by rw [iA];have:=Em x hmem;omega) (fun j c h=>El x hmem c (by rw [eA] at h;exact List.mem_of_getElem? h)) ht)
   rw [eA] at CF
   have hfl:=Cs x hmem
   generalize zAH x=fs at HF0 CF hfl
   have HFL:=zAA hfl
   clear hb ht hfl hmem hx
   obtain ⟨F0,hF0⟩:∃F0,F0=wr.heap.size:=⟨_,rfl⟩
   have HF0L:=zAA (show W.heap.size≤F0 by have:=HB.out.lt;omega)
   rw [←hF0] at CF
   have hbl:Below wr.heap.size wr (wr.alloc (.cells ((fs.map fun l=>Value.string ⟨l.toArray⟩).toArray) 9)):=(Below.refl _ _).alloc (zAC _) _
   have HI1:=zAA (HI.out _ _ _ HI0.out hbl)
   have HK2:=zAA (HK.out.below HK1.out hbl)
   have HB2:=zAA (HB.out.below hbl HB.out.lt)
   have HFS:=zAA (aD (ab.new wr 9 ((fs.map fun l=>Value.string ⟨l.toArray⟩).toArray)) hF0.symm)
   clear hbl hF0
   gi_wp2_with (refine ⟨trivial,?_⟩;gi_at_call 272;refine (callsIn_wide.2 CF.out).mono ?_;rintro e w2 ⟨rfl,rfl⟩)
   generalize wr.alloc (.cells ((fs.map fun l=>Value.string ⟨l.toArray⟩).toArray) 9)=wo at HI1 HK2 HB2 HFS⊢
   clear CF HB HI0 HK1 HD hc
   gi_loopw [17] (fun v17 wr=>∃(i:Nat) (pre:List ((Int×Int)×List UInt8)),v17= .int .i64 (i:Int)∧i≤fs.length∧Hid (TL=pre++(fl first r i (fs.drop i)++dM first (r+1) (fP.drop (r+1))))∧Hid (I pre wr)∧Hid (K wr)∧Hid (ab wr W.heap.size 9 RA)∧Hid (ab wr F0 9 ((fs.map fun l=>Value.string ⟨l.toArray⟩).toArray))) (fun v17 _=>fs.length - (JV v17).toNat)
   case atStart=>exact ⟨0,pre0,rfl,by omega,HF0,HI1,HK2,HB2,HFS⟩
   case round=>
    obtain ⟨i,pre,rfl,hi,HF,HIr,HKr,HBr,HFr⟩:=hrel
    by_cases hlt:i<fs.length
    ·have hlti:(i:Int)<(fs.length:Int):=by omega
     have hi0:¬((i:Int)<0):=by omega
     have hw1:IntKind.i64.wrap ((i:Int)+1)=(i:Int)+1:=by have:=HFL.out;rw [IntKind.wrap_i64];omega
     obtain ⟨c,hci⟩:∃c,fs[i]=c:=⟨_,rfl⟩
     have hcell:wr.cell? ⟨F0,i,none⟩=some (.string (bs c)):=by
      rw [HFr.out.cell,zAF,zAM,zAE hlt,hci];rfl
     have hb:=(HIs.out _ _ HIr.out).1
     have b0:=hb.cell 0
     clear hb
     rcases Bool.eq_false_or_eq_true first with hfst|hfst
     rotate_left 1
     ·rw [hfst] at b0
      obtain ⟨cc,hcc⟩:∃cc,nV first r i c=cc:=⟨_,rfl⟩
      have HN:=zAA (show TL=pre++((((r:Int),(i:Int)+1),cc)::fl first r (i+1) (fs.drop (i+1))++dM first (r+1) (fP.drop (r+1))) by rw [HF.out,zAB hlt,hci,ko,hcc])
      have hce:cc=c:=by rw [←hcc];unfold nV;rw [hfst];rfl
      clear hcc
      have hsp:pre++[(((r:Int),(i:Int)+1),cc)]<+:TL:=by rw [HN.out];exact ⟨fl first r (i+1) (fs.drop (i+1))++dM first (r+1) (fP.drop (r+1)),by simp⟩
      obtain ⟨fn,tmps,assign,body,hyy,hR⟩:=HY.out pre (((r:Int),(i:Int)+1),cc) wr HIr.out HKr.out hsp
      unfold lW at hyy
      dsimp only at hyy
      have HR:=zAA hR;have HSP:=zAA hsp
      clear hR hsp
      subst hce
      clear hfst
      gi_wp2_with fail
      refine HR.out.mono ?_
      rintro e W3 (⟨rfl,hI3,hk3,hkc3⟩|⟨rfl,hJx3⟩)
      ·have HI3:=zAA hI3;have HK3:=zAA hk3;have HA3:=zAA (hkc3.blk HBr.out (zAC _));have HF3:=zAA (hkc3.blk HFr.out HF0L.out)
       clear hI3 hk3 hyy hkc3
       gi_wp2_with fail
       refine ⟨⟨i+1,_,by simp,by omega,zAA ?_,HI3,HK3,HA3,HF3⟩,?_⟩
       ·rw [HN.out];simp
       ·show fs.length - ((i:Int)+1).toNat<fs.length - (i:Int).toNat
        omega
      ·gi_wp2_with fail
       refine bodyPost_ret (results_none rfl _ _ _) rfl ?_
       exact ⟨⟨_,rfl⟩,.inr ⟨_,HSP.out,hJx3⟩⟩
     ·rw [hfst] at b0
      by_cases hrz:r=0
      ·by_cases hiz:i=0
       ·have e1:((r:Int)==0)=true:=by rw [beq_iff_eq];omega
        have e2:((i:Int)==0)=true:=by rw [beq_iff_eq];omega
        obtain ⟨cc,hcc⟩:∃cc,nV first r i c=cc:=⟨_,rfl⟩
        have HN:=zAA (show TL=pre++((((r:Int),(i:Int)+1),cc)::fl first r (i+1) (fs.drop (i+1))++dM first (r+1) (fP.drop (r+1))) by rw [HF.out,zAB hlt,hci,ko,hcc])
        have hce:cc=[49]:=by rw [←hcc];unfold nV;rw [hfst,hrz,hiz];rfl
        clear hcc
        have hsp:pre++[(((r:Int),(i:Int)+1),cc)]<+:TL:=by rw [HN.out];exact ⟨fl first r (i+1) (fs.drop (i+1))++dM first (r+1) (fP.drop (r+1)),by simp⟩
        obtain ⟨fn,tmps,assign,body,hyy,hR⟩:=HY.out pre (((r:Int),(i:Int)+1),cc) wr HIr.out HKr.out hsp
        unfold lW at hyy
        dsimp only at hyy
        rw [hce,show bs [49]=(⟨#[49]⟩:ByteArray) from rfl] at hyy
        have HR:=zAA hR;have HSP:=zAA hsp
        clear hR hsp
        subst hce
        clear hfst hrz hiz
        gi_wp2_with fail
        refine HR.out.mono ?_
        rintro e W3 (⟨rfl,hI3,hk3,hkc3⟩|⟨rfl,hJx3⟩)
        ·have HI3:=zAA hI3;have HK3:=zAA hk3;have HA3:=zAA (hkc3.blk HBr.out (zAC _));have HF3:=zAA (hkc3.blk HFr.out HF0L.out)
         clear hI3 hk3 hyy hkc3
         gi_wp2_with fail
         refine ⟨⟨i+1,_,by simp,by omega,zAA ?_,HI3,HK3,HA3,HF3⟩,?_⟩
         ·rw [HN.out];simp
         ·show fs.length - ((i:Int)+1).toNat<fs.length - (i:Int).toNat
          omega
        ·gi_wp2_with fail
         refine bodyPost_ret (results_none rfl _ _ _) rfl ?_
         exact ⟨⟨_,rfl⟩,.inr ⟨_,HSP.out,hJx3⟩⟩
       ·have e1:((r:Int)==0)=true:=by rw [beq_iff_eq];omega
        have e2:((i:Int)==0)=false:=by rw [beq_eq_false_iff_ne];omega
        obtain ⟨cc,hcc⟩:∃cc,nV first r i c=cc:=⟨_,rfl⟩
        have HN:=zAA (show TL=pre++((((r:Int),(i:Int)+1),cc)::fl first r (i+1) (fs.drop (i+1))++dM first (r+1) (fP.drop (r+1))) by rw [HF.out,zAB hlt,hci,ko,hcc])
        have hce:cc=c:=by rw [←hcc];unfold nV;rw [hfst,hrz,show (i==0)=false by simpa using hiz];rfl
        clear hcc
        have hsp:pre++[(((r:Int),(i:Int)+1),cc)]<+:TL:=by rw [HN.out];exact ⟨fl first r (i+1) (fs.drop (i+1))++dM first (r+1) (fP.drop (r+1)),by simp⟩
        obtain ⟨fn,tmps,assign,body,hyy,hR⟩:=HY.out pre (((r:Int),(i:Int)+1),cc) wr HIr.out HKr.out hsp
        unfold lW at hyy
        dsimp only at hyy
        have HR:=zAA hR;have HSP:=zAA hsp
        clear hR hsp
        subst hce
        clear hfst hrz hiz
        gi_wp2_with fail
        refine HR.out.mono ?_
        rintro e W3 (⟨rfl,hI3,hk3,hkc3⟩|⟨rfl,hJx3⟩)
        ·have HI3:=zAA hI3;have HK3:=zAA hk3;have HA3:=zAA (hkc3.blk HBr.out (zAC _));have HF3:=zAA (hkc3.blk HFr.out HF0L.out)
         clear hI3 hk3 hyy hkc3
         gi_wp2_with fail
         refine ⟨⟨i+1,_,by simp,by omega,zAA ?_,HI3,HK3,HA3,HF3⟩,?_⟩
         ·rw [HN.out];simp
         ·show fs.length - ((i:Int)+1).toNat<fs.length - (i:Int).toNat
          omega
        ·gi_wp2_with fail
         refine bodyPost_ret (results_none rfl _ _ _) rfl ?_
         exact ⟨⟨_,rfl⟩,.inr ⟨_,HSP.out,hJx3⟩⟩
      ·have e1:((r:Int)==0)=false:=by rw [beq_eq_false_iff_ne];omega
       obtain ⟨cc,hcc⟩:∃cc,nV first r i c=cc:=⟨_,rfl⟩
       have HN:=zAA (show TL=pre++((((r:Int),(i:Int)+1),cc)::fl first r (i+1) (fs.drop (i+1))++dM first (r+1) (fP.drop (r+1))) by rw [HF.out,zAB hlt,hci,ko,hcc])
       have hce:cc=c:=by rw [←hcc];unfold nV;rw [hfst,show (r==0)=false by simpa using hrz];rfl
       clear hcc
       have hsp:pre++[(((r:Int),(i:Int)+1),cc)]<+:TL:=by rw [HN.out];exact ⟨fl first r (i+1) (fs.drop (i+1))++dM first (r+1) (fP.drop (r+1)),by simp⟩
       obtain ⟨fn,tmps,assign,body,hyy,hR⟩:=HY.out pre (((r:Int),(i:Int)+1),cc) wr HIr.out HKr.out hsp
       unfold lW at hyy
       dsimp only at hyy
       have HR:=zAA hR;have HSP:=zAA hsp
       clear hR hsp
       subst hce
       clear hfst hrz
       gi_wp2_with fail
       refine HR.out.mono ?_
       rintro e W3 (⟨rfl,hI3,hk3,hkc3⟩|⟨rfl,hJx3⟩)
       ·have HI3:=zAA hI3;have HK3:=zAA hk3;have HA3:=zAA (hkc3.blk HBr.out (zAC _));have HF3:=zAA (hkc3.blk HFr.out HF0L.out)
        clear hI3 hk3 hyy hkc3
        gi_wp2_with fail
        refine ⟨⟨i+1,_,by simp,by omega,zAA ?_,HI3,HK3,HA3,HF3⟩,?_⟩
        ·rw [HN.out];simp
        ·show fs.length - ((i:Int)+1).toNat<fs.length - (i:Int).toNat
         omega
       ·gi_wp2_with fail
        refine bodyPost_ret (results_none rfl _ _ _) rfl ?_
        exact ⟨⟨_,rfl⟩,.inr ⟨_,HSP.out,hJx3⟩⟩
    ·have hie:i=fs.length:=by omega
     subst hie
     have hnl:¬((fs.length:Int)<(fs.length:Int)):=by omega
     gi_wp2_with fail
     refine ⟨⟨r+1,pre,by simp,by omega,zAA (by have h:=HF.out;rw [List.drop_length] at h;exact h),HIr,HKr,HBr⟩,?_⟩
     show 27 - ((r:Int)+1).toNat<27 - (r:Int).toNat
     omega
  ·have hre:r=27:=by omega
   subst hre
   gi_wp2_with fail
   refine bodyPost_end (results_none rfl _ _ _) rfl ?_
   have he:TL=pre0:=by have h:=HD.out;rw [show fP.drop 27=[] by kernel_rfl] at h;simpa [dM] using h
   exact ⟨⟨_,rfl⟩,.inl (by first|exact ⟨_,he.symm,HI0.out,HK1.out⟩|exact ⟨by rw [he];exact HI0.out,HK1.out⟩)⟩
def jM (p:Int×Int) (x:(Int×Int)×List UInt8):Bool:=x.1.1==p.1&&(x.1.2==p.2||x.1.2== -p.2)
theorem kj (p:Int×Int) (x:(Int×Int)×List UInt8) (T:List ((Int×Int)×List UInt8)):dY p (x::T)=if jM p x then x.2 else dY p T:=rfl
theorem oG {p:Int×Int} {pre T:List ((Int×Int)×List UInt8)} (h:∀x∈pre,jM p x=false):dY p (pre++T)=dY p T:=by
 induction pre with
 |nil=>rfl
 |cons x pre ih=>
  rw [zAD,kj,h x (by simp),ih (fun y hy=>h y (by simp [hy]))]
  rfl
def Ag (h:Nat) (p:Int×Int) (first:Bool):List aI:=[(h,189,#[.int .i64 p.1,.int .i64 p.2]),(h+1,9,#[.string ⟨#[]⟩]),(h+2,4,#[.bool first])]
set_option maxRecDepth 100000 in
set_option maxHeartbeats 4000000 in
theorem yX (p:Int×Int) (first:Bool) (w:World) (hT:Ts w) (hp: -127≤p.2∧p.2≤127):Calls Tryz.prog 208 #[.agg #[.int .i64 p.1,.int .i64 p.2],.bool first] w fun e w'=>e= .returned (.string (bs (dY p (aX first))))∧Below w.heap.size w w':=by
 have HT:=zAA hT
 obtain ⟨p1,p2⟩:=p
 obtain ⟨hp1,hp2⟩:=hp
 dsimp only at hp1 hp2
 obtain ⟨TL,htl⟩:∃TL,TL=aX first:=⟨_,rfl⟩
 have SQ:=zAA (fun b I hI hIs=>qb 4 (by decide) b first I hI hIs)
 rw [←htl] at SQ
 rw [←htl]
 clear htl hT
 obtain ⟨R,hR⟩:∃R,R=dY (p1,p2) TL:=⟨_,rfl⟩
 rw [←hR]
 have HR:=zAA hR
 clear hR
 refine (callsIn_wide (n:=5)).1 ?_
 refine callsIn_of_wp_marks Tryz.func208 rfl trivial ?_ rfl
 simp only [Tryz.ntmps208,zAO,zAP,zAQ,zAI,zAT,Array.replicate_succ,Array.replicate_zero,zAN,zAJ,zAS,zAD]
 refine wpIn_wide.2 ?_
 go_wp2_with (go_at_call 245;refine (m7 first _).mono ?_;rintro e w' ⟨rfl,rfl⟩)
 simp only [Nat.add_assoc,zAI]
 refine (wpIn_wide (n:=5)).1 ?_
 refine C5 (α:=(Int×Int)×List UInt8) (enc:=lW) (I:=cR w (fun pre (_:Unit)=>∀x∈pre,jM (p1,p2) x=false) (fun _ _=>Ag w.heap.size (p1,p2) first) (fun _ _=>[])) (I2:=cR w (fun pre (_:Unit)=>∀x∈pre,jM (p1,p2) x=false) (fun _ _=>Ag w.heap.size (p1,p2) first) (fun _ _=>[])) (S:=fun xs=>xs=TL) (Sp:=fun pre=>pre<+:TL)
  rfl (by decide) (gf:=270) (lb:= #[.pointer (some ⟨w.heap.size+2,0,none⟩)]) rfl trivial (enters_of Tryz.func270 (by kernel_rfl) rfl)
  (SQ.out (w.heap.size+2) _ gC ?hIs) (fun _=>rfl)
  (fun cd _ W=>mY w [(w.heap.size+1,9,#[.string (bs R)])] cd W)
  (fun pre x g W=>cR w (fun pre (_:Unit)=>∀x∈pre,jM (p1,p2) x=false) (fun _ _=>(g,189,#[.int .i64 x.1.1,.int .i64 x.1.2])::Ag w.heap.size (p1,p2) first) (fun _ _=>[]) pre W)
  (bq (by simp;omega) _ _ _) (bq (by simp;omega) _ _ _) (fun cd=>ik (by simp;omega) _ _) (fun x g=>bq (by simp;omega) _ _ _) ?start ?round ?done ?stop
 case hIs=>
  rintro pre W ⟨⟨_,_,hc⟩⟩
  exact ⟨hc.2.1.tail.tail.head,HT.out.below hc.1⟩
 case start=>
  refine ⟨⟨(),(fun x hx=>by cases hx),?_,?_,aE _⟩⟩
  ·exact (((Below.refl _ _).alloc (zAC _) _).alloc (by simp) _).alloc (by simp;omega) _
  ·unfold Ag
   refine aa.cons ?_ (aa.cons ?_ (aa.cons ?_ (ag _)))
   all_goals (repeat (first|(refine aD (ab.new _ _ _) ?_;simp [World.size_alloc];done)|refine ab.alloc ?_ _))
 case round=>
  apply Exists.intro
  refine And.intro ?_ ?_
  ·rintro lp pre x W ⟨⟨u,hu,hc⟩⟩ hsp
   have HU:=zAA hu;have HC:=zAA hc
   clear hu hc hsp
   unfold lW
   gi_wp2
   obtain ⟨g0,hg0⟩:∃g0,W.heap.size=g0:=⟨_,rfl⟩
   have hcc:=dO (ao HC.out (.cells #[.int .i64 x.1.1,.int .i64 x.1.2] 189)) (aD (ab.new W 189 #[.int .i64 x.1.1,.int .i64 x.1.2]) hg0)
   rw [hg0]
   exact ⟨⟨g0,rfl,⟨u,HU.out,hcc⟩⟩,ce (KeepsFrom.refl _ _) _,(bO.refl _ _).alloc _⟩
  ·rintro lp pre x g W ⟨⟨u,hu,hc⟩⟩ hsp
   unfold Ag at hc
   have hs:=hc.2.1
   have y0:=hs.head.cell 0
   have y1:=hs.head.cell 1
   have x0:=hs.tail.head.cell 0
   have x1:=hs.tail.head.cell 1
   have r0:=hs.tail.tail.head.cell 0
   have f0:=hs.tail.tail.head.frozen 0
   dsimp only at y0 y1 x0 x1 r0 f0
   obtain ⟨⟨q1,q2⟩,cc⟩:=x
   dsimp only at y0 y1 hc
   have HC:=zAA hc;have HU:=zAA hu;have HSP:=zAA hsp
   have hwn:wrap64 (-p2)= -p2:=by unfold wrap64;omega
   clear hc hu hsp hs
   cases e1:(q1==p1) with
   |false=>
    have HM:=zAA (show jM (p1,p2) ((q1,q2),cc)=false by unfold jM;dsimp only;rw [e1];rfl)
    gi_wp2_with fail
    refine ⟨KeepsFrom.refl _ _,bO.refl _ _,⟨⟨(),?_,ar HC.out⟩⟩⟩
    intro z hz
    rcases zAR.1 hz with hz|hz
    ·exact HU.out z hz
    ·rw [zAK] at hz;rw [hz];exact HM.out
   |true=>
    cases e2:(q2==p2) with
    |true=>
     have HM:=zAA (show jM (p1,p2) ((q1,q2),cc)=true by unfold jM;dsimp only;rw [e1,e2];rfl)
     gi_wp2_with fail
     have hRc:R=cc:=by
      obtain ⟨t,ht⟩:=HSP.out
      rw [HR.out,←ht,zAL,oG HU.out,zAG,kj,HM.out];rfl
     have hs:=HC.out
     refine ⟨ak (KeepsFrom.refl _ _) _ _,rfl,hs.1.setCell (p:=⟨w.heap.size+1,0,none⟩) (by show w.heap.size≤_;simp) _,aa.cons ?_ (ag _),aE _⟩
     rw [hRc]
     exact hs.2.1.tail.tail.head.set_ 0 _
    |false=>
     cases e3:(q2== -p2) with
     |true=>
      have HM:=zAA (show jM (p1,p2) ((q1,q2),cc)=true by unfold jM;dsimp only;rw [e1,e2,e3];rfl)
      gi_wp2_with fail
      have hRc:R=cc:=by
       obtain ⟨t,ht⟩:=HSP.out
       rw [HR.out,←ht,zAL,oG HU.out,zAG,kj,HM.out];rfl
      have hs:=HC.out
      refine ⟨ak (KeepsFrom.refl _ _) _ _,rfl,hs.1.setCell (p:=⟨w.heap.size+1,0,none⟩) (by show w.heap.size≤_;simp) _,aa.cons ?_ (ag _),aE _⟩
      rw [hRc]
      exact hs.2.1.tail.tail.head.set_ 0 _
     |false=>
      have HM:=zAA (show jM (p1,p2) ((q1,q2),cc)=false by unfold jM;dsimp only;rw [e1,e2,e3];rfl)
      gi_wp2_with fail
      refine ⟨KeepsFrom.refl _ _,bO.refl _ _,⟨⟨(),?_,ar HC.out⟩⟩⟩
      intro z hz
      rcases zAR.1 hz with hz|hz
      ·exact HU.out z hz
      ·rw [zAK] at hz;rw [hz];exact HM.out
 case done=>
  rintro D xs W hD rfl ⟨⟨u,hu,hc⟩⟩ hK
  have hRn:R=[]:=by rw [HR.out];have h:=oG (T:=[]) hu;rw [List.append_nil] at h;rw [h];rfl
  have hs:=hc.2.1
  unfold Ag at hs
  have b1:=hs.tail.head
  dsimp only at b1
  have r0:=b1.cell 0
  have f0:=b1.frozen 0
  have HRN:=zAA hRn;have HB1:=zAA b1;have HK:=zAA hK;have HBe:=zAA hc.1
  clear hRn hs b1 hc hu hK
  gi_wp2_with fail
  go_wp2_with fail
  have hDp:D≠w.heap.size+1:=by simp at hD;omega
  have hK2:=(Below.heap_setCell W ⟨w.heap.size+1,0,none⟩ (.string ⟨#[]⟩) D hDp).trans HK.out
  have hc2:aa [(w.heap.size+1,9,#[.string (bs R)])] (W.setCell ⟨w.heap.size+1,0,none⟩ (.string ⟨#[]⟩)):=by
   rw [HRN.out]
   exact aa.cons (HB1.out.set_ 0 _) (ag _)
  have hc4:=cF (o':= .deferred none) hc2 hK2 rfl
  have hb4:=cq (o:= .deferred none) (HBe.out.setCell (p:=⟨w.heap.size+1,0,none⟩) (by show w.heap.size≤_;simp) (.string ⟨#[]⟩)) (D:=D) (by simp at hD;omega)
  have q0:=hc4.head.cell 0
  refine ef hK2 (v:= .string (bs R)) ?_ ?_
  ·simp [results,Tryz.results208,go_sem,q0]
  ·exact ⟨rfl,hb4⟩
 case stop=>
  rintro D cd pre W hD hsp ⟨rfl,hbel,hcs,_⟩ hK
  have HBel:=zAA hbel;have HCS:=zAA hcs;have HK:=zAA hK
  clear hbel hcs hK hsp
  gi_wp2_with fail
  have hc4:=cF (o':= .deferred none) HCS.out HK.out rfl
  have hb4:=cq (o:= .deferred none) HBel.out (D:=D) (by simp at hD;omega)
  have q0:=hc4.head.cell 0
  refine ef HK.out (v:= .string (bs R)) ?_ ?_
  ·simp [results,Tryz.results208,go_sem,q0]
  ·exact ⟨rfl,hb4⟩
end Go.Proofs.YthhijgcfbjcgiaaGreatDoor
namespace Go.Proofs.YthhijgcfbjcgiaaGreatDoor
open Go Go.RowKit
open Go.Lib renaming hid→zAA
open List renaming setIfInBounds_toArray→zAB,set_cons_succ→zAC,set_cons_zero→zAD,map_congr_left→zAG,mem_range→zAK,map_cons→zAL
open Bool renaming and_eq_true→zAE
open Nat renaming mul_assoc→zAF,two_pow_pos→zAI,le_refl→zAO
open Int renaming toNat_natCast→zAH
open Go.IntKind renaming signed→zAJ,bits→zAM,wrap→zAN
theorem EZ (n m:Nat):jI n m=ax n m:=by
 induction m with
 |zero=>rfl
 |succ m ih=>
  unfold ax at ih⊢
  rw [List.range_succ_eq_map,zAL,List.map_map,jI,ih]
  congr 1
  apply zAG
  intro j hj
  have hj:=zAK.1 hj
  show _=(fun j=>if n / 2 ^ (m+1 - 1 - j) % 2=0 then (48:UInt8) else 49) (j+1)
  dsimp only
  rw [show m+1 - 1 - (j+1)=m - 1 - j by omega]
theorem Fd (q n m:Nat):ax (q*2 ^ m+n) m=ax n m:=by
 unfold ax
 apply zAG
 intro j hj
 have hj:=zAK.1 hj
 have e:2 ^ m=2 ^ (m - 1 - j)*2 ^ (j+1):=by rw [←Nat.pow_add];congr 1;omega
 have h:(q*2 ^ m+n) / 2 ^ (m - 1 - j) % 2=n / 2 ^ (m - 1 - j) % 2:=by
  rw [e,←zAF,Nat.mul_comm q,zAF,Nat.mul_add_div (zAI _),Nat.pow_succ,←zAF,Nat.mul_add_mod_self_right]
 rw [h]
theorem wy (n m:Nat) (h:n<2 ^ m):jI (2 ^ m+n) (m+1)=49::ax n m:=by
 rw [jI,EZ]
 have h1:=Fd 1 n m
 rw [Nat.one_mul] at h1
 rw [h1]
 congr 1
 unfold lQ
 rw [Nat.add_div_left _ (zAI m),Nat.div_eq_of_lt h]
 rfl
theorem qk (a b:List UInt8):bs a++bs b=bs (a++b):=by apply ByteArray.ext;simp [bs]
theorem rW (n:Nat) (m:Nat) (hm:m=6∨m=8) (hn:n<2 ^ m) (w:World) (hT:Tz w):Calls Tryz.prog 246 #[.int .i64 (n:Int),.int .i64 (m:Int)] w fun e w'=>e= .returned (.string (bs (ax n m)))∧Below w.heap.size w w':=by
 have HT:=zAA hT
 clear hT
 rcases hm with rfl|rfl
 ·have HF:=zAA (fun W hW=>Fi ((n:Int)+64) 6 (by omega) (by omega) (by decide) W hW)
  rw [show ((n:Int)+64).toNat=2 ^ 6+n by omega,wy n 6 hn] at HF
  have hi:(n:Int)<64:=by omega
  have hsh:(1:Int)*2 ^ 6=64:=by decide
  go_enter Tryz.func246,Tryz.ntmps246
  go_wp2_with (go_at_call 198;refine (HF.out _ HT.out).mono ?_;rintro e w2 ⟨rfl,hb2⟩;have HB2:=zAA hb2;clear hb2)
  go_ret
  exact ⟨rfl,HB2.out⟩
 ·have HF:=zAA (fun W hW=>Fi ((n:Int)+256) 8 (by omega) (by omega) (by decide) W hW)
  rw [show ((n:Int)+256).toNat=2 ^ 8+n by omega,wy n 8 hn] at HF
  have hi:(n:Int)<256:=by omega
  go_enter Tryz.func246,Tryz.ntmps246
  go_wp2_with (go_at_call 198;refine (HF.out _ HT.out).mono ?_;rintro e w2 ⟨rfl,hb2⟩;have HB2:=zAA hb2;clear hb2)
  go_ret
  exact ⟨rfl,HB2.out⟩
set_option maxRecDepth 100000 in
set_option maxHeartbeats 2000000 in
theorem wG (p:Int×Int) (w:World) (hT:Tz w) (hp:ft p=true):Calls Tryz.prog 209 #[.agg #[.int .i64 p.1,.int .i64 p.2]] w fun e w'=>e= .returned (.tuple #[.string (bs (iL p)),.int .i64 0])∧Below w.heap.size w w':=by
 have HT:=zAA hT
 have CPr:=zAA (fun W=>rV p W)
 rw [hp] at CPr
 obtain ⟨a,b⟩:=p
 unfold ft at hp
 simp only [zAE,decide_eq_true_eq] at hp
 obtain ⟨⟨⟨⟨h1,h2⟩,h3⟩,h4⟩,_⟩:=hp
 obtain ⟨r,rfl⟩:=Int.eq_ofNat_of_zero_le h1
 unfold iL
 dsimp only at CPr⊢
 rw [zAH]
 obtain ⟨u,hu⟩:∃u:Nat,b % 256=(u:Int):=⟨(b % 256).toNat,by omega⟩
 have hu2:u<256:=by omega
 rw [hu,zAH]
 have C1:=zAA (fun W hW=>rW r 6 (.inl rfl) (by omega) W hW)
 have C2:=zAA (fun W hW=>rW u 8 (.inr rfl) (by omega) W hW)
 have hc1:IntKind.i8.wrap b=b:=by simp [zAN,zAM,zAJ];omega
 have hc2:IntKind.u8.wrap b=(u:Int):=by simp [zAN,zAM,zAJ];omega
 have hui:(u:Int)<256:=by omega
 have hd6:(ax r 6).length=6:=by simp [ax]
 have hd8:(ax u 8).length=8:=by simp [ax]
 have hwu:IntKind.i64.wrap (u:Int)=(u:Int):=by rw [IntKind.wrap_i64];omega
 clear hT h1 hu
 go_enter Tryz.func209,Tryz.ntmps209
 go_wp2_with (go_at_call 207;refine (CPr.out _).mono ?_;rintro e w1 ⟨rfl,hb1⟩;have hlt:=((ab.new w 189 #[.int .i64 (r:Int),.int .i64 b]).below hb1 (ab.new w 189 #[.int .i64 (r:Int),.int .i64 b]).lt);have y0:=hlt.cell 0;have y1:=hlt.cell 1;have HB1:=zAA hb1;have HL:=zAA hlt;clear hb1 hlt)
 have hA:Below w.heap.size w (w.alloc (.cells #[.int .i64 (r:Int),.int .i64 b] 189)):=(Below.refl w.heap.size w).alloc (zAO _) _
 have hA1:=(hA.trans (HB1.out.mono hA.size)).drew
 have HT1:=zAA (show Tz w1.drew from HT.out.below hA1)
 have HBa:=zAA hA1
 clear hA hA1
 refine ai (fun w'=>w'.cell? ⟨w.heap.size,0,none⟩=some (.int .i64 (r:Int))∧w'.cell? ⟨w.heap.size,1,none⟩=some (.int .i64 b)) 12 (.take 0 (.take 1 (.take 2 (.take 5 (.take 6 (.take 7 (.take 8 (.take 9 (.take 10 (.step 3 (.take 4 (.step 11 .done)))))))))))) (by kernel_rfl) (by kernel_rfl) (by simp only [aR.out,Array.getD_eq_getD_getElem?,List.getElem?_toArray,List.getElem?_cons_zero,List.getElem?_cons_succ,Option.getD_some];rfl) (by simp only [zAL,List.map_nil];rfl) (⟨y0,y1⟩) (fun PE hPE=>?_)
 iterate 9
  refine ah (v:=?_) rfl (by rfl) ?_ ?_
  rotate_left
  ·intro _ hSw;(try dsimp only at hSw);obtain ⟨s0,s1⟩:=hSw;go_simp;(try with_reducible rfl)
  simp only [zAB,zAD,zAC]
 refine aV (f:=246) (args:= #[.int .i64 (r:Int),.int .i64 6]) rfl (by rfl) ?_ (C1.out _ HT1.out) (fun e w2 hr=>?_)
 ·go_simp
 obtain ⟨rfl,hb2⟩:=hr
 have hL2:ab w2 w.heap.size 189 #[.int .i64 (r:Int),.int .i64 b]:=(HL.out.drew1).below hb2 HL.out.lt
 have HT2:=zAA (HT1.out.below hb2)
 have HBb:=zAA (HBa.out.trans (hb2.mono HBa.out.size))
 refine ⟨_,rfl,_,fun _ h=>h,⟨hL2.cell 0,hL2.cell 1⟩,?_⟩
 simp only [zAB,zAD,zAC]
 refine ah (v:=?_) rfl (by rfl) ?_ ?_
 rotate_left
 ·intro _ hSw;(try dsimp only at hSw);go_simp;(try with_reducible rfl)
 simp only [zAB,zAD,zAC]
 refine aV (f:=246) (args:= #[.int .i64 (u:Int),.int .i64 8]) rfl (by rfl) ?_ (C2.out _ HT2.out) (fun e w3 hr=>?_)
 ·go_simp
 obtain ⟨rfl,hb3⟩:=hr
 have hL3:ab w3 w.heap.size 189 #[.int .i64 (r:Int),.int .i64 b]:=hL2.below hb3 hL2.lt
 have HBc:=zAA (HBb.out.trans (hb3.mono HBb.out.size))
 refine ⟨_,rfl,_,fun _ h=>h,⟨hL3.cell 0,hL3.cell 1⟩,?_⟩
 simp only [zAB,zAD,zAC]
 refine hPE _ _ ?_
 clear hPE PE
 simp only [List.drop_succ_cons,List.drop_zero]
 clear hb2 hb3 hL2 hL3 y0 y1
 go_wp2_with fail
 refine ⟨rfl,?_⟩
 go_wp2_with fail
 go_ret2
 refine ⟨?_,HBc.out⟩
 show Ending.returned (.tuple #[.string (bs fX++bs (ax r 6)++bs (ax u 8)),.int .i64 0])=_
 rw [qk,qk]
theorem oF (p:Int×Int):∀T:List ((Int×Int)×List UInt8),T.all (fun x=>decide (x.2.length≤20))=true→(dY p T).length≤20
 |[],_=>by simp [dY]
 |x::T,h=>by
  simp only [List.all_cons,zAE,decide_eq_true_eq] at h
  rw [kj]
  split
  ·exact h.1
  ·exact oF p T h.2
theorem ym (first:Bool):(aX first).all (fun x=>decide (x.2.length≤20))=true:=by cases first<;>kernel_rfl
set_option maxRecDepth 100000 in
set_option maxHeartbeats 2000000 in
theorem ul (p:Int×Int) (first:Bool) (w:World) (hT:Tz w) (hS:Ts w) (hp:ft p=true):Calls Tryz.prog 164 #[.agg #[.int .i64 p.1,.int .i64 p.2],.bool first] w fun e w'=>e= .returned (.tuple #[.string (bs (cH p first)),.int .i64 0])∧Below w.heap.size w w':=by
 have HT:=zAA hT;have HS:=zAA hS
 have CPr:=zAA (fun W=>rV p W)
 rw [hp] at CPr
 have hp2:=hp
 unfold ft at hp2
 simp only [zAE,decide_eq_true_eq] at hp2
 have hr: -127≤p.2∧p.2≤127:=⟨hp2.1.1.2,hp2.1.2⟩
 have CS:=zAA (fun W hW=>yX p first W hW hr)
 have CE:=zAA (fun W hW=>wG p W hW hp)
 have hlen:=oF p (aX first) (ym first)
 unfold cH
 obtain ⟨R,hR⟩:∃R,dY p (aX first)=R:=⟨_,rfl⟩
 rw [hR] at CS hlen⊢
 obtain ⟨E,hE⟩:∃E,iL p=E:=⟨_,rfl⟩
 rw [hE] at CE⊢
 obtain ⟨a,b⟩:=p
 dsimp only at CPr CS CE⊢
 clear hT hS hp hp2 hr hR hE
 have hA:Below w.heap.size w (w.alloc (.cells #[.int .i64 a,.int .i64 b] 189)):=(Below.refl w.heap.size w).alloc (zAO _) _
 have HA:=zAA hA
 have HB:=zAA (ab.new w 189 #[.int .i64 a,.int .i64 b])
 clear hA
 by_cases h0:R=[]
 ·subst h0
  rw [if_pos (by rfl)]
  clear hlen
  go_enter Tryz.func164,Tryz.ntmps164
  go_wp2_with (first
   |(go_at_call 207;refine (CPr.out _).mono ?_;rintro e w1 ⟨rfl,hb1⟩;have hl:=HB.out.below hb1 HB.out.lt;have y0:=hl.cell 0;have y1:=hl.cell 1;have HB1:=zAA (HA.out.trans (hb1.mono HA.out.size));have HL:=zAA hl;clear hb1 hl)
   |(go_at_call 208;refine (CS.out _ (HS.out.below HB1.out)).mono ?_;rintro e w2 ⟨rfl,hb2⟩;have hl2:=HL.out.below hb2 HL.out.lt;have z0:=hl2.cell 0;have z1:=hl2.cell 1;have HB2:=zAA (HB1.out.trans (hb2.mono HB1.out.size));clear hb2 hl2)
   |(go_at_call 209;refine (CE.out _ (HT.out.below HB2.out)).mono ?_;rintro e w3 ⟨rfl,hb3⟩;have HB3:=zAA (HB2.out.trans (hb3.mono HB2.out.size));clear hb3))
  go_ret2
  exact ⟨rfl,HB3.out⟩
 ·have e1:(R==[])=false:=by simpa using h0
  have e2:R.isEmpty=false:=by simpa using h0
  rw [if_neg (by rw [e1];decide)]
  have hl100:R.length≤100:=by omega
  clear h0 hlen
  by_cases hb:b<0
  ·have d1:decide (b<0)=true:=decide_eq_true hb
   rw [if_pos hb]
   clear hb
   go_enter Tryz.func164,Tryz.ntmps164
   go_wp2_with (first
    |(go_at_call 207;refine (CPr.out _).mono ?_;rintro e w1 ⟨rfl,hb1⟩;have hl:=HB.out.below hb1 HB.out.lt;have y0:=hl.cell 0;have y1:=hl.cell 1;have HB1:=zAA (HA.out.trans (hb1.mono HA.out.size));have HL:=zAA hl;clear hb1 hl)
    |(go_at_call 208;refine (CS.out _ (HS.out.below HB1.out)).mono ?_;rintro e w2 ⟨rfl,hb2⟩;have hl2:=HL.out.below hb2 HL.out.lt;have z0:=hl2.cell 0;have z1:=hl2.cell 1;have HB2:=zAA (HB1.out.trans (hb2.mono HB1.out.size));clear hb2 hl2))
   go_ret2
   rw [←qk]
   exact ⟨rfl,HB2.out⟩
  ·have d1:decide (b<0)=false:=decide_eq_false hb
   rw [if_neg hb]
   clear hb
   go_enter Tryz.func164,Tryz.ntmps164
   go_wp2_with (first
    |(go_at_call 207;refine (CPr.out _).mono ?_;rintro e w1 ⟨rfl,hb1⟩;have hl:=HB.out.below hb1 HB.out.lt;have y0:=hl.cell 0;have y1:=hl.cell 1;have HB1:=zAA (HA.out.trans (hb1.mono HA.out.size));have HL:=zAA hl;clear hb1 hl)
    |(go_at_call 208;refine (CS.out _ (HS.out.below HB1.out)).mono ?_;rintro e w2 ⟨rfl,hb2⟩;have hl2:=HL.out.below hb2 HL.out.lt;have z0:=hl2.cell 0;have z1:=hl2.cell 1;have HB2:=zAA (HB1.out.trans (hb2.mono HB1.out.size));clear hb2 hl2))
   go_ret2
   rw [←qk]
   exact ⟨rfl,HB2.out⟩
end Go.Proofs.YthhijgcfbjcgiaaGreatDoor
namespace Go.Proofs.YthhijgcfbjcgiaaGreatDoor
open Go Go.RowKit
attribute [local go_sem] Oper.semAt_some
open Go.Lib renaming hid→zAA,IsBuilder→zAC,BuilderAt→zAR
open Nat renaming le_of_lt→zAB,lt_of_lt_of_le→zAE,le_refl→zAI,eq_zero_or_pos→zAM
open List renaming length_append→zAD,length_map→zAF,map_append→zAG,append_assoc→zAH,drop_eq_getElem_cons→zAJ,drop_eq_nil_of_le→zAL,getElem_mem→zAO
open Go.IntKind renaming wrap_i64→zAK,i64→zAN
open Go.World renaming size_alloc→zAP
open Bool renaming or_eq_true→zAQ
theorem mR:∀(l:List (Int×Int)) (a:Int),0≤a→a≤64→ck l a=0→(l.length:Int)+a≤64∧∀p∈l,ft p=true
 |[],a,h0,h1,_=>⟨by simpa using h1,fun p hp=>by cases hp⟩
 |p::l,a,h0,h1,h=>by
  rw [qT] at h
  split at h
  ·omega
  ·rename_i c1
   split at h
   ·omega
   ·rename_i c2
    simp only [zAQ,Bool.not_eq_true',beq_iff_eq,decide_eq_true_eq,not_or,Bool.and_eq_false_iff,decide_eq_false_iff_not] at c1 c2
    obtain ⟨i1,i2⟩:=mR l (a+p.1+1) (by omega) (by omega) h
    refine ⟨by simp only [List.length_cons];omega,fun q hq=>?_⟩
    rcases List.mem_cons.1 hq with rfl|hq
    ·simp only [ft,Bool.and_eq_true,decide_eq_true_eq,bne_iff_ne,ne_eq]
     omega
    ·exact i2 q hq
theorem tl {x:bB} {intra:Bool} (h:cK x intra=0):ck x.l (eH intra)=0∧(intra=true→1≤x.dc∧x.dc≤255):=by
 unfold cK at h
 split at h
 ·omega
 ·rename_i c1
  split at h
  ·omega
  ·refine ⟨h,fun hi=>?_⟩
   subst hi
   simp only [Bool.true_and,zAQ,beq_iff_eq,decide_eq_true_eq,not_or] at c1
   omega
theorem kx (p:Int×Int) (f:Bool):(cH p f).length≤21:=by
 unfold cH
 split
 ·simp [iL,ax,fX]
 ·have h:=oF p (aX f) (ym f)
  rw [zAD]
  have h2:(if p.2<0 then [(49:UInt8)] else [48]).length=1:=by split<;>rfl
  omega
theorem Fe (d j:Nat) (h:j<8):(ax d 8).take (j+1)=(ax d 8).take j++[if d / 2 ^ (7 - j) % 2=0 then 48 else 49]:=by
 rw [List.take_add_one]
 congr 1
 have hh:(ax d 8)[j]? =some (if d / 2 ^ (7 - j) % 2=0 then 48 else 49):=by
  unfold ax
  rw [List.getElem?_map,List.getElem?_range h]
  rfl
 rw [hh]
 rfl
theorem GP (d j:Nat):(48:Int)+((d / 2 ^ j % 2:Nat):Int)=(((if d / 2 ^ j % 2=0 then 48 else 49:UInt8).toNat:Nat):Int):=by
 have h:d / 2 ^ j % 2=0∨d / 2 ^ j % 2=1:=by omega
 rcases h with h|h<;>rw [h]<;>rfl
theorem rT {T e:TypeId} {B b:Nat} {p:Value} {cs:List Value} {w w':World} (h:zAR T e B b p cs w) (hb:Below w.heap.size w w'):zAR T e B b p cs w':=by
 have hl:=h.lt
 obtain ⟨h1,v,hbk,ho,hne⟩:=h
 exact ⟨h1,v,(hb.block b hl).trans hbk,cG ho hb (zAI _),hne⟩
theorem gt {T e:TypeId} {B b:Nat} {cs:List Value} {w w':World} (h:zAC T e B b cs w) (hb:Below w.heap.size w w'):zAC T e B b cs w':=by
 rcases h with h|h
 ·exact .inl (rT h hb)
 ·exact .inr (rT h hb)
theorem lV {w W W':World} {p:aI} {B:Nat} (h:ay w [p] [] W) (hb:Below B W W') (h1:w.heap.size≤B) (h2:p.1<B):ay w [p] [] W':=
 ⟨h.1.trans (hb.mono h1),aa.cons (h.2.1.head.below hb h2) (ag _),aE _⟩
set_option maxRecDepth 100000 in
set_option maxHeartbeats 8000000 in
theorem Do (x:bB) (A:Option Addr) (n c:Nat) (intra:Bool) (w:World) (hS:Sl w A (av bA x.l)) (hn:x.l.length=n) (hc:cK x intra=0) (hT:Tz w) (hs:Ts w):
  Calls Tryz.prog 112 #[.agg #[.int .i64 x.dc,.slice A n c],.bool intra] w fun e w'=>e= .returned (.tuple #[.string (bs (bU x intra)),.int .i64 0])∧Below w.heap.size w w':=by
 obtain ⟨hsp,hdc⟩:=tl hc
 have hfr:0≤eH intra∧eH intra≤1:=by cases intra<;>decide
 obtain ⟨hln,hpr⟩:=mR x.l (eH intra) hfr.1 (by omega) hsp
 have hn64:n≤64:=by omega
 have C1:=zAA (fun W hW=>qD x A n c intra W hW hn (by omega))
 rw [hc] at C1
 obtain ⟨BP,hbp⟩:∃BP,bU x intra=BP:=⟨_,rfl⟩
 rw [hbp]
 unfold bU at hbp
 obtain ⟨dc,l⟩:=x
 dsimp only at*
 have HS:=zAA hS;have HN:=zAA hn;have HT:=zAA hT;have Hs:=zAA hs;have HPR:=zAA hpr;have HBP:=zAA hbp
 clear hS hn hT hs hpr hbp hc hsp hfr hln
 have hX:ab (w.alloc (.cells #[.int .i64 dc,.slice A n c] 93)) w.heap.size 93 #[.int .i64 dc,.slice A n c]:=ab.new w _ _
 have HX:=zAA hX
 have HB0:=zAA ((Below.refl w.heap.size w).alloc (zAI _) (.cells #[.int .i64 dc,.slice A n c] 93))
 have HS0:=zAA (HS.out.below HB0.out)
 clear hX
 cases intra with
 |false=>
  simp only [Bool.not_false,Bool.false_eq_true,if_false,List.nil_append] at HBP
  clear hdc
  go_enter Tryz.func112,Tryz.ntmps112
  go_wp2_with (go_at_call 130;refine (C1.out _ HS0.out).mono ?_;rintro e w2 ⟨rfl,hb2⟩;have HX2:=zAA (HX.out.below hb2 HX.out.lt);have HB2:=zAA (HB0.out.trans (hb2.mono HB0.out.size));clear hb2;have hz:=HX2.out.alloc (.cells #[.pointer none,.slice none 0 0] 174);have x0:=hz.cell 0;have x1:=hz.cell 1;clear hz)
  obtain ⟨b,hb⟩:∃b,w2.heap.size=b:=⟨_,rfl⟩
  have hB0:ay w [(w.heap.size,93,#[.int .i64 dc,.slice A n c])] [] (w2.alloc (.cells #[.pointer none,.slice none 0 0] 174)):=⟨HB2.out.alloc HB2.out.size _,aa.cons (HX2.out.alloc _) (ag _),aE _⟩
  have hI0:zAC 174 5 b b [] (w2.alloc (.cells #[.pointer none,.slice none 0 0] 174)):=hb▸qj w2
  have hs0:(w2.alloc (.cells #[.pointer none,.slice none 0 0] 174)).heap.size=b+1:=by rw [zAP,hb]
  have hwb:w.heap.size<b:=hb▸HX2.out.lt
  rw [hb]
  clear x0 x1
  generalize w2.alloc (.cells #[.pointer none,.slice none 0 0] 174)=W0 at hB0 hI0 hs0⊢
  have HC0:=zAA hB0;have HI0:=zAA hI0;have HZ0:=zAA hs0;have HWB:=zAA hwb
  clear hb hB0 hI0 hs0 hwb HX2 HB2 HX HB0 HS0 C1
  go_loopg [35] n (fun g v=>fun wr=>∃(j:Nat) (acc:List UInt8),j+g=n∧v= .int .i64 (j:Int)∧acc.length≤8+21*j∧Hid (acc++(dj (l.drop j) (if j=0 then true else false)++bJ)=BP)∧Hid (zAC 174 5 b b (acc.map af) wr)∧Hid (ay w [(w.heap.size,93,#[.int .i64 dc,.slice A n c])] [] wr)∧Hid (b<wr.heap.size))
  case atStart=>exact ⟨0,[],by omega,rfl,by simp,zAA (by rw [←HBP.out];simp),HI0,HC0,zAA (by rw [HZ0.out];omega)⟩
  case round=>
   obtain ⟨j,acc,hj,rfl,hacc,HA,HI,HC,HZ⟩:=hrel
   cases gk with
   |zero=>
    have hjn:j=n:=by omega
    subst hjn
    have hlt:¬((j:Int)<(j:Int)):=by omega
    have FIN:Hid (Calls Tryz.prog 153 #[.pointer (some ⟨b,0,none⟩)] wr fun e w'=>e= .returned (.string (bs acc))∧Below b wr w'):=zAA (Tryz.Builder_String_any b b acc wr HI.out (by have:=HZ.out;omega))
    have hl1:acc.length≤1352:=by omega
    have hl2:bJ.length=2:=rfl
    have hl3:acc.length+bJ.length≤1354:=by omega
    have HE:=zAA (show acc++bJ=BP by have h:=HA.out;rw [zAL (by rw [HN.out];omega)] at h;exact h)
    go_wp2_with (first|(go_at_call 153;refine FIN.out.mono ?_;rintro e w' ⟨rfl,hb1⟩;have HB1:=zAA hb1;clear hb1)|(go_at_call 166;refine (uk _).mono ?_;rintro e w' ⟨rfl,rfl⟩))
    go_ret2
    refine ⟨?_,HC.out.1.trans (HB1.out.mono (by have:=HZ.out;have:=HWB.out;omega))⟩
    rw [←HE.out,←ui];rfl
   |succ g=>
    have hlt:((j:Int)<(n:Int)):=by omega
    have hjl:j<l.length:=by rw [HN.out];omega
    obtain ⟨ad,rfl,hab,c0,c1⟩:=jU (HS.out.below HC.out.1) j hjl
    have HPJ:=zAA (HPR.out l[j] (zAO _))
    have HD:=zAA (zAJ hjl)
    obtain ⟨⟨p1,p2⟩,hpe⟩:∃p,l[j]=p:=⟨_,rfl⟩
    rw [hpe] at c0 c1 HPJ HD
    dsimp only at c0 c1
    have hw1:zAN.wrap ((j:Int)+1)=(j:Int)+1:=by rw [zAK];omega
    clear hpe hjl
    have HACC:=zAA hacc
    have HJ:=zAA hj
    obtain ⟨g0,hg0⟩:∃g0,wr.heap.size=g0:=⟨_,rfl⟩
    have HT1:=zAA (HT.out.below (HC.out.1.alloc HC.out.1.size (.cells #[.int .i64 p1,.int .i64 p2] 189)))
    have Hs1:=zAA (Hs.out.below (HC.out.1.alloc HC.out.1.size (.cells #[.int .i64 p1,.int .i64 p2] 189)))
    have CP:=zAA (fun f=>ul (p1,p2) f _ HT1.out Hs1.out HPJ.out)
    dsimp only at CP
    have HW:=zAA (fun l2 w3 h1 h2 h3=>iz b b (acc.map af) l2 w3 h1 h2 h3)
    obtain ⟨DJ,hdj⟩:∃DJ,l.drop (j+1)=DJ:=⟨_,rfl⟩
    rw [hdj] at HD
    have HDJ:=zAA hdj
    clear hdj hacc hj
    rcases zAM j with hj0|hj0
    ·have HF:=zAA (kx (p1,p2) true)
     have hj1:((j:Int)==0)=true:=by simp;omega
     have HJ0:=zAA hj0
     clear hj0
     have HA2:Hid (acc++cH (p1,p2) true++(dj DJ (if j+1=0 then true else false)++bJ)=BP):=zAA (by
      have h:=HA.out
      rw [HD.out,if_pos HJ0.out] at h
      rw [if_neg (by omega),←h]
      show _=acc++(cH (p1,p2) true++dj DJ false++bJ)
      simp only [zAH])
     obtain ⟨cp,hcp⟩:∃cp,cH (p1,p2) true=cp:=⟨_,rfl⟩
     have CPF:=zAA (CP.out true)
     rw [hcp] at HF HA2 CPF
     clear hcp HA HD
     have HLEN:=zAA (show (acc.map af).length+cp.length≤140737488355328 by rw [zAF];have:=HF.out;have:=HACC.out;omega)
     go_wp2_with (first|(go_at_call 164;refine CPF.out.mono ?_;rintro e w3 ⟨rfl,hb3⟩;have HI3:=zAA (gt (gt HI.out ((Below.refl _ _).alloc (zAI _) _)) hb3);have HC3:=zAA (bz (ao HC.out _) hb3);have HZ3:=zAA (show b<w3.heap.size by have:=HZ.out;have:=hb3.size;simp at this;omega);clear hb3)|(go_at_call 165;refine (iz b b _ _ _ HI3.out HLEN.out (zAB HZ3.out)).mono ?_;rintro e w4 ⟨rfl,hI4,hb4⟩;have HI4:=zAA hI4;have HC4:=zAA (lV HC3.out hb4 (zAB HWB.out) HWB.out);have HZ4:=zAA (zAE HZ3.out hb4.size);clear hI4 hb4))
     go_roundg g
     case measure=>omega
     case rel=>
      refine ⟨j+1,acc++cp,by have:=HJ.out;omega,rfl,by rw [zAD];have:=HF.out;have:=HACC.out;omega,?_,zAA (by rw [zAG];exact HI4.out),HC4,HZ4⟩
      rw [HDJ.out]
      exact HA2
    ·have HF:=zAA (kx (p1,p2) false)
     have hj1:((j:Int)==0)=false:=by simp;omega
     have HJ0:=zAA hj0
     clear hj0
     have HA2:Hid (acc++cH (p1,p2) false++(dj DJ (if j+1=0 then true else false)++bJ)=BP):=zAA (by
      have h:=HA.out
      rw [HD.out,if_neg (by have:=HJ0.out;omega)] at h
      rw [if_neg (by omega),←h]
      show _=acc++(cH (p1,p2) false++dj DJ false++bJ)
      simp only [zAH])
     obtain ⟨cp,hcp⟩:∃cp,cH (p1,p2) false=cp:=⟨_,rfl⟩
     have CPF:=zAA (CP.out false)
     rw [hcp] at HF HA2 CPF
     clear hcp HA HD
     have HLEN:=zAA (show (acc.map af).length+cp.length≤140737488355328 by rw [zAF];have:=HF.out;have:=HACC.out;omega)
     go_wp2_with (first|(go_at_call 164;refine CPF.out.mono ?_;rintro e w3 ⟨rfl,hb3⟩;have HI3:=zAA (gt (gt HI.out ((Below.refl _ _).alloc (zAI _) _)) hb3);have HC3:=zAA (bz (ao HC.out _) hb3);have HZ3:=zAA (show b<w3.heap.size by have:=HZ.out;have:=hb3.size;simp at this;omega);clear hb3)|(go_at_call 165;refine (iz b b _ _ _ HI3.out HLEN.out (zAB HZ3.out)).mono ?_;rintro e w4 ⟨rfl,hI4,hb4⟩;have HI4:=zAA hI4;have HC4:=zAA (lV HC3.out hb4 (zAB HWB.out) HWB.out);have HZ4:=zAA (zAE HZ3.out hb4.size);clear hI4 hb4))
     go_roundg g
     case measure=>omega
     case rel=>
      refine ⟨j+1,acc++cp,by have:=HJ.out;omega,rfl,by rw [zAD];have:=HF.out;have:=HACC.out;omega,?_,zAA (by rw [zAG];exact HI4.out),HC4,HZ4⟩
      rw [HDJ.out]
      exact HA2
 |true=>
  obtain ⟨hd1,hd2⟩:=hdc rfl
  obtain ⟨d,rfl⟩:∃d:Nat,dc=(d:Int):=⟨dc.toNat,by omega⟩
  simp only [Bool.not_true,if_true,Int.toNat_natCast] at HBP
  go_enter Tryz.func112,Tryz.ntmps112
  go_wp2_with (go_at_call 130;refine (C1.out _ HS0.out).mono ?_;rintro e w2 ⟨rfl,hb2⟩;have HX2:=zAA (HX.out.below hb2 HX.out.lt);have HB2:=zAA (HB0.out.trans (hb2.mono HB0.out.size));clear hb2;have hz:=HX2.out.alloc (.cells #[.pointer none,.slice none 0 0] 174);have x0:=hz.cell 0;have x1:=hz.cell 1;clear hz)
  obtain ⟨b,hb⟩:∃b,w2.heap.size=b:=⟨_,rfl⟩
  have hB0:ay w [(w.heap.size,93,#[.int .i64 (d:Int),.slice A n c])] [] (w2.alloc (.cells #[.pointer none,.slice none 0 0] 174)):=⟨HB2.out.alloc HB2.out.size _,aa.cons (HX2.out.alloc _) (ag _),aE _⟩
  have hI0:zAC 174 5 b b [] (w2.alloc (.cells #[.pointer none,.slice none 0 0] 174)):=hb▸qj w2
  have hs0:(w2.alloc (.cells #[.pointer none,.slice none 0 0] 174)).heap.size=b+1:=by rw [zAP,hb]
  have hwb:w.heap.size<b:=hb▸HX2.out.lt
  rw [hb]
  clear x0 x1
  generalize w2.alloc (.cells #[.pointer none,.slice none 0 0] 174)=W0 at hB0 hI0 hs0⊢
  have HC0:=zAA hB0;have HI0:=zAA hI0;have HZ0:=zAA hs0;have HWB:=zAA hwb
  clear hb hB0 hI0 hs0 hwb HX2 HB2 HX HB0 HS0 C1
  go_loopg [8] 8 (fun g v=>fun wr=>∃j:Nat,j+g=8∧v= .int .i64 (7 - (j:Int))∧Hid (zAC 174 5 b b (((ax d 8).take j).map af) wr)∧Hid (ay w [(w.heap.size,93,#[.int .i64 (d:Int),.slice A n c])] [] wr)∧Hid (b<wr.heap.size))
  case atStart=>exact ⟨0,by omega,rfl,HI0,HC0,zAA (by rw [HZ0.out];omega)⟩
  case round=>
   obtain ⟨j,hj,rfl,HI1,HC1,HZ1⟩:=hrel
   have hs:=HC1.out.2.1.head
   dsimp only at hs
   have x0:=hs.cell 0;have x1:=hs.cell 1
   clear hs
   cases gk with
   |zero=>
    obtain rfl:j=8:=by omega
    have hlt:¬(0≤7 - ((8:Nat):Int)):=by omega
    go_wp2_with fail
    have HI1:Hid (zAC 174 5 b b ((ax d 8).map af) wr):=zAA (by have h:=HI1.out;rwa [List.take_of_length_le (by simp [ax])] at h)
    clear x0 x1
    go_loopg [35] n (fun g v=>fun wr=>∃(j:Nat) (acc:List UInt8),j+g=n∧v= .int .i64 (j:Int)∧acc.length≤8+21*j∧Hid (acc++(dj (l.drop j) (if j=0 then false else false)++bJ)=BP)∧Hid (zAC 174 5 b b (acc.map af) wr)∧Hid (ay w [(w.heap.size,93,#[.int .i64 (d:Int),.slice A n c])] [] wr)∧Hid (b<wr.heap.size))
    case atStart=>exact ⟨0,ax d 8,by omega,rfl,by simp [ax],zAA (by rw [←HBP.out];simp),HI1,HC1,HZ1⟩
    case round=>
     obtain ⟨j,acc,hj,rfl,hacc,HA,HI,HC,HZ⟩:=hrel
     cases gk with
     |zero=>
      have hjn:j=n:=by omega
      subst hjn
      have hlt:¬((j:Int)<(j:Int)):=by omega
      have FIN:Hid (Calls Tryz.prog 153 #[.pointer (some ⟨b,0,none⟩)] wr fun e w'=>e= .returned (.string (bs acc))∧Below b wr w'):=zAA (Tryz.Builder_String_any b b acc wr HI.out (by have:=HZ.out;omega))
      have hl1:acc.length≤1352:=by omega
      have hl2:bJ.length=2:=rfl
      have hl3:acc.length+bJ.length≤1354:=by omega
      have HE:=zAA (show acc++bJ=BP by have h:=HA.out;rw [zAL (by rw [HN.out];omega)] at h;exact h)
      go_wp2_with (first|(go_at_call 153;refine FIN.out.mono ?_;rintro e w' ⟨rfl,hb1⟩;have HB1:=zAA hb1;clear hb1)|(go_at_call 166;refine (uk _).mono ?_;rintro e w' ⟨rfl,rfl⟩))
      go_ret2
      refine ⟨?_,HC.out.1.trans (HB1.out.mono (by have:=HZ.out;have:=HWB.out;omega))⟩
      rw [←HE.out,←ui];rfl
     |succ g=>
      have hlt:((j:Int)<(n:Int)):=by omega
      have hjl:j<l.length:=by rw [HN.out];omega
      obtain ⟨ad,rfl,hab,c0,c1⟩:=jU (HS.out.below HC.out.1) j hjl
      have HPJ:=zAA (HPR.out l[j] (zAO _))
      have HD:=zAA (zAJ hjl)
      obtain ⟨⟨p1,p2⟩,hpe⟩:∃p,l[j]=p:=⟨_,rfl⟩
      rw [hpe] at c0 c1 HPJ HD
      dsimp only at c0 c1
      have hw1:zAN.wrap ((j:Int)+1)=(j:Int)+1:=by rw [zAK];omega
      clear hpe hjl
      have HACC:=zAA hacc
      have HJ:=zAA hj
      obtain ⟨g0,hg0⟩:∃g0,wr.heap.size=g0:=⟨_,rfl⟩
      have HT1:=zAA (HT.out.below (HC.out.1.alloc HC.out.1.size (.cells #[.int .i64 p1,.int .i64 p2] 189)))
      have Hs1:=zAA (Hs.out.below (HC.out.1.alloc HC.out.1.size (.cells #[.int .i64 p1,.int .i64 p2] 189)))
      have CP:=zAA (fun f=>ul (p1,p2) f _ HT1.out Hs1.out HPJ.out)
      dsimp only at CP
      have HW:=zAA (fun l2 w3 h1 h2 h3=>iz b b (acc.map af) l2 w3 h1 h2 h3)
      obtain ⟨DJ,hdj⟩:∃DJ,l.drop (j+1)=DJ:=⟨_,rfl⟩
      rw [hdj] at HD
      have HDJ:=zAA hdj
      clear hdj hacc hj
      rcases zAM j with hj0|hj0
      ·have HF:=zAA (kx (p1,p2) false)
       have hj1:((j:Int)==0)=true:=by simp;omega
       have HJ0:=zAA hj0
       clear hj0
       have HA2:Hid (acc++cH (p1,p2) false++(dj DJ (if j+1=0 then false else false)++bJ)=BP):=zAA (by
        have h:=HA.out
        rw [HD.out,if_pos HJ0.out] at h
        rw [if_neg (by omega),←h]
        show _=acc++(cH (p1,p2) false++dj DJ false++bJ)
        simp only [zAH])
       obtain ⟨cp,hcp⟩:∃cp,cH (p1,p2) false=cp:=⟨_,rfl⟩
       have CPF:=zAA (CP.out false)
       rw [hcp] at HF HA2 CPF
       clear hcp HA HD
       have HLEN:=zAA (show (acc.map af).length+cp.length≤140737488355328 by rw [zAF];have:=HF.out;have:=HACC.out;omega)
       go_wp2_with (first|(go_at_call 164;refine CPF.out.mono ?_;rintro e w3 ⟨rfl,hb3⟩;have HI3:=zAA (gt (gt HI.out ((Below.refl _ _).alloc (zAI _) _)) hb3);have HC3:=zAA (bz (ao HC.out _) hb3);have HZ3:=zAA (show b<w3.heap.size by have:=HZ.out;have:=hb3.size;simp at this;omega);clear hb3)|(go_at_call 165;refine (iz b b _ _ _ HI3.out HLEN.out (zAB HZ3.out)).mono ?_;rintro e w4 ⟨rfl,hI4,hb4⟩;have HI4:=zAA hI4;have HC4:=zAA (lV HC3.out hb4 (zAB HWB.out) HWB.out);have HZ4:=zAA (zAE HZ3.out hb4.size);clear hI4 hb4))
       go_roundg g
       case measure=>omega
       case rel=>
        refine ⟨j+1,acc++cp,by have:=HJ.out;omega,rfl,by rw [zAD];have:=HF.out;have:=HACC.out;omega,?_,zAA (by rw [zAG];exact HI4.out),HC4,HZ4⟩
        rw [HDJ.out]
        exact HA2
      ·have HF:=zAA (kx (p1,p2) false)
       have hj1:((j:Int)==0)=false:=by simp;omega
       have HJ0:=zAA hj0
       clear hj0
       have HA2:Hid (acc++cH (p1,p2) false++(dj DJ (if j+1=0 then false else false)++bJ)=BP):=zAA (by
        have h:=HA.out
        rw [HD.out,if_neg (by have:=HJ0.out;omega)] at h
        rw [if_neg (by omega),←h]
        show _=acc++(cH (p1,p2) false++dj DJ false++bJ)
        simp only [zAH])
       obtain ⟨cp,hcp⟩:∃cp,cH (p1,p2) false=cp:=⟨_,rfl⟩
       have CPF:=zAA (CP.out false)
       rw [hcp] at HF HA2 CPF
       clear hcp HA HD
       have HLEN:=zAA (show (acc.map af).length+cp.length≤140737488355328 by rw [zAF];have:=HF.out;have:=HACC.out;omega)
       go_wp2_with (first|(go_at_call 164;refine CPF.out.mono ?_;rintro e w3 ⟨rfl,hb3⟩;have HI3:=zAA (gt (gt HI.out ((Below.refl _ _).alloc (zAI _) _)) hb3);have HC3:=zAA (bz (ao HC.out _) hb3);have HZ3:=zAA (show b<w3.heap.size by have:=HZ.out;have:=hb3.size;simp at this;omega);clear hb3)|(go_at_call 165;refine (iz b b _ _ _ HI3.out HLEN.out (zAB HZ3.out)).mono ?_;rintro e w4 ⟨rfl,hI4,hb4⟩;have HI4:=zAA hI4;have HC4:=zAA (lV HC3.out hb4 (zAB HWB.out) HWB.out);have HZ4:=zAA (zAE HZ3.out hb4.size);clear hI4 hb4))
       go_roundg g
       case measure=>omega
       case rel=>
        refine ⟨j+1,acc++cp,by have:=HJ.out;omega,rfl,by rw [zAD];have:=HF.out;have:=HACC.out;omega,?_,zAA (by rw [zAG];exact HI4.out),HC4,HZ4⟩
        rw [HDJ.out]
        exact HA2
   |succ g=>
    have hlt:(0≤7 - (j:Int)):=by omega
    have hw1:zAN.wrap (7 - (j:Int) - 1)=7 - ((j:Int)+1):=by rw [zAK];omega
    have HLEN:=zAA (show (((ax d 8).take j).map af).length+1≤140737488355328 by rw [zAF,List.length_take];omega)
    have HTK:=zAA (Fe d j (by omega))
    have HDB:=zAA (GP d (7 - j))
    go_wp2_with (go_at_call 152;refine (ku b b _ (48+(d:Int) / 2 ^ (7 - j) % 2) _ HI1.out HLEN.out (zAB HZ1.out)).mono ?_;rintro e w4 ⟨rfl,hI4,hb4⟩;have HI4:=zAA hI4;have HC4:=zAA (lV HC1.out hb4 (zAB HWB.out) HWB.out);have HZ4:=zAA (zAE HZ1.out hb4.size);clear hI4 hb4)
    go_roundg g
    case measure=>omega
    case rel=>
     refine ⟨j+1,by omega,by congr 1,zAA ?_,HC4,HZ4⟩
     have h:=HI4.out
     rw [HTK.out,zAG]
     rw [show (48+(d:Int) / 2 ^ (7 - j) % 2)=(48:Int)+((d / 2 ^ (7 - j) % 2:Nat):Int) by push_cast;rfl,HDB.out] at h
     exact h
end Go.Proofs.YthhijgcfbjcgiaaGreatDoor
