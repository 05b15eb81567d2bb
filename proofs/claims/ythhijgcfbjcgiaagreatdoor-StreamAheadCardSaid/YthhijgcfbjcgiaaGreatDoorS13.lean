/- PfxI, PfxM -/
import Derived.Test.YthhijgcfbjcgiaaGreatDoorS04
import Derived.Test.YthhijgcfbjcgiaaGreatDoorS12
import Derived.Test.YthhijgcfbjcgiaaGreatDoorS01
import Derived.Test.YthhijgcfbjcgiaaGreatDoorS10
namespace Go.Proofs.YthhijgcfbjcgiaaGreatDoor
open Go Go.RowKit
attribute [local go_sem] Oper.semAt_some
open Go.Lib renaming hid→zAA
def fp (l:List UInt8) (i n:Nat):List Nat:=(List.range n).map fun j=>aP l (i+j)
theorem fW (l:List UInt8) (i n:Nat):(fp l i n).length=n:=by simp [fp]
theorem Dh (l:List UInt8) (i n:Nat) (pre:List Nat) (x:Nat) (h:pre++[x]<+:fp l i n):pre.length<n∧x=aP l (i+pre.length):=by
 have h1:=h.length_le
 rw [fW] at h1
 simp at h1
 refine ⟨by omega,?_⟩
 obtain ⟨t,ht⟩:=h
 have h2:(pre++[x]++t)[pre.length]? =(fp l i n)[pre.length]? :=by rw [ht]
 rw [List.append_assoc,List.getElem?_append_right (Nat.le_refl _)] at h2
 simp [fp,List.getElem?_map,List.getElem?_range (show pre.length<n by omega)] at h2
 exact h2
theorem rR (l:List UInt8) (i n k:Nat) (h:k<n):(fp l i n).take k++[aP l (i+k)]=(fp l i n).take (k+1):=by
 rw [List.take_succ_eq_append_getElem (by rw [fW];exact h)]
 simp [fp]
def wJ (b:Nat) (w:World):Int:=match w.cell? ⟨b,0,none⟩ with|some (.int .i64 x)=>x|_=>0
theorem rY {w:World} {b:Nat} {t:TypeId} {x:Int} (h:ab w b t #[.int .i64 x]):wJ b w=x:=by
 unfold wJ
 rw [h.cell 0]
 rfl
set_option maxRecDepth 100000 in
set_option maxHeartbeats 2000000 in
theorem Fj (n:Nat) (hn:1≤n) (b1 b2:Nat) (A:Option Addr) (m c:Nat) (l:List UInt8) (i0:Nat) (hl:l.length=m) (hsz:m≤2 ^ 47) (C:List Nat→World→Prop)
  (hC:∀pre W v,C pre W→C pre (W.setCell ⟨b2,0,none⟩ v)) (hCs:∀pre W,C pre W→ab W b1 25 #[.slice A m c]∧Sl W A (l.map af)):
  ti Fence.wide n Tryz.prog 292 #[.pointer (some ⟨b1,0,none⟩),.pointer (some ⟨b2,0,none⟩)] (fun x:Nat=> #[.int .i64 x]) (fun pre W=>C pre W∧ab W b2 3 #[.int .i64 ((i0+pre.length:Nat):Int)])
   (fun pre W=>C pre W∧ab W b2 3 #[.int .i64 ((i0+pre.length - 1:Nat):Int)]) (fun xs=>xs=fp l i0 (8*m - i0)) (fun pre=>pre<+:fp l i0 (8*m - i0)):=by
 intro lp K Jx W hK hY h0 hk0
 refine callsIn_of_wp Tryz.func292 rfl trivial ?_ rfl
 simp only [Tryz.ntmps292,List.size_toArray,List.length_cons,List.length_nil,Nat.reduceAdd,Nat.reduceSub,Array.replicate_succ,Array.replicate_zero,List.push_toArray,List.append_toArray,List.nil_append,List.cons_append]
 have HY:=zAA hY;have HC:=zAA hC;have HCs:=zAA hCs;have HK:=zAA hK;have HL:=zAA hl
 have H0:=zAA h0;have HK0:=zAA hk0
 clear hY hC hCs hK hl h0 hk0
 gi_wp2_with fail
 gi_loopw [] (fun wr=>∃j:Nat,Hid (C ((fp l i0 (8*m - i0)).take j) wr)∧Hid (ab wr b2 3 #[.int .i64 ((i0+j:Nat):Int)])∧j≤8*m - i0∧Hid (K wr)) (fun wr=>8*m - (wJ b2 wr).toNat)
 case atStart=>
  exact ⟨0,zAA H0.out.1,zAA H0.out.2,Nat.zero_le _,HK0⟩
 case round=>
  obtain ⟨j,HCj,HB,hj,HKr⟩:=hrel
  have x2:=HB.out.cell 0
  obtain ⟨hb1,hA⟩:=HCs.out _ _ HCj.out
  have x1:=hb1.cell 0
  have HA:=zAA hA
  clear hb1 hA
  obtain ⟨p,hp⟩:∃p,p=i0+j:=⟨_,rfl⟩
  have hp0:(0:Int)≤(p:Int):=by omega
  rw [←hp] at x2
  by_cases hlt:p<8*m
  ·have Rd:=zAA (fun W h=>fM ((aP l p:Nat):Int) A m c l (p:Int) 1 W (by rw [Int.toNat_natCast];show ((aF l p 1:Nat):Int)=_;rw [l5]) h HL.out hp0 (by decide) (by decide) (by omega) hsz)
   have hjn:j<8*m - i0:=by omega
   have hsp:(fp l i0 (8*m - i0)).take j++[aP l p]<+:fp l i0 (8*m - i0):=by rw [hp,rR _ _ _ _ hjn];exact List.take_prefix _ _
   have htl:((fp l i0 (8*m - i0)).take j).length=j:=by rw [List.length_take,fW];omega
   obtain ⟨fn,tmps,assign,body,hy,hR⟩:=HY.out _ (aP l p) wr ⟨HCj.out,by rw [htl];exact HB.out⟩ HKr.out hsp
   have HR:=zAA hR
   have HJN:=zAA hjn;have HP:=zAA hp;have HSP:=zAA hsp;have HTL:=zAA htl;have HLT:=zAA hlt
   clear hR hjn hp hsp htl hlt hj
   gi_wp2_with (refine ⟨trivial,?_⟩;gi_at_call 56;refine (callsIn_wide.2 (Rd.out _ HA.out)).mono ?_;rintro e w' ⟨rfl,rfl⟩)
   refine HR.out.mono ?_
   rintro e W3 (⟨rfl,hI3,hk3⟩|⟨rfl,hJx3⟩)
   ·have hb3:ab W3 b2 3 #[.int .i64 (p:Int)]:=by
     have h:=hI3.2
     rw [List.length_append,HTL.out] at h
     rw [HP.out];simpa using h
    have y2:=hb3.cell 0
    have g2:=hb3.frozen 0
    have hw1:IntKind.i64.wrap ((p:Int)+1)=(p:Int)+1:=by have:=HLT.out;rw [IntKind.wrap_i64];omega
    have HB3:=zAA hb3;have HI3:=zAA hI3.1;have HK3:=zAA hk3
    clear hb3 hI3 hk3
    have HS:=zAA (HB3.out.set_ 0 (.int .i64 ((p:Int)+1)))
    have HC3:=zAA (HC.out _ _ (.int .i64 ((p:Int)+1)) HI3.out)
    have HKS:=zAA (HK.out.set HK3.out HB3.out (v:= .int .i64 ((p+1:Nat):Int)) (p:=⟨b2,0,none⟩))
    gi_wp2_with fail
    have h5:=HP.out;have h6:=HLT.out;have h7:=HJN.out
    refine ⟨⟨j+1,?_,zAA ?_,by omega,HKS⟩,?_⟩
    ·rw [←rR _ _ _ _ h7,←h5];exact HC3
    ·rw [show ((i0+(j+1):Nat):Int)=(p:Int)+1 by omega];exact HS.out
    ·have h9:=rY HS.out;have h10:=rY HB.out
     rw [h9,h10,←h5];omega
   ·gi_wp2_with fail
    refine bodyPost_ret (results_none rfl _ _ _) rfl ?_
    exact ⟨⟨_,rfl⟩,.inr ⟨_,HSP.out,hJx3⟩⟩
  ·have Rd:=zAA (fun W=>de A m c (p:Int) 1 W hp0 (by decide) (by decide) (by omega) hsz)
   have hje:j=8*m - i0:=by omega
   have HCe:Hid (C (fp l i0 (8*m - i0)) wr∧ab wr b2 3 #[.int .i64 ((i0+(fp l i0 (8*m - i0)).length:Nat):Int)]):=zAA ⟨by have h:=HCj.out;rwa [List.take_of_length_le (by rw [fW];omega)] at h,by rw [fW,←hje];exact HB.out⟩
   clear hje hp hj hlt
   gi_wp2_with (refine ⟨trivial,?_⟩;gi_at_call 56;refine (callsIn_wide.2 (Rd.out _)).mono ?_;rintro e w' ⟨rfl,rfl⟩)
   refine ⟨fun _ h=>(by cases h),?_⟩
   gi_wp2_with fail
   refine bodyPost_ret (results_none rfl _ _ _) rfl ?_
   exact ⟨⟨_,rfl⟩,.inl ⟨_,rfl,HCe.out,HKr.out⟩⟩
end Go.Proofs.YthhijgcfbjcgiaaGreatDoor
namespace Go.Proofs.YthhijgcfbjcgiaaGreatDoor
open Go Go.RowKit Go.Maps
attribute [local go_sem] Oper.semAt_some
open Go.Lib renaming hid→zAA
open Nat renaming le_refl→zAB
open List renaming drop_eq_getElem_cons→zAC,all_eq_true→zAD,getElem_mem→zAE,getElem_map→zAF
set_option maxRecDepth 100000 in
set_option maxHeartbeats 2000000 in
theorem Cn (w:World) (base T:Nat) (N:List Nd) (D:DataW Value) (f:Int→Option (List UInt8)) (many:Nat) (h:ej w base T N D many) (hm:many≠0) (hD:j9 D f) (num:Int) (hnum:(Lit.int .i64 num).wf=true):
  Calls Tryz.prog 158 #[.pointer (some ⟨T,0,none⟩),.int .i64 num] w fun e w'=>e= .returned (.tuple #[.string (bs ((f num).getD [])),.int .i64 (if (f num).isSome then 0 else 18)])∧Below w.heap.size w w':=by
 have HN:=zAA (qQ w base T N D many h hm)
 have HNUM:=zAA (AI num hnum)
 have HD:=zAA hD
 obtain ⟨v,mb,hBt,hRow,hMap,hbm,hbT⟩:=h
 have HM:=zAA hMap
 have c1:=hBt.cell 1
 have hhas:=(hD.2 num).1
 clear hBt hRow hMap hbm hbT hD hnum
 cases hf:f num with
 |some c=>
  rw [hf] at hhas
  have hh:Maps.has D (.int .i64 num)=true:=hhas
  have HF:=zAA hf
  clear hf hhas
  go_enter Tryz.func158,Tryz.ntmps158
  go_wp2_with (first
   |(go_at_call 202;refine HN.out.mono ?_;rintro e w' ⟨rfl,rfl⟩)
   |(at_lookup;refine wpList_lookup_own_ok _ rfl _ _ 230 rfl 3 227 kz Tryz.underlying230 gB (z:=fu []) (Tryz.zeroValue227 _) (.held (fu [])) [] rfl mb _ _ rfl HM.out (.int .i64 num) (.int .i64 num) rfl HNUM.out ?_;intro v ps hv;obtain rfl:=mI HD.out hv;clear hv))
  go_ret2
  rw [HF.out]
  exact ⟨rfl,(Below.refl _ _).alloc (zAB _) _⟩
 |none=>
  rw [hf] at hhas
  have hh:Maps.has D (.int .i64 num)=false:=hhas
  have HF:=zAA hf
  clear hf hhas
  go_enter Tryz.func158,Tryz.ntmps158
  go_wp2_with (first
   |(go_at_call 202;refine HN.out.mono ?_;rintro e w' ⟨rfl,rfl⟩)
   |(at_lookup;refine wpList_lookup_own_ok _ rfl _ _ 230 rfl 3 227 kz Tryz.underlying230 gB (z:=fu []) (Tryz.zeroValue227 _) (.held (fu [])) [] rfl mb _ _ rfl HM.out (.int .i64 num) (.int .i64 num) rfl HNUM.out ?_;intro v ps hv;obtain rfl:=mI HD.out hv;clear hv))
  go_ret2
  exact ⟨rfl,(Below.refl _ _).alloc (zAB _) _⟩
theorem za (A:Option Addr) (n c:Nat) (cs:List (List UInt8)) (w:World) (hA:Sl w A (cs.map bE)) (hn:cs.length=n) (hn2:n≤300) (hcode:cs.all dr=true):
  Calls Tryz.prog 266 #[.slice A n c,.func (.func 237) #[] #[]] w fun e w'=>e= .returned (.int .i64 (-1))∧w=w':=by
 have HA:=zAA hA;have Hn:=zAA hn;have Hcode:=zAA hcode
 clear hA hn hcode
 go_enter Tryz.func266,Tryz.ntmps266
 go_wp2_with fail
 go_loopg [8] n (fun g i=>fun wr=>∃(j:Nat),j+g=n∧i= .int .i64 (j:Int)∧w=wr)
 case atStart=>exact ⟨0,by omega,rfl,rfl⟩
 case round=>
  obtain ⟨j,hj,rfl,rfl⟩:=hrel
  cases gk with
  |zero=>
   have hlt:¬((j:Int)<(n:Int)):=by omega
   go_wp2_with fail
   go_ret
   exact ⟨rfl,rfl⟩
  |succ g=>
   have hlt:((j:Int)<(n:Int)):=by omega
   have hjl:j<cs.length:=by rw [Hn.out];omega
   obtain ⟨ad,rfl,_,hcell⟩:=HA.out.at_ j (by simpa using hjl)
   rw [zAF] at hcell
   unfold bE at hcell
   have hcd:=zAA (zAD.1 Hcode.out cs[j] (zAE hjl))
   go_wp2_with (go_at_call 237;refine (xQ _ hcd.out _).mono ?_;rintro e w' ⟨rfl,rfl⟩)
   go_roundg g
   case measure=>omega
   case rel=>exact ⟨j+1,by omega,rfl,rfl⟩
theorem tw (A:Option Addr) (n c:Nat) (cs:List (List UInt8)) (w:World) (hA:Sl w A (cs.map bE)) (hn:cs.length=n) (hn2:n≤300) (hcode:cs.all dr=true):
  Calls Tryz.prog 236 #[.slice A n c,.func (.func 237) #[] #[]] w fun e w'=>e= .returned (.bool false)∧w=w':=by
 have H:=zAA (za A n c cs w hA hn hn2 hcode)
 clear hA hn hcode
 go_enter Tryz.func236,Tryz.ntmps236
 go_wp2_with (go_at_call 266;refine H.out.mono ?_;rintro e w' ⟨rfl,rfl⟩)
 go_ret
 exact ⟨rfl,rfl⟩
theorem zx {N:List Nd} {c:List UInt8} {cs:List (List UInt8)} {n:Int} {ns:List Int} {R:List Nd} (h:fF N (c::cs) (n::ns)=some R):∃M,xR N c n=some M∧fF M cs ns=some R:=by
 rw [fF] at h
 cases hp:xR N c n with
 |none=>rw [hp] at h;cases h
 |some M=>rw [hp] at h;exact ⟨M,rfl,h⟩
def Db (cs:List (List UInt8)) (ns:List Int) (w:World) (e:Ending) (w':World):Prop:=∃T,e= .returned (.tuple #[.pointer (some ⟨T,0,none⟩),.int .i64 0])∧ej w' w.heap.size T (fw cs ns) (pA cs ns) cs.length∧Below w.heap.size w w'
theorem DU (w:World):ej ((((w.alloc (.cells #[.int .i64 0,.int .i64 0,.bool false,.int .i64 0] 260)).alloc (.map #[] 0))).alloc (.cells #[.slice (some ⟨w.heap.size,0,none⟩) 1 1,.map (some (w.heap.size+1)),.int .i64 0] 232)) w.heap.size (w.heap.size+1+1) [bT] (.map []) 0:=by
 refine ⟨_,w.heap.size+1,aD (ab.new _ _ _) (by simp),?_,?_,by omega,by omega⟩
 ·exact cG (World.ownsRow_lit w #[.int .i64 0,.int .i64 0,.bool false,.int .i64 0] 1 (zAB _) (by decide) rfl) (((Below.refl _ _).alloc (zAB _) _).alloc (by simp) _) (by simp)
 ·have:=World.ownsMap_made (w.alloc (.cells #[.int .i64 0,.int .i64 0,.bool false,.int .i64 0] 260)) Tryz.prog 3 gB
  rw [World.size_alloc] at this
  exact this.alloc _
set_option maxRecDepth 100000 in
set_option maxHeartbeats 4000000 in
theorem zu (A B:Option Addr) (n c d:Nat) (cs:List (List UInt8)) (ns:List Int) (w:World) (hA:Sl w A (cs.map bE)) (hB:Sl w B (ns.map aY)) (hc:cs.length=n) (hn:ns.length=n) (h1:1≤n) (h300:n≤300)
  (hcode:cs.all dr=true) (hput:(fF [bT] cs ns).isSome=true) (hwf:ns.all (fun k=>(Lit.int .i64 k).wf)=true):
  Calls Tryz.prog 201 #[.slice A n c,.slice B n d] w (Db cs ns w):=by
 have Hco:=zAA (tw A n c cs w hA hc h300 hcode)
 have HA:=zAA hA;have HB:=zAA hB;have Hc:=zAA hc;have Hn:=zAA hn;have Hcode:=zAA hcode;have Hwf:=zAA hwf
 have hpa:fF [bT] cs ns=some (fw cs ns):=by unfold fw;cases h:fF [bT] cs ns with
  |none=>rw [h] at hput;cases hput
  |some R=>rfl
 have Hpa:=zAA hpa
 have e0:((n:Int)==0)=false:=by rw [beq_eq_false_iff_ne];omega
 have e3:decide (300<(n:Int))=false:=by simp;omega
 have hmk:∀W:World,(Instr.makeMap 230 none).run Tryz.prog W= .ok (.map (some W.heap.size)) (W.alloc (.map #[] 0)):=fun W=>run_makeMap _ W
 clear hA hB hc hn hcode hput hwf hpa
 go_enter Tryz.func201,Tryz.ntmps201
 go_wp2_with (go_at_call 236;refine Hco.out.mono ?_;rintro e w' ⟨rfl,rfl⟩)
 go_loopg [35] n (fun g i=>fun wr=>∃(j:Nat) (N':List Nd) (D':DataW Value) (f:Int→Option (List UInt8)),j+g=n∧i= .int .i64 (j:Int)∧Hid (fF N' (cs.drop j) (ns.drop j)=some (fw cs ns))∧Hid (tk D' (cs.drop j) (ns.drop j)=pA cs ns)∧Hid (j9 D' f)∧Hid (ej wr w.heap.size (w.heap.size+1+1) N' D' j)∧Hid (Below w.heap.size w wr))
 case atStart=>
  exact ⟨0,[bT],.map [],fun _=>none,by omega,rfl,Hpa,zAA rfl,zAA sS,zAA (DU w),zAA (((((Below.refl _ _).alloc (zAB _) _).alloc (by simp) _).alloc (by simp;omega) _))⟩
 case round=>
  obtain ⟨j,N',D',f,hj,rfl,HP,HD,HT,HW,HBl⟩:=hrel
  cases gk with
  |succ g=>
   have hlt:((j:Int)<(n:Int)):=by omega
   have hjl:j<cs.length:=by rw [Hc.out];omega
   have hjn:j<ns.length:=by rw [Hn.out];omega
   obtain ⟨ad,rfl,_,hcell⟩:=(HA.out.below HBl.out).at_ j (by simpa using hjl)
   rw [zAF] at hcell
   unfold bE at hcell
   obtain ⟨ae,rfl,_,hcn⟩:=(HB.out.below HBl.out).int j hjn
   have hcd:=zAA (zAD.1 Hcode.out cs[j] (zAE hjl))
   have hwn:=zAA (zAD.1 Hwf.out ns[j] (zAE hjn))
   have hp:=HP.out
   have hd:=HD.out
   rw [zAC hjl,zAC hjn] at hp hd
   obtain ⟨M,hM,hp⟩:=zx hp
   have CP:=zAA (Cp wr w.heap.size (w.heap.size+1+1) N' D' f j cs[j] ns[j] M hcd.out hM (by omega) HW.out HT.out hwn.out HBl.out.size)
   have HP2:=zAA hp
   have HD2:=zAA (show tk (nL D' ns[j] cs[j]) (cs.drop (j+1)) (ns.drop (j+1))=pA cs ns from hd)
   have HT2:=zAA (vc HT.out ns[j] cs[j])
   generalize cs[j]=cj at hcell CP HD2 HT2 hcd
   generalize ns[j]=nj at hcn CP HD2 HT2 hwn
   clear hp hd hM
   go_wp2_with (go_at_call 239;refine CP.out.mono ?_;rintro e w' ⟨rfl,ht2,hb2⟩;have HW2:=zAA ht2;have HB2:=zAA hb2;clear ht2 hb2)
   go_roundg g
   case measure=>omega
   case rel=>exact ⟨j+1,M,_,_,by omega,rfl,HP2,HD2,HT2,HW2,zAA (HBl.out.trans HB2.out)⟩
  |zero=>
   have hlt:¬((j:Int)<(n:Int)):=by omega
   have hje:j=n:=by omega
   go_wp2_with fail
   go_ret2
   have hp:=HP.out
   have hd:=HD.out
   rw [List.drop_eq_nil_of_le (by rw [Hc.out];omega)] at hp hd
   have e1:N'=fw cs ns:=by rw [fF.eq_def] at hp;simpa using hp
   have e2:D'=pA cs ns:=by rw [tk.eq_def] at hd;simpa using hd
   refine ⟨_,rfl,?_,HBl.out⟩
   rw [Hc.out,←hje,←e1,←e2]
   exact HW.out
end Go.Proofs.YthhijgcfbjcgiaaGreatDoor
