/- Fld -/
import Derived.Test.YthhijgcfbjcgiaaGreatDoorS16
import Derived.Lib.Fields
import Derived.Lib.Space
import Derived.Lib.LaidTab
import Derived.Lib.AppendIntMem
namespace Go.Proofs.YthhijgcfbjcgiaaGreatDoor
open Go Go.RowKit
attribute [local go_sem] Oper.semAt_some
open Go.Lib renaming hid→zAA,fieldsGo→zAB,fields→zAC,fieldsGo_more→zAE,isSp→zAH
open List renaming length_nil→zAD,length_drop→zAF,length_take→zAG
def Ts (w:World):Prop:=Lib.TabIs Tryz.prog w "strings.asciiSpace" .u8 Lib.asciiSpaceTab
theorem Ts.below {w w':World} (h:Ts w) (hb:Below w.heap.size w w'):Ts w':=Lib.tabBelow_of_tabIs h w' hb
theorem Ts.cell {w:World} (h:Ts w) (c:UInt8):w.cell? ⟨0,c.toNat,none⟩=some (.int .u8 (if zAH c then 1 else 0)):=by
 have hl:c.toNat<256:=UInt8.toNat_lt _
 have h1:=Lib.TabIs.cell (g:=0) h (by kernel_rfl) c.toNat (by rw [Lib.asciiSpaceTab_length];exact hl)
 rw [h1,Lib.asciiSpaceTab_at _ hl]
 simp
def Kd:Value→Int
 | .int _ n=>n
 |_=>0
def mt:Option Nat→Int
 |none=> -1
 |some k=>k
def nZ (s:List UInt8) (i:Nat):Option Nat→List UInt8
 |none=>[]
 |some k=>(s.take i).drop k
theorem wL (s:List UInt8) (w:World):Calls Tryz.prog 206 #[.string (bs s)] w fun e w'=>e= .returned (.func (.func 242) #[] #[.pointer (some ⟨w.heap.size,0,none⟩)])∧w.alloc (.cells #[.string (bs s)] 9)=w':=by
 go_enter Tryz.func206,Tryz.ntmps206
 go_wp2
 go_ret
 exact ⟨rfl,rfl⟩
set_option maxRecDepth 100000 in
set_option maxHeartbeats 4000000 in
theorem BN (n:Nat) (hn:1≤n) (b:Nat) (s:List UInt8) (hs:∀c∈s,c.toNat<128) (hsz:s.length≤100000) (I:List (List UInt8)→World→Prop) (hIs:∀pre W,I pre W→ab W b 9 #[.string (bs s)]∧Ts W):
  ti Fence.wide n Tryz.prog 242 #[.pointer (some ⟨b,0,none⟩)] (fun x=> #[.string (bs x)]) I I (fun xs=>xs=zAC s) (fun pre=>pre<+:zAC s):=by
 intro lp K Jx W hK hY h0 hk0
 refine callsIn_of_wp Tryz.func242 rfl trivial ?_ rfl
 simp only [Tryz.ntmps242,List.size_toArray,List.length_cons,zAD,Nat.reduceAdd,Nat.reduceSub,Array.replicate_succ,Array.replicate_zero,List.push_toArray,List.append_toArray,List.nil_append,List.cons_append]
 have HY:=zAA hY;have HIs:=zAA hIs;have HK:=zAA hK;have H0:=zAA h0;have HK0:=zAA hk0;have HS:=zAA hs
 clear hY hIs hK h0 hk0 hs
 gi_wp2_with fail
 gi_loopw [3,4] (fun v3 v4 wr=>∃(i:Nat) (st:Option Nat) (pre:List (List UInt8)),v3= .int .i64 (mt st)∧v4= .int .i64 (i:Int)∧i≤s.length∧(∀k,st=some k→k<i)∧Hid (zAC s=pre++zAB (nZ s i st) (s.drop i))∧Hid (I pre wr)∧Hid (K wr)) (fun _ v4 _=>s.length - (Kd v4).toNat)
 case atStart=>exact ⟨0,none,[],rfl,rfl,by omega,by simp,zAA rfl,H0,HK0⟩
 case round=>
  obtain ⟨i,st,pre,rfl,rfl,hi,hst,HF,HIr,HKr⟩:=hrel
  obtain ⟨hb,ht⟩:=HIs.out _ _ HIr.out
  have x0:=hb.cell 0
  have HT:=zAA ht
  clear hb ht
  by_cases hlt:i<s.length
  ·have hlti:(i:Int)<(s.length:Int):=by omega
   have hi0:¬((i:Int)<0):=by omega
   have hc128:=HS.out _ (List.getElem_mem hlt)
   have htab:=HT.out.cell s[i]
   have hdrop:s.drop i=s[i]::s.drop (i+1):=List.drop_eq_getElem_cons hlt
   obtain ⟨c,hcv⟩:∃c,s[i]=c:=⟨_,rfl⟩
   rw [hcv] at hc128 htab hdrop
   have hcn:¬((128:Int)≤(c.toNat:Int)):=by omega
   have hcv32:IntKind.i32.wrap (c.toNat:Int)=(c.toNat:Int):=by simp [IntKind.wrap,IntKind.bits,IntKind.signed];omega
   have hw1:IntKind.i64.wrap ((i:Int)+1)=(i:Int)+1:=by rw [IntKind.wrap_i64];omega
   have HD:=zAA hdrop;have HST:=zAA hst;have HLT:=zAA hlt
   clear hdrop hst hc128 HT
   by_cases hsp:zAH c=true
   ·rw [if_pos hsp] at htab
    have HSP:=zAA hsp
    clear hsp
    cases st with
    |none=>
     have HF2:=zAA (show zAC s=pre++zAB [] (s.drop (i+1)) by rw [HF.out,HD.out];show _++zAB [] (c::_)=_;rw [Lib.fieldsGo_sp _ _ HSP.out])
     clear HF
     dsimp only [mt]
     gi_wp2_with fail
     refine ⟨⟨i+1,none,pre,rfl,by simp,by have:=HLT.out;omega,by simp,HF2,HIr,HKr⟩,?_⟩
     have:=HLT.out
     show s.length - ((i:Int)+1).toNat<s.length - (i:Int).toNat
     omega
    |some k=>
     have hk:k<i:=HST.out k rfl
     obtain ⟨y,hy⟩:∃y,y=(s.take i).drop k:=⟨_,rfl⟩
     have hyne:y≠[]:=by
      intro e
      have h1:y.length=min i s.length - k:=by rw [hy,zAF,zAG]
      have h2:=HLT.out
      rw [e,zAD] at h1
      omega
     have hf2:zAC s=(pre++[y])++zAB [] (s.drop (i+1)):=by
      rw [HF.out,HD.out,List.append_assoc]
      show _++zAB ((s.take i).drop k) (c::_)=_
      rw [←hy,Lib.fieldsGo_end _ _ _ HSP.out hyne];rfl
     have hw:pre++[y]<+:zAC s:=⟨_,hf2.symm⟩
     obtain ⟨fn,tmps,assign,body,hyy,hR⟩:=HY.out pre y wr HIr.out HKr.out hw
     have HR:=zAA hR;have HF2:=zAA hf2;have HW:=zAA hw
     have hki:(k:Int)≤(i:Int):=by omega
     have hk0:¬((k:Int)<0):=by omega
     have hil:(i:Int)≤(s.length:Int):=by omega
     clear hR hf2 hw hyne HF hi
     subst hy
     dsimp only [mt]
     gi_wp2_with fail
     refine HR.out.mono ?_
     rintro e W3 (⟨rfl,hI3,hk3⟩|⟨rfl,hJx3⟩)
     ·have HI3:=zAA hI3;have HK3:=zAA hk3
      clear hI3 hk3
      gi_wp2_with fail
      refine ⟨⟨i+1,none,_,rfl,by simp,by have:=HLT.out;omega,by simp,HF2,HI3,HK3⟩,?_⟩
      have:=HLT.out
      show s.length - ((i:Int)+1).toNat<s.length - (i:Int).toNat
      omega
     ·gi_wp2_with fail
      refine bodyPost_ret (results_none rfl _ _ _) rfl ?_
      exact ⟨⟨_,rfl⟩,.inr ⟨_,HW.out,hJx3⟩⟩
   ·have hsp:zAH c=false:=by simpa using hsp
    rw [hsp] at htab
    have HSP:=zAA hsp
    have HC:=zAA hcv
    have hacc:∀k,k≤i→(s.take (i+1)).drop k=(s.take i).drop k++[c]:=fun k hk=>by
     rw [List.take_succ_eq_append_getElem HLT.out,HC.out,List.drop_append_of_le_length (by rw [zAG];have:=HLT.out;omega)]
    have HA:=zAA hacc
    clear hsp hacc
    cases st with
    |none=>
     have HF2:=zAA (show zAC s=pre++zAB (nZ s (i+1) (some i)) (s.drop (i+1)) by
      rw [HF.out,HD.out]
      show _++zAB [] (c::_)=_++zAB ((s.take (i+1)).drop i) _
      rw [zAE _ _ _ HSP.out,HA.out i (Nat.le_refl _),List.drop_take_self])
     clear HF
     dsimp only [mt]
     gi_wp2_with fail
     refine ⟨⟨i+1,some i,pre,rfl,by simp,by have:=HLT.out;omega,by simp,HF2,HIr,HKr⟩,?_⟩
     have:=HLT.out
     show s.length - ((i:Int)+1).toNat<s.length - (i:Int).toNat
     omega
    |some k=>
     have hk:k<i:=HST.out k rfl
     have HF2:=zAA (show zAC s=pre++zAB (nZ s (i+1) (some k)) (s.drop (i+1)) by
      rw [HF.out,HD.out]
      show _++zAB ((s.take i).drop k) (c::_)=_++zAB ((s.take (i+1)).drop k) _
      rw [zAE _ _ _ HSP.out,HA.out k (by omega)])
     have hk0:¬((k:Int)<0):=by omega
     clear HF
     dsimp only [mt]
     gi_wp2_with fail
     refine ⟨⟨i+1,some k,pre,rfl,by simp,by have:=HLT.out;omega,by intro q hq;cases hq;omega,HF2,HIr,HKr⟩,?_⟩
     have:=HLT.out
     show s.length - ((i:Int)+1).toNat<s.length - (i:Int).toNat
     omega
  ·obtain rfl:i=s.length:=by omega
   have hnl:¬((s.length:Int)<(s.length:Int)):=by omega
   have hf:=HF.out
   rw [List.drop_length] at hf
   cases st with
   |none=>
    have HF2:=zAA (show zAC s=pre by rw [hf];simp [nZ,zAB])
    clear hf HF HT
    dsimp only [mt]
    gi_wp2_with fail
    refine bodyPost_end (results_none rfl _ _ _) rfl ?_
    exact ⟨⟨_,rfl⟩,.inl (by first|exact ⟨_,HF2.out.symm,HIr.out,HKr.out⟩|exact ⟨by rw [HF2.out];exact HIr.out,HKr.out⟩)⟩
   |some k=>
    have hk:k<s.length:=hst k rfl
    obtain ⟨y,hy⟩:∃y,y=s.drop k:=⟨_,rfl⟩
    have hf2:zAC s=pre++[y]:=by
     rw [hf]
     show _++zAB ((s.take s.length).drop k) []=_
     rw [List.take_length,←hy,zAB]
     have:y≠[]:=by
      intro e
      have h1:y.length=s.length - k:=by rw [hy,zAF]
      rw [e,zAD] at h1
      omega
     simp [this]
    have hw:pre++[y]<+:zAC s:=by rw [hf2];exact List.prefix_refl _
    obtain ⟨fn,tmps,assign,body,hyy,hR⟩:=HY.out pre y wr HIr.out HKr.out hw
    have HR:=zAA hR;have HF2:=zAA hf2;have HW:=zAA hw
    have hki:(k:Int)≤(s.length:Int):=by omega
    have hk0:¬((k:Int)<0):=by omega
    clear hR hf2 hw hf HF HT hst
    subst hy
    dsimp only [mt]
    gi_wp2_with fail
    refine HR.out.mono ?_
    rintro e W3 (⟨rfl,hI3,hk3⟩|⟨rfl,hJx3⟩)
    ·have HI3:=zAA hI3;have HK3:=zAA hk3
     clear hI3 hk3
     gi_wp2_with fail
     refine bodyPost_end (results_none rfl _ _ _) rfl ?_
     exact ⟨⟨_,rfl⟩,.inl (by first|exact ⟨_,HF2.out.symm,HI3.out,HK3.out⟩|exact ⟨by rw [HF2.out];exact HI3.out,HK3.out⟩)⟩
    ·gi_wp2_with fail
     refine bodyPost_end (results_none rfl _ _ _) rfl ?_
     exact ⟨⟨_,rfl⟩,.inr ⟨_,HW.out,hJx3⟩⟩
end Go.Proofs.YthhijgcfbjcgiaaGreatDoor
