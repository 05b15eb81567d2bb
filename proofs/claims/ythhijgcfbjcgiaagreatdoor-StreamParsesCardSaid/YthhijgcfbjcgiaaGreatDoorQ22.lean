/- Fld -/
import Derived.Test.YthhijgcfbjcgiaaGreatDoorQ18
import Derived.Lib.AppendIntMem
namespace Go.Proofs.YthhijgcfbjcgiaaGreatDoor
open Go Go.RowKit
attribute [local go_sem] Oper.semAt_some
open Go.Lib renaming hid→O,fieldsGo→U,fields→V,fieldsGo_more→X,isSp→OD,TabIs→OE
open List renaming length→Z,length_nil→Y,length_drop→J,length_take→OA
open Go.Value renaming string→OB,int→OF,pointer→OG
open Tryz renaming prog→OC
def Ts (w:World):Prop:=OE OC w "strings.asciiSpace" .u8 Lib.asciiSpaceTab
theorem Ts.below {w w':World}(h:Ts w)(j:Below w.heap.size w w'):Ts w':=Lib.tabBelow_of_tabIs h w' j
theorem Ts.cell {w:World}(h:Ts w)(c:UInt8):w.cell? ⟨0,c.toNat,none⟩=some (OF .u8 (if OD c then 1 else 0)):=by
 have hl:c.toNat<256:=UInt8.toNat_lt _;have j:=OE.cell (g:=0) h (by kernel_rfl) c.toNat (by rw[Lib.asciiSpaceTab_length];exact hl);rw[j,Lib.asciiSpaceTab_at _ hl];simp
def KB:Value->Int
 |OF _ n=>n
 |_=>0
def mw:Option Nat->Int
 |none=> -1
 |some k=>k
def n9 (s:List UInt8) (i:Nat):Option Nat->List UInt8
 |none=>[]
 |some k=>(s.take i).drop k
theorem xq (s:List UInt8)(w:World):Calls OC 206 #[OB (bs s)] w λe w'=>e=.returned (.func (.func 242) #[] #[OG (some ⟨w.heap.size,0,none⟩)])/\w.alloc (.cells #[OB (bs s)] 9)=w':=by
 go_enter Tryz.func206,Tryz.ntmps206
 go_wp2
 go_ret;exact⟨rfl,rfl⟩
set_option maxRecDepth 100000 in
set_option maxHeartbeats 4000000 in
theorem Cl (n:Nat)(hn:1<=n)(b:Nat)(s:List UInt8)(hs:∀c∈s,c.toNat<128) (hsz:Z s<=100000) (I:List (List UInt8)->World->Prop) (hIs:∀pre W,I pre W->ab W b 9 #[OB (bs s)]/\Ts W):
  tJ Fence.wide n OC 242 #[OG (some ⟨b,0,none⟩)] (λx=> #[OB (bs x)]) I I (λxs=>xs=V s) (λpre=>pre<+:V s):=by
 intro lp K Jx W hK hY h0 dt;refine callsIn_of_wp Tryz.func242 rfl trivial ?_ rfl;simp only[Tryz.ntmps242,List.size_toArray,List.length_cons,Y,Nat.reduceAdd,Nat.reduceSub,Array.replicate_succ,Array.replicate_zero,List.push_toArray,List.append_toArray,List.nil_append,List.cons_append];have HY:=O hY;have rX:=O hIs;have HK:=O hK;have H0:=O h0;have wj:=O dt;have HS:=O hs;clear hY hIs hK h0 dt hs;gi_wp2_with fail
 gi_loopw [3,4] (λv3 v4 wr=>∃(i:Nat)(st:Option Nat)(pre:List (List UInt8)),v3=OF .i64 (mw st)/\v4=OF .i64 (i:Int)/\i<=Z s/\(∀k,st=some k->k<i)/\Hid (V s=pre++U (n9 s i st) (s.drop i))/\Hid (I pre wr)/\Hid (K wr)) (λ_ v4 _=>(Z s) - (KB v4).toNat)
 case atStart=>exact⟨0,none,[],rfl,rfl,by omega,by simp,O rfl,H0,wj⟩
 case round=>
  obtain⟨i,st,pre,rfl,rfl,hi,gy,T,C,G⟩:=hrel;obtain⟨hb,ht⟩:=rX.out _ _ C.out;have x0:=hb.cell 0;have HT:=O ht;clear hb ht
  by_cases ja:i<Z s
  ·have J2:(i:Int)<(Z s:Int):=by omega
   have K1:¬((i:Int)<0):=(by omega);have cz:=HS.out _ (List.getElem_mem ja);have dE:=HT.out.cell s[i];have M:s.drop i=s[i]::s.drop (i+1):=List.drop_eq_getElem_cons ja;obtain⟨c,kz⟩:∃c,s[i]=c:=⟨_,rfl⟩;rw[kz] at cz dE M;have K0:¬((128:Int)<=(c.toNat:Int)):=(by omega);have Io:IntKind.i32.wrap (c.toNat:Int)=(c.toNat:Int):=(by simp[IntKind.wrap,IntKind.bits,IntKind.signed];omega);have K4:IntKind.i64.wrap ((i:Int)+1)=(i:Int)+1:=(by rw[IntKind.wrap_i64];omega);have HD:=O M;have jT:=O gy;have B:=O ja;clear M gy cz HT
   by_cases D:OD c=true
   ·rw[if_pos D] at dE
    have aB:=O D;clear D
    cases st with
    |none=>
     have j:=O (show V s=pre++U [] (s.drop (i+1)) by rw[T.out,HD.out];show _++U [] (c::_)=_;rw[Lib.fieldsGo_sp _ _ aB.out]);clear T;dsimp only[mw];gi_wp2_with fail
     refine⟨⟨i+1,none,pre,rfl,by simp,by have:=B.out;omega,by simp,j,C,G⟩,?_⟩;have:=B.out;show (Z s) - ((i:Int)+1).toNat<Z s - (i:Int).toNat;omega
    |some k=>
     have hk:k<i:=jT.out k rfl;obtain⟨y,hy⟩:∃y,y=(s.take i).drop k:=⟨_,rfl⟩
     have hU:y≠[]:=by
      intro e;have h1:Z y=min i (Z s) - k:=(by rw[hy,J,OA]);have h2:=B.out;rw[e,Y] at h1;omega
     have N:V s=(pre++[y])++U [] (s.drop (i+1)):=by
      rw[T.out,HD.out,List.append_assoc];show _++U ((s.take i).drop k) (c::_)=_;rw[<-hy,Lib.fieldsGo_end _ _ _ aB.out hU];rfl
     have hw:pre++[y]<+:V s:=⟨_,N.symm⟩;obtain⟨fn,tmps,fW,body,Iq,hR⟩:=HY.out pre y wr C.out G.out hw;have HR:=O hR;have j:=O N;have HW:=O hw;have Ip:(k:Int)<=(i:Int):=(by omega);have dt:¬((k:Int)<0):=(by omega);have K2:(i:Int)<=(Z s:Int):=(by omega);clear hR N hw hU T hi;subst hy;dsimp only[mw];gi_wp2_with fail
     refine HR.out.mono ?_;rintro e W3 (⟨rfl,aC,dD⟩|⟨rfl,bE⟩)
     ·have dY:=O aC;have eE:=O dD
      clear aC dD;gi_wp2_with fail
      refine⟨⟨i+1,none,_,rfl,by simp,by have:=B.out;omega,by simp,j,dY,eE⟩,?_⟩;have:=B.out;show (Z s) - ((i:Int)+1).toNat<Z s - (i:Int).toNat;omega
     ·gi_wp2_with fail
      refine bodyPost_ret (results_none rfl _ _ _) rfl ?_;exact⟨⟨_,rfl⟩,.inr ⟨_,HW.out,bE⟩⟩
   ·have D:OD c=false:=by simpa using D
    rw[D] at dE;have aB:=O D;have HC:=O kz
    have gJ:∀k,k<=i->(s.take (i+1)).drop k=(s.take i).drop k++[c]:= λk hk=>by
     rw[List.take_succ_eq_append_getElem B.out,HC.out,List.drop_append_of_le_length (by rw[OA];have:=B.out;omega)]
    have HA:=O gJ;clear D gJ
    cases st with
    |none=>
     have j:=O (show V s=pre++U (n9 s (i+1) (some i)) (s.drop (i+1)) by
      rw[T.out,HD.out];show _++U [] (c::_)=_++U ((s.take (i+1)).drop i) _;rw[X _ _ _ aB.out,HA.out i (Nat.le_refl _),List.drop_take_self])
     clear T;dsimp only[mw];gi_wp2_with fail
     refine⟨⟨i+1,some i,pre,rfl,by simp,by have:=B.out;omega,by simp,j,C,G⟩,?_⟩;have:=B.out;show (Z s) - ((i:Int)+1).toNat<Z s - (i:Int).toNat;omega
    |some k=>
     have hk:k<i:=jT.out k rfl
     have j:=O (show V s=pre++U (n9 s (i+1) (some k)) (s.drop (i+1)) by
      rw[T.out,HD.out];show _++U ((s.take i).drop k) (c::_)=_++U ((s.take (i+1)).drop k) _;rw[X _ _ _ aB.out,HA.out k (by omega)])
     have dt:¬((k:Int)<0):=(by omega);clear T;dsimp only[mw];gi_wp2_with fail
     refine⟨⟨i+1,some k,pre,rfl,by simp,by have:=B.out;omega,by intro q hq;cases hq;omega,j,C,G⟩,?_⟩;have:=B.out;show (Z s) - ((i:Int)+1).toNat<Z s - (i:Int).toNat;omega
  ·obtain rfl:i=(Z s):=by omega
   have K3:¬((Z s:Int)<(Z s:Int)):=(by omega);have hf:=T.out;rw[List.drop_length] at hf
   cases st with
   |none=>
    have j:=O (show V s=pre by rw[hf];simp[n9,U]);clear hf T HT;dsimp only[mw];gi_wp2_with fail
    refine bodyPost_end (results_none rfl _ _ _) rfl ?_;exact⟨⟨_,rfl⟩,.inl (by first|exact⟨_,j.out.symm,C.out,G.out⟩|exact⟨by rw[j.out];exact C.out,G.out⟩)⟩
   |some k=>
    have hk:k<(Z s):=gy k rfl;obtain⟨y,hy⟩:∃y,y=s.drop k:=⟨_,rfl⟩
    have N:V s=pre++[y]:=by
     rw[hf];show _++U ((s.take (Z s)).drop k) []=_;rw[List.take_length,<-hy,U]
     have:y≠[]:=by
      intro e;have h1:Z y=Z s - k:=(by rw[hy,J]);rw[e,Y] at h1;omega
     simp[this]
    have hw:pre++[y]<+:V s:=(by rw[N];exact List.prefix_refl _);obtain⟨fn,tmps,fW,body,Iq,hR⟩:=HY.out pre y wr C.out G.out hw;have HR:=O hR;have j:=O N;have HW:=O hw;have Ip:(k:Int)<=(Z s:Int):=(by omega);have dt:¬((k:Int)<0):=(by omega);clear hR N hw hf T HT gy;subst hy;dsimp only[mw];gi_wp2_with fail
    refine HR.out.mono ?_;rintro e W3 (⟨rfl,aC,dD⟩|⟨rfl,bE⟩)
    ·have dY:=O aC;have eE:=O dD
     clear aC dD;gi_wp2_with fail
     refine bodyPost_end (results_none rfl _ _ _) rfl ?_;exact⟨⟨_,rfl⟩,.inl (by first|exact⟨_,j.out.symm,dY.out,eE.out⟩|exact⟨by rw[j.out];exact dY.out,eE.out⟩)⟩
    ·gi_wp2_with fail
     refine bodyPost_end (results_none rfl _ _ _) rfl ?_;exact⟨⟨_,rfl⟩,.inr ⟨_,HW.out,bE⟩⟩
end Go.Proofs.YthhijgcfbjcgiaaGreatDoor
