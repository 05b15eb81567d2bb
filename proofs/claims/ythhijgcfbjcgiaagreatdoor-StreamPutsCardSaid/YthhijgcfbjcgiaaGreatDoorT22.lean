/- Fld -/
import Derived.Test.YthhijgcfbjcgiaaGreatDoorT18
import Derived.Lib.AppendIntMem
namespace Go.Proofs.YthhijgcfbjcgiaaGreatDoor
open Go Go.RowKit
attribute [local go_sem] Oper.semAt_some
open Go.Lib renaming hid→O,fieldsGo→U,fields→V,fieldsGo_more→X,isSp→OD,TabIs→OE
open List renaming length→Z,length_nil→Y,length_drop→J,length_take→OA
open Go.Value renaming string→OB,int→OF,pointer→OG
open Tryz renaming prog→OC
def Ts (w:World):Prop:=OE OC w "strings.asciiSpace" .u8 Lib.asciiSpaceTab
theorem Ts.below {w w':World}(h:Ts w)(j:Below w.heap.size w w'):Ts w':=Lib.tabBelow_of_tabIs h w' j
theorem Ts.cell {w:World}(h:Ts w)(c:UInt8):w.cell? ⟨0,c.toNat,none⟩=some (OF .u8 (if OD c then 1 else 0)):=by
 have hl:c.toNat<256:=UInt8.toNat_lt _;have j:=OE.cell (g:=0) h (by kernel_rfl) c.toNat (by rw[Lib.asciiSpaceTab_length];exact hl);rw[j,Lib.asciiSpaceTab_at _ hl];simp
def Kr:Value->Int
 |OF _ n=>n
 |_=>0
def mF:Option Nat->Int
 |none=> -1
 |some k=>k
def nW (s:List UInt8) (i:Nat):Option Nat->List UInt8
 |none=>[]
 |some k=>(s.take i).drop k
theorem wR (s:List UInt8)(w:World):Calls OC 206 #[OB (bs s)] w λe w'=>e=.returned (.func (.func 242) #[] #[OG (some ⟨w.heap.size,0,none⟩)])/\w.alloc (.cells #[OB (bs s)] 9)=w':=by
 go_enter Tryz.func206,Tryz.ntmps206
 go_wp2
 go_ret;exact⟨rfl,rfl⟩
set_option maxRecDepth 100000 in
set_option maxHeartbeats 4000000 in
theorem BS (n:Nat)(hn:1<=n)(b:Nat)(s:List UInt8)(hs:∀c∈s,c.toNat<128) (hsz:Z s<=100000) (I:List (List UInt8)->World->Prop) (hIs:∀pre W,I pre W->ab W b 9 #[OB (bs s)]/\Ts W):
  tc Fence.wide n OC 242 #[OG (some ⟨b,0,none⟩)] (λx=> #[OB (bs x)]) I I (λxs=>xs=V s) (λpre=>pre<+:V s):=by
 intro lp K Jx W hK hY h0 cI;refine callsIn_of_wp Tryz.func242 rfl trivial ?_ rfl;simp only[Tryz.ntmps242,List.size_toArray,List.length_cons,Y,Nat.reduceAdd,Nat.reduceSub,Array.replicate_succ,Array.replicate_zero,List.push_toArray,List.append_toArray,List.nil_append,List.cons_append];have HY:=O hY;have Hl:=O hIs;have HK:=O hK;have H0:=O h0;have Ht:=O cI;have HS:=O hs;clear hY hIs hK h0 cI hs;gi_wp2_with fail
 gi_loopw [3,4] (λv3 v4 wr=>∃(i:Nat)(st:Option Nat)(pre:List (List UInt8)),v3=OF .i64 (mF st)/\v4=OF .i64 (i:Int)/\i<=Z s/\(∀k,st=some k->k<i)/\Hid (V s=pre++U (nW s i st) (s.drop i))/\Hid (I pre wr)/\Hid (K wr)) (λ_ v4 _=>(Z s) - (Kr v4).toNat)
 case atStart=>exact⟨0,none,[],rfl,rfl,by omega,by simp,O rfl,H0,Ht⟩
 case round=>
  obtain⟨i,st,pre,rfl,rfl,hi,gj,T,C,G⟩:=hrel;obtain⟨hb,ht⟩:=Hl.out _ _ C.out;have x0:=hb.cell 0;have HT:=O ht;clear hb ht
  by_cases jY:i<Z s
  ·have K3:(i:Int)<(Z s:Int):=by omega
   have K5:¬((i:Int)<0):=(by omega);have cE:=HS.out _ (List.getElem_mem jY);have dy:=HT.out.cell s[i];have M:s.drop i=s[i]::s.drop (i+1):=List.drop_eq_getElem_cons jY;obtain⟨c,rG⟩:∃c,s[i]=c:=⟨_,rfl⟩;rw[rG] at cE dy M;have K4:¬((128:Int)<=(c.toNat:Int)):=(by omega);have Hu:IntKind.i32.wrap (c.toNat:Int)=(c.toNat:Int):=(by simp[IntKind.wrap,IntKind.bits,IntKind.signed];omega);have K9:IntKind.i64.wrap ((i:Int)+1)=(i:Int)+1:=(by rw[IntKind.wrap_i64];omega);have HD:=O M;have kA:=O gj;have B:=O jY;clear M gj cE HT
   by_cases D:OD c=true
   ·rw[if_pos D] at dy
    have av:=O D;clear D
    cases st with
    |none=>
     have j:=O (show V s=pre++U [] (s.drop (i+1)) by rw[T.out,HD.out];show _++U [] (c::_)=_;rw[Lib.fieldsGo_sp _ _ av.out]);clear T;dsimp only[mF];gi_wp2_with fail
     refine⟨⟨i+1,none,pre,rfl,by simp,by have:=B.out;omega,by simp,j,C,G⟩,?_⟩;have:=B.out;show (Z s) - ((i:Int)+1).toNat<Z s - (i:Int).toNat;omega
    |some k=>
     have hk:k<i:=kA.out k rfl;obtain⟨y,hy⟩:∃y,y=(s.take i).drop k:=⟨_,rfl⟩
     have jg:y≠[]:=by
      intro e;have h1:Z y=min i (Z s) - k:=(by rw[hy,J,OA]);have h2:=B.out;rw[e,Y] at h1;omega
     have N:V s=(pre++[y])++U [] (s.drop (i+1)):=by
      rw[T.out,HD.out,List.append_assoc];show _++U ((s.take i).drop k) (c::_)=_;rw[<-hy,Lib.fieldsGo_end _ _ _ av.out jg];rfl
     have hw:pre++[y]<+:V s:=⟨_,N.symm⟩;obtain⟨fn,tmps,fJ,kU,K0,hR⟩:=HY.out pre y wr C.out G.out hw;have HR:=O hR;have j:=O N;have HW:=O hw;have JT:(k:Int)<=(i:Int):=(by omega);have cI:¬((k:Int)<0):=(by omega);have K6:(i:Int)<=(Z s:Int):=(by omega);clear hR N hw jg T hi;subst hy;dsimp only[mF];gi_wp2_with fail
     refine HR.out.mono ?_;rintro e W3 (⟨rfl,aJ,dv⟩|⟨rfl,bM⟩)
     ·have dO:=O aJ;have eE:=O dv
      clear aJ dv;gi_wp2_with fail
      refine⟨⟨i+1,none,_,rfl,by simp,by have:=B.out;omega,by simp,j,dO,eE⟩,?_⟩;have:=B.out;show (Z s) - ((i:Int)+1).toNat<Z s - (i:Int).toNat;omega
     ·gi_wp2_with fail
      refine bodyPost_ret (results_none rfl _ _ _) rfl ?_;exact⟨⟨_,rfl⟩,.inr ⟨_,HW.out,bM⟩⟩
   ·have D:OD c=false:=by simpa using D
    rw[D] at dy;have av:=O D;have HC:=O rG
    have iP:∀k,k<=i->(s.take (i+1)).drop k=(s.take i).drop k++[c]:= λk hk=>by
     rw[List.take_succ_eq_append_getElem B.out,HC.out,List.drop_append_of_le_length (by rw[OA];have:=B.out;omega)]
    have HA:=O iP;clear D iP
    cases st with
    |none=>
     have j:=O (show V s=pre++U (nW s (i+1) (some i)) (s.drop (i+1)) by
      rw[T.out,HD.out];show _++U [] (c::_)=_++U ((s.take (i+1)).drop i) _;rw[X _ _ _ av.out,HA.out i (Nat.le_refl _),List.drop_take_self])
     clear T;dsimp only[mF];gi_wp2_with fail
     refine⟨⟨i+1,some i,pre,rfl,by simp,by have:=B.out;omega,by simp,j,C,G⟩,?_⟩;have:=B.out;show (Z s) - ((i:Int)+1).toNat<Z s - (i:Int).toNat;omega
    |some k=>
     have hk:k<i:=kA.out k rfl
     have j:=O (show V s=pre++U (nW s (i+1) (some k)) (s.drop (i+1)) by
      rw[T.out,HD.out];show _++U ((s.take i).drop k) (c::_)=_++U ((s.take (i+1)).drop k) _;rw[X _ _ _ av.out,HA.out k (by omega)])
     have cI:¬((k:Int)<0):=(by omega);clear T;dsimp only[mF];gi_wp2_with fail
     refine⟨⟨i+1,some k,pre,rfl,by simp,by have:=B.out;omega,by intro q hq;cases hq;omega,j,C,G⟩,?_⟩;have:=B.out;show (Z s) - ((i:Int)+1).toNat<Z s - (i:Int).toNat;omega
  ·obtain rfl:i=(Z s):=by omega
   have K8:¬((Z s:Int)<(Z s:Int)):=(by omega);have hf:=T.out;rw[List.drop_length] at hf
   cases st with
   |none=>
    have j:=O (show V s=pre by rw[hf];simp[nW,U]);clear hf T HT;dsimp only[mF];gi_wp2_with fail
    refine bodyPost_end (results_none rfl _ _ _) rfl ?_;exact⟨⟨_,rfl⟩,.inl (by first|exact⟨_,j.out.symm,C.out,G.out⟩|exact⟨by rw[j.out];exact C.out,G.out⟩)⟩
   |some k=>
    have hk:k<(Z s):=gj k rfl;obtain⟨y,hy⟩:∃y,y=s.drop k:=⟨_,rfl⟩
    have N:V s=pre++[y]:=by
     rw[hf];show _++U ((s.take (Z s)).drop k) []=_;rw[List.take_length,<-hy,U]
     have:y≠[]:=by
      intro e;have h1:Z y=Z s - k:=(by rw[hy,J]);rw[e,Y] at h1;omega
     simp[this]
    have hw:pre++[y]<+:V s:=(by rw[N];exact List.prefix_refl _);obtain⟨fn,tmps,fJ,kU,K0,hR⟩:=HY.out pre y wr C.out G.out hw;have HR:=O hR;have j:=O N;have HW:=O hw;have JT:(k:Int)<=(Z s:Int):=(by omega);have cI:¬((k:Int)<0):=(by omega);clear hR N hw hf T HT gj;subst hy;dsimp only[mF];gi_wp2_with fail
    refine HR.out.mono ?_;rintro e W3 (⟨rfl,aJ,dv⟩|⟨rfl,bM⟩)
    ·have dO:=O aJ;have eE:=O dv
     clear aJ dv;gi_wp2_with fail
     refine bodyPost_end (results_none rfl _ _ _) rfl ?_;exact⟨⟨_,rfl⟩,.inl (by first|exact⟨_,j.out.symm,dO.out,eE.out⟩|exact⟨by rw[j.out];exact dO.out,eE.out⟩)⟩
    ·gi_wp2_with fail
     refine bodyPost_end (results_none rfl _ _ _) rfl ?_;exact⟨⟨_,rfl⟩,.inr ⟨_,HW.out,bM⟩⟩
end Go.Proofs.YthhijgcfbjcgiaaGreatDoor
