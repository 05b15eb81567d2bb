/- Cf1, Tabl, Short, Cput -/
import Derived.Test.YthhijgcfbjcgiaaGreatDoorT26
import Derived.Test.YthhijgcfbjcgiaaGreatDoorT19
import Derived.Test.YthhijgcfbjcgiaaGreatDoorT22
namespace Go.Proofs.YthhijgcfbjcgiaaGreatDoor
section
open Go Go.RowKit
set_option maxHeartbeats 16000000
open Go.Lib renaming hid→O,IsBuilder→OL
open List renaming length→U,setIfInBounds_toArray→OB,drop_succ_cons→OE,set_cons_succ→OF,set_cons_zero→OG,take_length→OI,map_append→OJ,drop_zero→OK
open Tryz renaming ntmps207→Z,func207→Y,prog→OC,ntmps294→OM,func294→ON
open Nat renaming le_refl→V
open Go.Proofs.YthhijgcfbjcgiaaGreatDoor.bY renaming take→X
open Bool renaming and_false→J,false_and→OA
open Go.Ending renaming returned→OD
open Go.Value renaming string→OH,int→OP
open Go.IntKind renaming i64→OO
theorem lu (a b:List UInt8)(w:World):Calls OC 294 #[OH (bs a),OH (bs b)] w λe w'=>e=OD (.bool (bJ a b))/\Below w.heap.size w w':=by
 unfold bJ
 by_cases h:U a<=U b
 ·have I:min (U a:Int) (U b:Int)=(U a:Int):=by omega
  have D:min (U a) (U b)=(U a):=(by omega);have G:(U a:Int)<=(U b:Int):=(by omega);rw[D,OI]
  go_enter ON,OM
  go_wp2_with fail
  refine aP (λ_=>True) 6 (X 0 (X 1 (X 2 (X 3 (X 4 (X 5 .done)))))) (trivial) (λC j=>?_)
  iterate 6
   refine af (v:=?_) rfl (by rfl) ?_ ?_
   rotate_left
   ·intro _ B;(try dsimp only at B);go_simp;(try with_reducible rfl)
   simp only[OB,OG,OF]
  refine j _ _ ?_;clear j C;simp only[OE,OK];go_wp2_with fail
  refine⟨rfl,?_⟩;go_wp2_with fail
  go_ret;exact⟨rfl,(Below.refl _ _).drew⟩
 ·have I:min (U a:Int) (U b:Int)=(U b:Int):=by omega
  have D:min (U a) (U b)=(U b):=(by omega);have G:(U b:Int)<=(U a:Int):=(by omega);rw[D,OI]
  go_enter ON,OM
  go_wp2_with fail
  refine aP (λ_=>True) 6 (X 0 (X 1 (X 2 (X 3 (X 4 (X 5 .done)))))) (trivial) (λC j=>?_)
  iterate 6
   refine af (v:=?_) rfl (by rfl) ?_ ?_
   rotate_left
   ·intro _ B;(try dsimp only at B);go_simp;(try with_reducible rfl)
   simp only[OB,OG,OF]
  refine j _ _ ?_;clear j C;simp only[OE,OK];go_wp2_with fail
  refine⟨rfl,?_⟩;go_wp2_with fail
  go_ret;exact⟨rfl,(Below.refl _ _).drew⟩
theorem uj (w:World):Calls OC 166 #[] w λe w'=>e=OD (OH (bs bz))/\w=w':=by
 go_enter Tryz.func166,Tryz.ntmps166
 go_wp2
 go_ret;exact⟨rfl,rfl⟩
theorem rN (p:Int×Int)(w:World):Calls OC 207 #[.agg #[OP OO p.1,OP OO p.2]] w λe w'=>e=OD (.bool (dZ p))/\Below w.heap.size w w':=by
 obtain⟨a,b⟩:=p;unfold dZ;dsimp only
 cases j:decide (0<=a) with
 |false=>
  simp only[OA]
  go_enter Y,Z
  go_wp2
  go_ret;exact⟨rfl,(Below.refl _ _).alloc (V _) _⟩
 |true=>
  cases B:decide (a<=63) with
  |false=>
   simp only[OA,J]
   go_enter Y,Z
   go_wp2
   go_ret;exact⟨rfl,(Below.refl _ _).alloc (V _) _⟩
  |true=>
   cases C:decide (-127<=b) with
   |false=>
    simp only[OA,J]
    go_enter Y,Z
    go_wp2
    go_ret;exact⟨rfl,(Below.refl _ _).alloc (V _) _⟩
   |true=>
    cases D:decide (b<=127) with
    |false=>
     simp only[OA,J]
     go_enter Y,Z
     go_wp2
     go_ret;exact⟨rfl,(Below.refl _ _).alloc (V _) _⟩
    |true=>
     cases G:(b !=0) with
     |false=>
      simp only[J]
      go_enter Y,Z
      go_wp2
      go_ret;exact⟨rfl,(Below.refl _ _).alloc (V _) _⟩
     |true=>
      simp only[Bool.and_self]
      go_enter Y,Z
      go_wp2
      go_ret;exact⟨rfl,(Below.refl _ _).alloc (V _) _⟩
set_option maxRecDepth 100000 in
theorem BK (A:Option Addr)(n c:Nat)(l:List UInt8)(i:Nat)(w:World)(hA:Sl w A (l.map ag))(hn:U l=n)(hsz:n<=2 ^ 47)(hi:i<=8*n):
  Calls OC 293 #[.slice A n c,OP OO (i:Int)] w λe w'=>e=OD (OH (bs (aI l i (min 20 (8*n - i)))))/\Below w.heap.size w w':=by
 have HA:=O hA;have HN:=O hn;clear hA hn
 go_enter Tryz.func293,Tryz.ntmps293
 go_wp2_with fail
 go_loopg [9] 20 (λg v9=> λwr=>∃j:Nat,j+g=20/\v9=OP OO (j:Int)/\(j=0\/i+j<=8*n)/\Hid (OL 174 5 w.heap.size w.heap.size ((aI l i j).map ag) wr)/\Hid (Below w.heap.size w wr))
 case atStart=>exact⟨0,by omega,rfl,.inl rfl,O (qf w),O ((Below.refl _ _).alloc (V _) _)⟩
 case round=>
  obtain⟨j,hj,rfl,bM,N,B⟩:=hrel
  have fin:∀(wr:World),Hid (OL 174 5 w.heap.size w.heap.size ((aI l i j).map ag) wr)->Hid (Below w.heap.size w wr)->Calls OC 153 #[.pointer (some ⟨w.heap.size,0,none⟩)] wr λe w'=>e=OD (OH (bs (aI l i j)))/\Below w.heap.size wr w':=
   λwr N B=>Tryz.Builder_String_any _ _ (aI l i j) _ N.out B.out.size
  have T:=O fin;clear fin
  cases gk with
  |zero=>
   obtain rfl:j=20:=by omega
   have dv:¬(((20:Nat):Int)<20):=(by omega);have I:=O (show min 20 (8*n - i)=20 by omega);go_wp2_with (go_at_call 153;refine(T.out _ N B).mono ?_;rintro e w' ⟨rfl,C⟩;have D:=O C;clear C)
   go_ret;rw[I.out];exact⟨rfl,B.out.trans D.out⟩
  |succ g=>
   have dv:((j:Int)<20):=(by omega);have dy:IntKind.i64.wrap ((i:Int)+(j:Int))=(i:Int)+(j:Int):=by rw[IntKind.wrap_i64];omega
   by_cases G:i+j<8*n
   ·have Rd:=O (λW h=>fS ((aZ l (i+j):Nat):Int) A n c l ((i:Int)+(j:Int)) 1 W (by rw[show ((i:Int)+(j:Int)).toNat=i+j by omega];show ((aB l (i+j) 1:Nat):Int)=_;rw[kc]) h HN.out (by omega) (by decide) (by decide) (by omega) hsz)
    have HJ:=O hj;have HM:=O G;have Hs:=O (iH l i j);have cI:=fC l (i+j);have HL:=O (show ((aI l i j).map ag).length+1<=140737488355328 by rw[List.length_map,bo];omega);obtain⟨q,hq⟩:∃q,aZ l (i+j)=q:=⟨_,rfl⟩;have aJ:dH l (i+j)=if q=0 then 48 else 49:=by unfold dH;rw[hq]
    rw[hq] at Rd cI;have av:=O aJ;clear hj G hq aJ bM;have cE:q=0\/q=1:=(by omega);rcases cE with rfl|rfl
    ·go_wp2_with (first
      |(go_at_call 56;refine(Rd.out _ (HA.out.below B.out)).mono ?_;rintro e w' ⟨rfl,rfl⟩)
      |(go_at_call 152;refine(kE w.heap.size w.heap.size _ 48 wr N.out HL.out B.out.size).mono ?_;rintro e w1 ⟨rfl,K,C⟩;have D:=O K;have M:=O C;clear K C))
     go_roundg g
     case measure=>omega
     case rel=>
      refine⟨j+1,by have:=HJ.out;omega,rfl,.inr (by have:=HM.out;omega),O ?_,O (B.out.trans M.out)⟩;rw[Hs.out,av.out,OJ];exact D.out
    ·go_wp2_with (first
      |(go_at_call 56;refine(Rd.out _ (HA.out.below B.out)).mono ?_;rintro e w' ⟨rfl,rfl⟩)
      |(go_at_call 152;refine(kE w.heap.size w.heap.size _ 49 wr N.out HL.out B.out.size).mono ?_;rintro e w1 ⟨rfl,K,C⟩;have D:=O K;have M:=O C;clear K C))
     go_roundg g
     case measure=>omega
     case rel=>
      refine⟨j+1,by have:=HJ.out;omega,rfl,.inr (by have:=HM.out;omega),O ?_,O (B.out.trans M.out)⟩;rw[Hs.out,av.out,OJ];exact D.out
   ·have Rd:=O (λW=>dj A n c ((i:Int)+(j:Int)) 1 W (by omega) (by decide) (by decide) (by omega) hsz)
    have I:=O (show min 20 (8*n - i)=j by omega);clear bM G
    go_wp2_with (first
     |(go_at_call 56;refine(Rd.out _).mono ?_;rintro e w' ⟨rfl,rfl⟩)
     |(go_at_call 153;refine(T.out _ N B).mono ?_;rintro e w' ⟨rfl,C⟩;have D:=O C;clear C))
    go_ret;rw[I.out];exact⟨rfl,B.out.trans D.out⟩
end
section
open Go Go.RowKit
attribute [local go_sem] Oper.semAt_some
set_option maxHeartbeats 16000000
set_option maxRecDepth 100000
open Go.Lib renaming hid→O,fields→OE
open Go.Value renaming string→U,int→X,bool→OV,pointer→OX
open List renaming length→Z,drop_eq_getElem_cons→V,cons_append→OA,getElem?_eq_getElem→OB,getElem?_toArray→OC,singleton_append→OD,append_toArray→OG,mem_singleton→OH,append_assoc→OJ,getElem?_map→OK,push_toArray→OL,size_toArray→OM,length_cons→ON,length_nil→OO,mem_append→OP,nil_append→OQ
open Nat renaming le_refl→Y,reduceAdd→OF,reduceSub→OU
open Go.IntKind renaming i64→J
open Tryz renaming prog→OI,results208→OR,func270→OW
open Go.Obj renaming cells→OS
open Go.Ending renaming returned→OT
def Df:Array Value:= #[U ⟨#[49,49,32,48,49,48,48,32,48,48,49,48,49,32,48,48,48,48,49,49,48,32,48,48,49,48,48,49,49,48,32,48,48,49,48,48,48,48,49,32,48,48,48,48,48,48,49,48,49,48,32,48,48,48,48,48,48,48,49,49,49,48,49,32,48,48,48,48,48,48,48,49,49,48,48,48,32,48,48,48,48,48,48,48,49,48,48,49,49,32,48,48,48,48,48,48,48,49,48,48,48,48,32,48,48,48,48,48,48,48,48,49,49,48,49,48,32,48,48,48,48,48,48,48,48,49,49,48,48,49,32,48,48,48,48,48,48,48,48,49,49,48,48,48,32,48,48,48,48,48,48,48,48,49,48,49,49,49]⟩,U ⟨#[48,49,49,32,48,48,48,49,49,48,32,48,48,49,48,48,49,48,49,32,48,48,48,48,48,48,49,49,48,48,32,48,48,48,48,48,48,48,49,49,48,49,49,32,48,48,48,48,48,48,48,48,49,48,49,49,48,32,48,48,48,48,48,48,48,48,49,48,49,48,49]⟩,U ⟨#[48,49,48,49,32,48,48,48,48,49,48,48,32,48,48,48,48,48,48,49,48,49,49,32,48,48,48,48,48,48,48,49,48,49,48,48,32,48,48,48,48,48,48,48,48,49,48,49,48,48]⟩,U ⟨#[48,48,49,49,49,32,48,48,49,48,48,49,48,48,32,48,48,48,48,48,48,48,49,49,49,48,48,32,48,48,48,48,48,48,48,48,49,48,48,49,49]⟩,U ⟨#[48,48,49,49,48,32,48,48,48,48,48,48,49,49,49,49,32,48,48,48,48,48,48,48,49,48,48,49,48]⟩,U ⟨#[48,48,48,49,49,49,32,48,48,48,48,48,48,49,48,48,49,32,48,48,48,48,48,48,48,48,49,48,48,49,48]⟩,U ⟨#[48,48,48,49,48,49,32,48,48,48,48,48,48,48,49,49,49,49,48]⟩,U ⟨#[48,48,48,49,48,48,32,48,48,48,48,48,48,48,49,48,49,48,49]⟩,U ⟨#[48,48,48,48,49,49,49,32,48,48,48,48,48,48,48,49,48,48,48,49]⟩,U ⟨#[48,48,48,48,49,48,49,32,48,48,48,48,48,48,48,48,49,48,48,48,49]⟩,U ⟨#[48,48,49,48,48,49,49,49,32,48,48,48,48,48,48,48,48,49,48,48,48,48]⟩,U ⟨#[48,48,49,48,48,48,49,49]⟩,U ⟨#[48,48,49,48,48,48,49,48]⟩,U ⟨#[48,48,49,48,48,48,48,48]⟩,U ⟨#[48,48,48,48,48,48,49,49,49,48]⟩,U ⟨#[48,48,48,48,48,48,49,49,48,49]⟩,U ⟨#[48,48,48,48,48,48,49,48,48,48]⟩,U ⟨#[48,48,48,48,48,48,48,49,49,49,49,49]⟩,U ⟨#[48,48,48,48,48,48,48,49,49,48,49,48]⟩,U ⟨#[48,48,48,48,48,48,48,49,49,48,48,49]⟩,U ⟨#[48,48,48,48,48,48,48,49,48,49,49,49]⟩,U ⟨#[48,48,48,48,48,48,48,49,48,49,49,48]⟩,U ⟨#[48,48,48,48,48,48,48,48,49,49,49,49,49]⟩,U ⟨#[48,48,48,48,48,48,48,48,49,49,49,49,48]⟩,U ⟨#[48,48,48,48,48,48,48,48,49,49,49,48,49]⟩,U ⟨#[48,48,48,48,48,48,48,48,49,49,49,48,48]⟩,U ⟨#[48,48,48,48,48,48,48,48,49,49,48,49,49]⟩]
theorem Gs:Df=(cV.map aR).toArray:=by kernel_rfl
theorem ye:Z cV=27:=by kernel_rfl
theorem BJ (w:World):Calls OI 271 #[] w λe w'=>e=OT (.slice (some ⟨w.heap.size,0,none⟩) 27 27)/\w.alloc (OS Df 9)=w':=by
 go_enter Tryz.func271,Tryz.ntmps271
 go_wp2
 go_ret;exact⟨rfl,rfl⟩
theorem ng (first:Bool)(w:World):Calls OI 245 #[OV first] w λe w'=>e=OT (.func (.func 270) #[] #[OX (some ⟨w.heap.size,0,none⟩)])/\w.alloc (OS #[OV first] 4)=w':=by
 go_enter Tryz.func245,Tryz.ntmps245
 go_wp2
 go_ret;exact⟨rfl,rfl⟩
def mi (x:(Int×Int)×List UInt8):Array Value:= #[.agg #[X J x.1.1,X J x.1.2],U (bs x.2)]
theorem EJ:∀r∈cV,∀c∈r,c.toNat<128:=by decide+kernel
theorem EK:∀r∈cV,Z r<=1000:=by decide+kernel
theorem De:∀r∈cV,(OE r).length<=100:=by decide+kernel
def nT (first:Bool) (r i:Nat) (c:List UInt8):List UInt8:=if first&&r==0&&i==0 then[49] else c
theorem kw (first:Bool)(r i:Nat)(c:List UInt8)(cs:List (List UInt8)):fl first r i (c::cs)=((((r:Int),(i:Int)+1),nT first r i c))::fl first r (i+1) cs:=rfl
theorem yz (first:Bool)(r:Nat)(x:List UInt8)(xs:List (List UInt8)):dN first r (x::xs)=fl first r 0 (OE x)++dN first (r+1) xs:=rfl
def J8:Value->Int
 |X _ n=>n
 |_=>0
theorem pY (n:Nat)(hn:1<=n)(b:Nat)(first:Bool)(I:List ((Int×Int)×List UInt8)->World->Prop)(hI:∀pre A B,I pre A->Below A.heap.size A B->I pre B) (hIs:∀pre W,I pre W->ab W b 4 #[OV first]/\Ts W):
  Fh Fence.wide n OI 270 #[OX (some ⟨b,0,none⟩)] mi I I (λxs=>xs=aL first) (λpre=>pre<+:aL first):=by
 intro lp K Jx W hK hY h0 KC;refine callsIn_of_wp OW rfl trivial ?_ rfl;simp only[Tryz.ntmps270,OM,ON,OO,OF,OU,Array.replicate_succ,Array.replicate_zero,OL,OG,OQ,OA];have HY:=O hY;have HI:=O hI;have KA:=O hIs;have HK:=O hK;have H0:=O h0;have KE:=O KC;clear hY hI hIs hK h0 KC;obtain⟨RA,Ku⟩:∃RA,RA=Df:=⟨_,rfl⟩;have CR:=O (λW=>BJ W);rw[<-Ku] at CR;have KF:=O (Ku.trans Gs);clear Ku;obtain⟨TL,K8⟩:∃TL,TL=aL first:=⟨_,rfl⟩;have KG:=O K8;rw[<-K8] at HY;rw[<-K8];clear K8;gi_wp2_with (refine⟨trivial,?_⟩;gi_at_call 271;refine(callsIn_wide.2 (CR.out _)).mono ?_;rintro e w1 ⟨rfl,rfl⟩)
 gi_loopw [9] (λv9 wr=>∃(r:Nat)(pre:List ((Int×Int)×List UInt8)),v9=X J (r:Int)/\r<=27/\Hid (TL=pre++dN first r (cV.drop r))/\Hid (I pre wr)/\Hid (K wr)/\Hid (ab wr W.heap.size 9 RA)) (λv9 _=>27 - (J8 v9).toNat)
 case atStart=>
  refine⟨0,[],rfl,by omega,O (by rw[KG.out];rfl),O (HI.out _ _ _ H0.out ((Below.refl _ _).alloc (Y _) _)),O (HK.out.below KE.out ((Below.refl _ _).alloc (Y _) _)),O (ab.new _ _ _)⟩
 case round=>
  obtain⟨r,K3,rfl,hr,HD,rG,K4,HB⟩:=hrel
  by_cases KK:r<27
  ·have KM:(r:Int)<27:=by omega
   have KQ:¬((r:Int)<0):=(by omega);have K0:r<(Z cV):=(by rw[ye];exact KK);obtain⟨x,hx⟩:∃x,cV[r]=x:=⟨_,rfl⟩;have iP:x∈cV:=by rw[<-hx];exact List.getElem_mem K0
   have hc:wr.cell? ⟨W.heap.size,r,none⟩=some (U (bs x)):=by
    rw[HB.out.cell,KF.out,OC,OK,OB K0,hx];rfl
   have Kx:=O (show TL=K3++(fl first r 0 ((OE x).drop 0)++dN first (r+1) (cV.drop (r+1))) by
    rw[HD.out,V K0,hx,yz];rfl)
   obtain⟨hb,ht⟩:=KA.out _ _ rG.out;have CF:=O (Tryz.strings_Fields (bs x) wr (by rw[iJ];have:=EK x iP;omega) (λj c h=>EJ x iP c (by rw[eH] at h;exact List.mem_of_getElem? h)) ht);rw[eH] at CF;have Kt:=De x iP;generalize OE x=T at Kx CF Kt;have KD:=O Kt;clear hb ht Kt iP hx;obtain⟨F0,K9⟩:∃F0,F0=wr.heap.size:=⟨_,rfl⟩;have gj:=O (show W.heap.size<=F0 by have:=HB.out.lt;omega);rw[<-K9] at CF;have K5:Below wr.heap.size wr (wr.alloc (OS ((T.map λl=>Value.string ⟨l.toArray⟩).toArray) 9)):=(Below.refl _ _).alloc (Y _) _;have Kz:=O (HI.out _ _ _ rG.out K5);have KB:=O (HK.out.below K4.out K5);have Kw:=O (HB.out.below K5 HB.out.lt);have Ky:=O (aE (ab.new wr 9 ((T.map λl=>Value.string ⟨l.toArray⟩).toArray)) K9.symm);clear K5 K9;gi_wp2_with (refine⟨trivial,?_⟩;gi_at_call 272;refine(callsIn_wide.2 CF.out).mono ?_;rintro e w2 ⟨rfl,rfl⟩)
   generalize wr.alloc (OS ((T.map λl=>Value.string ⟨l.toArray⟩).toArray) 9)=wo at Kz KB Kw Ky⊢;clear CF HB rG K4 HD hc
   gi_loopw [17] (λKv wr=>∃(i:Nat)(pre:List ((Int×Int)×List UInt8)),Kv=X J (i:Int)/\i<=Z T/\Hid (TL=pre++(fl first r i (T.drop i)++dN first (r+1) (cV.drop (r+1))))/\Hid (I pre wr)/\Hid (K wr)/\Hid (ab wr W.heap.size 9 RA)/\Hid (ab wr F0 9 ((T.map λl=>Value.string ⟨l.toArray⟩).toArray))) (λKv _=>(Z T) - (J8 Kv).toNat)
   case atStart=>exact⟨0,K3,rfl,by omega,Kx,Kz,KB,Kw,Ky⟩
   case round=>
    obtain⟨i,pre,rfl,hi,HF,jg,Hl,kA,kU⟩:=hrel
    by_cases JT:i<Z T
    ·have KL:(i:Int)<(Z T:Int):=by omega
     have KN:¬((i:Int)<0):=(by omega);have KR:IntKind.i64.wrap ((i:Int)+1)=(i:Int)+1:=(by have:=KD.out;rw[IntKind.wrap_i64];omega);obtain⟨c,Hu⟩:∃c,T[i]=c:=⟨_,rfl⟩
     have KH:wr.cell? ⟨F0,i,none⟩=some (U (bs c)):=by
      rw[kU.out.cell,OC,OK,OB JT,Hu];rfl
     have hb:=(KA.out _ _ jg.out).1;have b0:=hb.cell 0;clear hb;rcases Bool.eq_false_or_eq_true first with D|D;rotate_left 1
     ·rw[D] at b0
      obtain⟨cc,M⟩:∃cc,nT first r i c=cc:=⟨_,rfl⟩;have HN:=O (show TL=pre++((((r:Int),(i:Int)+1),cc)::fl first r (i+1) (T.drop (i+1))++dN first (r+1) (cV.drop (r+1))) by rw[HF.out,V JT,Hu,kw,M]);have cI:cc=c:=(by rw[<-M];unfold nT;rw[D];rfl);clear M;have N:pre++[(((r:Int),(i:Int)+1),cc)]<+:TL:=(by rw[HN.out];exact⟨fl first r (i+1) (T.drop (i+1))++dN first (r+1) (cV.drop (r+1)),by simp⟩);obtain⟨fn,tmps,cE,Ht,G,hR⟩:=HY.out pre (((r:Int),(i:Int)+1),cc) wr jg.out Hl.out N;unfold mi at G;dsimp only at G;have HR:=O hR;have fJ:=O N;clear hR N;subst cI;clear D;gi_wp2_with fail
      refine HR.out.mono ?_;rintro e W3 (⟨rfl,av,bM,C⟩|⟨rfl,aJ⟩)
      ·have dO:=O av;have eE:=O bM;have dv:=O (C.blk kA.out (Y _));have dy:=O (C.blk kU.out gj.out)
       clear av bM G C;gi_wp2_with fail
       refine⟨⟨i+1,_,by simp,by omega,O ?_,dO,eE,dv,dy⟩,?_⟩
       ·rw[HN.out];simp
       ·show (Z T) - ((i:Int)+1).toNat<Z T - (i:Int).toNat
        omega
      ·gi_wp2_with fail
       refine bodyPost_ret (results_none rfl _ _ _) rfl ?_;exact⟨⟨_,rfl⟩,.inr ⟨_,fJ.out,aJ⟩⟩
     ·rw[D] at b0
      by_cases jY:r=0
      ·by_cases K6:i=0
       ·have e1:((r:Int)==0)=true:=by rw[beq_iff_eq];omega
        have e2:((i:Int)==0)=true:=(by rw[beq_iff_eq];omega);obtain⟨cc,M⟩:∃cc,nT first r i c=cc:=⟨_,rfl⟩;have HN:=O (show TL=pre++((((r:Int),(i:Int)+1),cc)::fl first r (i+1) (T.drop (i+1))++dN first (r+1) (cV.drop (r+1))) by rw[HF.out,V JT,Hu,kw,M]);have cI:cc=[49]:=(by rw[<-M];unfold nT;rw[D,jY,K6];rfl);clear M;have N:pre++[(((r:Int),(i:Int)+1),cc)]<+:TL:=(by rw[HN.out];exact⟨fl first r (i+1) (T.drop (i+1))++dN first (r+1) (cV.drop (r+1)),by simp⟩);obtain⟨fn,tmps,cE,Ht,G,hR⟩:=HY.out pre (((r:Int),(i:Int)+1),cc) wr jg.out Hl.out N;unfold mi at G;dsimp only at G;rw[cI,show bs [49]=(⟨#[49]⟩:ByteArray) from rfl] at G;have HR:=O hR;have fJ:=O N;clear hR N;subst cI;clear D jY K6;gi_wp2_with fail
        refine HR.out.mono ?_;rintro e W3 (⟨rfl,av,bM,C⟩|⟨rfl,aJ⟩)
        ·have dO:=O av;have eE:=O bM;have dv:=O (C.blk kA.out (Y _));have dy:=O (C.blk kU.out gj.out)
         clear av bM G C;gi_wp2_with fail
         refine⟨⟨i+1,_,by simp,by omega,O ?_,dO,eE,dv,dy⟩,?_⟩
         ·rw[HN.out];simp
         ·show (Z T) - ((i:Int)+1).toNat<Z T - (i:Int).toNat
          omega
        ·gi_wp2_with fail
         refine bodyPost_ret (results_none rfl _ _ _) rfl ?_;exact⟨⟨_,rfl⟩,.inr ⟨_,fJ.out,aJ⟩⟩
       ·have e1:((r:Int)==0)=true:=by rw[beq_iff_eq];omega
        have e2:((i:Int)==0)=false:=(by rw[beq_eq_false_iff_ne];omega);obtain⟨cc,M⟩:∃cc,nT first r i c=cc:=⟨_,rfl⟩;have HN:=O (show TL=pre++((((r:Int),(i:Int)+1),cc)::fl first r (i+1) (T.drop (i+1))++dN first (r+1) (cV.drop (r+1))) by rw[HF.out,V JT,Hu,kw,M]);have cI:cc=c:=(by rw[<-M];unfold nT;rw[D,jY,show (i==0)=false by simpa using K6];rfl);clear M;have N:pre++[(((r:Int),(i:Int)+1),cc)]<+:TL:=(by rw[HN.out];exact⟨fl first r (i+1) (T.drop (i+1))++dN first (r+1) (cV.drop (r+1)),by simp⟩);obtain⟨fn,tmps,cE,Ht,G,hR⟩:=HY.out pre (((r:Int),(i:Int)+1),cc) wr jg.out Hl.out N;unfold mi at G;dsimp only at G;have HR:=O hR;have fJ:=O N;clear hR N;subst cI;clear D jY K6;gi_wp2_with fail
        refine HR.out.mono ?_;rintro e W3 (⟨rfl,av,bM,C⟩|⟨rfl,aJ⟩)
        ·have dO:=O av;have eE:=O bM;have dv:=O (C.blk kA.out (Y _));have dy:=O (C.blk kU.out gj.out)
         clear av bM G C;gi_wp2_with fail
         refine⟨⟨i+1,_,by simp,by omega,O ?_,dO,eE,dv,dy⟩,?_⟩
         ·rw[HN.out];simp
         ·show (Z T) - ((i:Int)+1).toNat<Z T - (i:Int).toNat
          omega
        ·gi_wp2_with fail
         refine bodyPost_ret (results_none rfl _ _ _) rfl ?_;exact⟨⟨_,rfl⟩,.inr ⟨_,fJ.out,aJ⟩⟩
      ·have e1:((r:Int)==0)=false:=by rw[beq_eq_false_iff_ne];omega
       obtain⟨cc,M⟩:∃cc,nT first r i c=cc:=⟨_,rfl⟩;have HN:=O (show TL=pre++((((r:Int),(i:Int)+1),cc)::fl first r (i+1) (T.drop (i+1))++dN first (r+1) (cV.drop (r+1))) by rw[HF.out,V JT,Hu,kw,M]);have cI:cc=c:=(by rw[<-M];unfold nT;rw[D,show (r==0)=false by simpa using jY];rfl);clear M;have N:pre++[(((r:Int),(i:Int)+1),cc)]<+:TL:=(by rw[HN.out];exact⟨fl first r (i+1) (T.drop (i+1))++dN first (r+1) (cV.drop (r+1)),by simp⟩);obtain⟨fn,tmps,cE,Ht,G,hR⟩:=HY.out pre (((r:Int),(i:Int)+1),cc) wr jg.out Hl.out N;unfold mi at G;dsimp only at G;have HR:=O hR;have fJ:=O N;clear hR N;subst cI;clear D jY;gi_wp2_with fail
       refine HR.out.mono ?_;rintro e W3 (⟨rfl,av,bM,C⟩|⟨rfl,aJ⟩)
       ·have dO:=O av;have eE:=O bM;have dv:=O (C.blk kA.out (Y _));have dy:=O (C.blk kU.out gj.out)
        clear av bM G C;gi_wp2_with fail
        refine⟨⟨i+1,_,by simp,by omega,O ?_,dO,eE,dv,dy⟩,?_⟩
        ·rw[HN.out];simp
        ·show (Z T) - ((i:Int)+1).toNat<Z T - (i:Int).toNat
         omega
       ·gi_wp2_with fail
        refine bodyPost_ret (results_none rfl _ _ _) rfl ?_;exact⟨⟨_,rfl⟩,.inr ⟨_,fJ.out,aJ⟩⟩
    ·have KI:i=(Z T):=by omega
     subst KI;have KO:¬((Z T:Int)<(Z T:Int)):=(by omega);gi_wp2_with fail
     refine⟨⟨r+1,pre,by simp,by omega,O (by have h:=HF.out;rw[List.drop_length] at h;exact h),jg,Hl,kA⟩,?_⟩;show 27 - ((r:Int)+1).toNat<27 - (r:Int).toNat;omega
  ·have KJ:r=27:=by omega
   subst KJ;gi_wp2_with fail
   refine bodyPost_end (results_none rfl _ _ _) rfl ?_;have he:TL=K3:=(by have h:=HD.out;rw[show cV.drop 27=[] by kernel_rfl] at h;simpa [dN] using h);exact⟨⟨_,rfl⟩,.inl (by first|exact⟨_,he.symm,rG.out,K4.out⟩|exact⟨by rw[he];exact rG.out,K4.out⟩)⟩
def j9 (p:Int×Int) (x:(Int×Int)×List UInt8):Bool:=x.1.1==p.1&&(x.1.2==p.2||x.1.2== -p.2)
theorem ku (p:Int×Int)(x:(Int×Int)×List UInt8)(T:List ((Int×Int)×List UInt8)):cA p (x::T)=if j9 p x then x.2 else cA p T:=rfl
theorem oC {p:Int×Int}{pre T:List ((Int×Int)×List UInt8)}(h:∀x∈pre,j9 p x=false):cA p (pre++T)=cA p T:=by
 induction pre with
 |nil=>rfl
 |cons x pre ih=>
  rw[OA,ku,h x (by simp),ih (λy j=>h y (by simp[j]))];rfl
def AE (h:Nat) (p:Int×Int) (first:Bool):List aM:=[(h,189,#[X J p.1,X J p.2]),(h+1,9,#[U ⟨#[]⟩]),(h+2,4,#[OV first])]
theorem ze (p:Int×Int)(first:Bool)(w:World)(hT:Ts w)(hp: -127<=p.2/\p.2<=127):Calls OI 208 #[.agg #[X J p.1,X J p.2],OV first] w λe w'=>e=OT (U (bs (cA p (aL first))))/\Below w.heap.size w w':=by
 have HT:=O hT;obtain⟨p1,C⟩:=p;obtain⟨Hl,Ht⟩:=hp;dsimp only at Hl Ht;obtain⟨TL,cE⟩:∃TL,TL=aL first:=⟨_,rfl⟩;have SQ:=O (λb I hI hIs=>pY 4 (by decide) b first I hI hIs);rw[<-cE] at SQ;rw[<-cE];clear cE hT;obtain⟨R,hR⟩:∃R,R=cA (p1,C) TL:=⟨_,rfl⟩;rw[<-hR];have HR:=O hR;clear hR;refine(callsIn_wide (n:=5)).1 ?_;refine callsIn_of_wp_marks Tryz.func208 rfl trivial ?_ rfl;simp only[Tryz.ntmps208,OM,ON,OO,OF,OU,Array.replicate_succ,Array.replicate_zero,OL,OG,OQ,OA];refine wpIn_wide.2 ?_;go_wp2_with (go_at_call 245;refine(ng first _).mono ?_;rintro e w' ⟨rfl,rfl⟩)
 simp only[Nat.add_assoc,OF];refine(wpIn_wide (n:=5)).1 ?_
 refine Du (α:=(Int×Int)×List UInt8) (enc:=mi) (I:=cS w (λpre (_:Unit)=>∀x∈pre,j9 (p1,C) x=false) (λ_ _=>AE w.heap.size (p1,C) first) (λ_ _=>[])) (I2:=cS w (λpre (_:Unit)=>∀x∈pre,j9 (p1,C) x=false) (λ_ _=>AE w.heap.size (p1,C) first) (λ_ _=>[])) (S:= λxs=>xs=TL) (Sp:= λpre=>pre<+:TL)
  rfl (by decide) (gf:=270) (lb:= #[OX (some ⟨w.heap.size+2,0,none⟩)]) rfl trivial (enters_of OW (by kernel_rfl) rfl)
  (SQ.out (w.heap.size+2) _ gP ?hIs) (λ_=>rfl)
  (λcd _ W=>m9 w [(w.heap.size+1,9,#[U (bs R)])] cd W)
  (λpre x g W=>cS w (λpre (_:Unit)=>∀x∈pre,j9 (p1,C) x=false) (λ_ _=>(g,189,#[X J x.1.1,X J x.1.2])::AE w.heap.size (p1,C) first) (λ_ _=>[]) pre W)
  (bq (by simp;omega) _ _ _) (bq (by simp;omega) _ _ _) (λcd=>iu (by simp;omega) _ _) (λx g=>bq (by simp;omega) _ _ _) ?start ?round ?done ?stop
 case hIs=>
  rintro pre W ⟨⟨_,_,B⟩⟩;exact⟨B.2.1.tail.tail.head,HT.out.below B.1⟩
 case start=>
  refine⟨⟨(),(λx hx=>by cases hx),?_,?_,aF _⟩⟩
  ·exact(((Below.refl _ _).alloc (Y _) _).alloc (by simp) _).alloc (by simp;omega) _
  ·unfold AE
   refine aa.cons ?_ (aa.cons ?_ (aa.cons ?_ (ai _)))
   all_goals (repeat (first|(refine aE (ab.new _ _ _) ?_;simp[World.size_alloc];done)|refine ab.alloc ?_ _))
 case round=>
  apply Exists.intro;refine And.intro ?_ ?_
  ·rintro lp pre x W ⟨⟨u,N,B⟩⟩ G
   have HU:=O N;have HC:=O B;clear N B G;unfold mi;gi_wp2
   obtain⟨g0,fJ⟩:∃g0,W.heap.size=g0:=⟨_,rfl⟩;have rG:=dQ (ap HC.out (OS #[X J x.1.1,X J x.1.2] 189)) (aE (ab.new W 189 #[X J x.1.1,X J x.1.2]) fJ);rw[fJ];exact⟨⟨g0,rfl,⟨u,HU.out,rG⟩⟩,co (KeepsFrom.refl _ _) _,(bT.refl _ _).alloc _⟩
  ·rintro lp pre x g W ⟨⟨u,N,B⟩⟩ G
   unfold AE at B;have j:=B.2.1;have y0:=j.head.cell 0;have y1:=j.head.cell 1;have x0:=j.tail.head.cell 0;have x1:=j.tail.head.cell 1;have r0:=j.tail.tail.head.cell 0;have f0:=j.tail.tail.head.frozen 0;dsimp only at y0 y1 x0 x1 r0 f0;obtain⟨⟨q1,q2⟩,cc⟩:=x;dsimp only at y0 y1 B;have HC:=O B;have HU:=O N;have dv:=O G;have Hu:wrap64 (-C)= -C:=(by unfold wrap64;omega);clear B N G j
   cases e1:(q1==p1) with
   |false=>
    have HM:=O (show j9 (p1,C) ((q1,q2),cc)=false by unfold j9;dsimp only;rw[e1];rfl);gi_wp2_with fail
    refine⟨KeepsFrom.refl _ _,bT.refl _ _,⟨⟨(),?_,aw HC.out⟩⟩⟩;intro z K;rcases OP.1 K with K|K
    ·exact HU.out z K
    ·rw[OH] at K;rw[K];exact HM.out
   |true=>
    cases e2:(q2==C) with
    |true=>
     have HM:=O (show j9 (p1,C) ((q1,q2),cc)=true by unfold j9;dsimp only;rw[e1,e2];rfl);gi_wp2_with fail
     have av:R=cc:=by
      obtain⟨t,ht⟩:=dv.out;rw[HR.out,<-ht,OJ,oC HU.out,OD,ku,HM.out];rfl
     have j:=HC.out;refine⟨aq (KeepsFrom.refl _ _) _ _,rfl,j.1.setCell (p:=⟨w.heap.size+1,0,none⟩) (by show w.heap.size<=_;simp) _,aa.cons ?_ (ai _),aF _⟩;rw[av];exact j.2.1.tail.tail.head.set_ 0 _
    |false=>
     cases e3:(q2== -C) with
     |true=>
      have HM:=O (show j9 (p1,C) ((q1,q2),cc)=true by unfold j9;dsimp only;rw[e1,e2,e3];rfl);gi_wp2_with fail
      have av:R=cc:=by
       obtain⟨t,ht⟩:=dv.out;rw[HR.out,<-ht,OJ,oC HU.out,OD,ku,HM.out];rfl
      have j:=HC.out;refine⟨aq (KeepsFrom.refl _ _) _ _,rfl,j.1.setCell (p:=⟨w.heap.size+1,0,none⟩) (by show w.heap.size<=_;simp) _,aa.cons ?_ (ai _),aF _⟩;rw[av];exact j.2.1.tail.tail.head.set_ 0 _
     |false=>
      have HM:=O (show j9 (p1,C) ((q1,q2),cc)=false by unfold j9;dsimp only;rw[e1,e2,e3];rfl);gi_wp2_with fail
      refine⟨KeepsFrom.refl _ _,bT.refl _ _,⟨⟨(),?_,aw HC.out⟩⟩⟩;intro z K;rcases OP.1 K with K|K
      ·exact HU.out z K
      ·rw[OH] at K;rw[K];exact HM.out
 case done=>
  rintro D xs W hD rfl ⟨⟨u,N,B⟩⟩ hK;have dO:R=[]:=(by rw[HR.out];have h:=oC (T:=[]) N;rw[List.append_nil] at h;rw[h];rfl);have j:=B.2.1;unfold AE at j;have b1:=j.tail.head;dsimp only at b1;have r0:=b1.cell 0;have f0:=b1.frozen 0;have jY:=O dO;have gj:=O b1;have HK:=O hK;have iP:=O B.1;clear dO j b1 B N hK;gi_wp2_with fail
  go_wp2_with fail
  have kA:D≠w.heap.size+1:=(by simp at hD;omega);have dy:=(Below.heap_setCell W ⟨w.heap.size+1,0,none⟩ (U ⟨#[]⟩) D kA).trans HK.out
  have kU:aa [(w.heap.size+1,9,#[U (bs R)])] (W.setCell ⟨w.heap.size+1,0,none⟩ (U ⟨#[]⟩)):=by
   rw[jY.out];exact aa.cons (gj.out.set_ 0 _) (ai _)
  have bM:=cL (o':= .deferred none) kU dy rfl;have aJ:=cu (o:= .deferred none) (iP.out.setCell (p:=⟨w.heap.size+1,0,none⟩) (by show w.heap.size<=_;simp) (U ⟨#[]⟩)) (D:=D) (by simp at hD;omega);have q0:=bM.head.cell 0;refine eo dy (v:=U (bs R)) ?_ ?_
  ·simp[results,OR,go_sem,q0]
  ·exact⟨rfl,aJ⟩
 case stop=>
  rintro D cd pre W hD G ⟨rfl,M,eE,_⟩ hK;have cI:=O M;have jg:=O eE;have HK:=O hK;clear M eE hK G;gi_wp2_with fail
  have bM:=cL (o':= .deferred none) jg.out HK.out rfl;have aJ:=cu (o:= .deferred none) cI.out (D:=D) (by simp at hD;omega);have q0:=bM.head.cell 0;refine eo HK.out (v:=U (bs R)) ?_ ?_
  ·simp[results,OR,go_sem,q0]
  ·exact⟨rfl,aJ⟩
end
open Go Go.RowKit
set_option maxHeartbeats 16000000
set_option maxRecDepth 100000
open Go.Lib renaming hid→O
open Go.IntKind renaming i64→U,signed→OH,bits→ON,wrap→OO
open Go.Value renaming int→Z,string→OJ,tuple→OR
open List renaming setIfInBounds_toArray→V,set_cons_succ→Y,set_cons_zero→X,map_congr_left→OD,mem_range→OI
open Go.Proofs.YthhijgcfbjcgiaaGreatDoor.bY renaming take→J
open Bool renaming and_eq_true→OA
open Nat renaming mul_assoc→OB,two_pow_pos→OG,le_refl→OQ
open Tryz renaming ntmps164→OC,func164→OE,prog→OK,ntmps246→OM,func246→OP
open Int renaming toNat_natCast→OF
open Go.Ending renaming returned→OL
theorem Fo (n m:Nat):jV n m=ak n m:=by
 induction m with
 |zero=>rfl
 |succ m ih=>
  unfold ak at ih⊢;rw[List.range_succ_eq_map,List.map_cons,List.map_map,jV,ih];congr 1;apply OD;intro j B;have B:=OI.1 B;show _=(λj=>if n / 2 ^ (m+1 - 1 - j) % 2=0 then(48:UInt8) else 49) (j+1);dsimp only;rw[show m+1 - 1 - (j+1)=m - 1 - j by omega]
theorem FB (q n m:Nat):ak (q*2 ^ m+n) m=ak n m:=by
 unfold ak;apply OD;intro j B;have B:=OI.1 B;have e:2 ^ m=2 ^ (m - 1 - j)*2 ^ (j+1):=by rw[<-Nat.pow_add];congr 1;omega
 have h:(q*2 ^ m+n) / 2 ^ (m - 1 - j) % 2=n / 2 ^ (m - 1 - j) % 2:=by
  rw[e,<-OB,Nat.mul_comm q,OB,Nat.mul_add_div (OG _),Nat.pow_succ,<-OB,Nat.mul_add_mod_self_right]
 rw[h]
theorem wA (n m:Nat)(h:n<2 ^ m):jV (2 ^ m+n) (m+1)=49::ak n m:=by
 rw[jV,Fo];have j:=FB 1 n m;rw[Nat.one_mul] at j;rw[j];congr 1;unfold l6;rw[Nat.add_div_left _ (OG m),Nat.div_eq_of_lt h];rfl
theorem eL (a b:List UInt8):bs a++bs b=bs (a++b):=by apply ByteArray.ext;simp[bs]
theorem rO (n:Nat)(m:Nat)(N:m=6\/m=8)(K:n<2 ^ m)(w:World)(I:Tz w):Calls OK 246 #[Z U (n:Int),Z U (m:Int)] w λe w'=>e=OL (OJ (bs (ak n m)))/\Below w.heap.size w w':=by
 have G:=O I;clear I;rcases N with rfl|rfl
 ·have C:=O (λW D=>FJ ((n:Int)+64) 6 (by omega) (by omega) (by decide) W D)
  rw[show ((n:Int)+64).toNat=2 ^ 6+n by omega,wA n 6 K] at C;have M:(n:Int)<64:=(by omega);have T:(1:Int)*2 ^ 6=64:=by decide
  go_enter OP,OM
  go_wp2_with (go_at_call 198;refine(C.out _ G.out).mono ?_;rintro e w2 ⟨rfl,j⟩;have B:=O j;clear j)
  go_ret;exact⟨rfl,B.out⟩
 ·have C:=O (λW D=>FJ ((n:Int)+256) 8 (by omega) (by omega) (by decide) W D)
  rw[show ((n:Int)+256).toNat=2 ^ 8+n by omega,wA n 8 K] at C;have M:(n:Int)<256:=by omega
  go_enter OP,OM
  go_wp2_with (go_at_call 198;refine(C.out _ G.out).mono ?_;rintro e w2 ⟨rfl,j⟩;have B:=O j;clear j)
  go_ret;exact⟨rfl,B.out⟩
theorem wJ (p:Int×Int)(w:World)(hT:Tz w)(hp:dZ p=true):Calls OK 209 #[.agg #[Z U p.1,Z U p.2]] w λe w'=>e=OL (OR #[OJ (bs (kT p)),Z U 0])/\Below w.heap.size w w':=by
 have HT:=O hT;have G:=O (λW=>rN p W);rw[hp] at G;obtain⟨a,b⟩:=p;unfold dZ at hp;simp only[OA,decide_eq_true_eq] at hp;obtain⟨⟨⟨⟨h1,h2⟩,h3⟩,h4⟩,_⟩:=hp;obtain⟨r,rfl⟩:=Int.eq_ofNat_of_zero_le h1;unfold kT;dsimp only at G⊢;rw[OF];obtain⟨u,hu⟩:∃u:Nat,b % 256=(u:Int):=⟨(b % 256).toNat,by omega⟩;have gj:u<256:=by omega
 rw[hu,OF];have C1:=O (λW hW=>rO r 6 (.inl rfl) (by omega) W hW);have C2:=O (λW hW=>rO u 8 (.inr rfl) (by omega) W hW);have dy:IntKind.i8.wrap b=b:=by simp[OO,ON,OH];omega
 have dO:IntKind.u8.wrap b=(u:Int):=by simp[OO,ON,OH];omega
 have iP:(u:Int)<256:=by omega
 have eE:(ak r 6).length=6:=by simp[ak]
 have fJ:(ak u 8).length=8:=by simp[ak]
 have jg:IntKind.i64.wrap (u:Int)=(u:Int):=by rw[IntKind.wrap_i64];omega
 clear hT h1 hu
 go_enter Tryz.func209,Tryz.ntmps209
 go_wp2_with (go_at_call 207;refine(G.out _).mono ?_;rintro e w1 ⟨rfl,M⟩;have D:=((ab.new w 189 #[Z U (r:Int),Z U b]).below M (ab.new w 189 #[Z U (r:Int),Z U b]).lt);have y0:=D.cell 0;have y1:=D.cell 1;have cE:=O M;have HL:=O D;clear M D)
 have hA:Below w.heap.size w (w.alloc (.cells #[Z U (r:Int),Z U b] 189)):=(Below.refl w.heap.size w).alloc (OQ _) _;have I:=(hA.trans (cE.out.mono hA.size)).drew;have aJ:=O (show Tz w1.drew from HT.out.below I);have T:=O I;clear hA I;refine aP (λw'=>w'.cell? ⟨w.heap.size,0,none⟩=some (Z U (r:Int))/\w'.cell? ⟨w.heap.size,1,none⟩=some (Z U b)) 12 (J 0 (J 1 (J 2 (J 5 (J 6 (J 7 (J 8 (J 9 (J 10 (.step 3 (J 4 (.step 11 .done)))))))))))) (⟨y0,y1⟩) (λPE bM=>?_)
 iterate 9
  refine af (v:=?_) rfl (by rfl) ?_ ?_
  rotate_left
  ·intro _ B;(try dsimp only at B);obtain⟨s0,s1⟩:=B;go_simp;(try with_reducible rfl)
  simp only[V,X,Y]
 refine aG (f:=246) (args:= #[Z U (r:Int),Z U 6]) rfl (by rfl) ?_ (C1.out _ aJ.out) (λe w2 hr=>?_)
 ·go_simp
 obtain⟨rfl,C⟩:=hr;have j:ab w2 w.heap.size 189 #[Z U (r:Int),Z U b]:=(HL.out.drew1).below C HL.out.lt;have dv:=O (aJ.out.below C);have av:=O (T.out.trans (C.mono T.out.size));refine⟨_,rfl,_,λ_ h=>h,⟨j.cell 0,j.cell 1⟩,?_⟩;simp only[V,X,Y];refine af (v:=?_) rfl (by rfl) ?_ ?_;rotate_left
 ·intro _ B;(try dsimp only at B);go_simp;(try with_reducible rfl)
 simp only[V,X,Y];refine aG (f:=246) (args:= #[Z U (u:Int),Z U 8]) rfl (by rfl) ?_ (C2.out _ dv.out) (λe w3 hr=>?_)
 ·go_simp
 obtain⟨rfl,N⟩:=hr;have K:ab w3 w.heap.size 189 #[Z U (r:Int),Z U b]:=j.below N j.lt;have cI:=O (av.out.trans (N.mono av.out.size));refine⟨_,rfl,_,λ_ h=>h,⟨K.cell 0,K.cell 1⟩,?_⟩;simp only[V,X,Y];refine bM _ _ ?_;clear bM PE;simp only[List.drop_succ_cons,List.drop_zero];clear C N j K y0 y1;go_wp2_with fail
 refine⟨rfl,?_⟩;go_wp2_with fail
 go_ret2;refine⟨?_,cI.out⟩;show Ending.returned (OR #[OJ (bs fi++bs (ak r 6)++bs (ak u 8)),Z U 0])=_;rw[eL,eL]
theorem lH (p:Int×Int):∀T:List ((Int×Int)×List UInt8),T.all (λx=>decide (x.2.length<=20))=true->(cA p T).length<=20
 |[],_=>by simp[cA]
 |x::T,h=>by
  simp only[List.all_cons,OA,decide_eq_true_eq] at h;rw[ku]
  split
  ·exact h.1
  ·exact lH p T h.2
theorem rD (first:Bool):(aL first).all (λx=>decide (x.2.length<=20))=true:=by cases first<;>kernel_rfl
theorem uk (p:Int×Int)(first:Bool)(w:World)(hT:Tz w)(hS:Ts w)(hp:dZ p=true):Calls OK 164 #[.agg #[Z U p.1,Z U p.2],.bool first] w λe w'=>e=OL (OR #[OJ (bs (cw p first)),Z U 0])/\Below w.heap.size w w':=by
 have HT:=O hT;have HS:=O hS;have I:=O (λW=>rN p W);rw[hp] at I;have M:=hp;unfold dZ at M;simp only[OA,decide_eq_true_eq] at M;have hr: -127<=p.2/\p.2<=127:=⟨M.1.1.2,M.1.2⟩;have CS:=O (λW hW=>ze p first W hW hr);have CE:=O (λW hW=>wJ p W hW hp);have K:=lH p (aL first) (rD first);unfold cw;obtain⟨R,hR⟩:∃R,cA p (aL first)=R:=⟨_,rfl⟩;rw[hR] at CS K⊢;obtain⟨E,hE⟩:∃E,kT p=E:=⟨_,rfl⟩;rw[hE] at CE⊢;obtain⟨a,b⟩:=p;dsimp only at I CS CE⊢;clear hT hS hp M hr hR hE;have hA:Below w.heap.size w (w.alloc (.cells #[Z U a,Z U b] 189)):=(Below.refl w.heap.size w).alloc (OQ _) _;have T:=O hA;have HB:=O (ab.new w 189 #[Z U a,Z U b]);clear hA
 by_cases h0:R=[]
 ·subst h0
  rw[if_pos (by rfl)];clear K
  go_enter OE,OC
  go_wp2_with (first
   |(go_at_call 207;refine(I.out _).mono ?_;rintro e w1 ⟨rfl,B⟩;have hl:=HB.out.below B HB.out.lt;have y0:=hl.cell 0;have y1:=hl.cell 1;have j:=O (T.out.trans (B.mono T.out.size));have N:=O hl;clear B hl)
   |(go_at_call 208;refine(CS.out _ (HS.out.below j.out)).mono ?_;rintro e w2 ⟨rfl,C⟩;have D:=N.out.below C N.out.lt;have z0:=D.cell 0;have z1:=D.cell 1;have G:=O (j.out.trans (C.mono j.out.size));clear C D)
   |(go_at_call 209;refine(CE.out _ (HT.out.below G.out)).mono ?_;rintro e w3 ⟨rfl,av⟩;have aJ:=O (G.out.trans (av.mono G.out.size));clear av))
  go_ret2;exact⟨rfl,aJ.out⟩
 ·have e1:(R==[])=false:=by simpa using h0
  have e2:R.isEmpty=false:=(by simpa using h0);rw[if_neg (by rw[e1];decide)];have bM:List.length R<=100:=(by omega);clear h0 K
  by_cases hb:b<0
  ·have d1:decide (b<0)=true:=decide_eq_true hb
   rw[if_pos hb];clear hb
   go_enter OE,OC
   go_wp2_with (first
    |(go_at_call 207;refine(I.out _).mono ?_;rintro e w1 ⟨rfl,B⟩;have hl:=HB.out.below B HB.out.lt;have y0:=hl.cell 0;have y1:=hl.cell 1;have j:=O (T.out.trans (B.mono T.out.size));have N:=O hl;clear B hl)
    |(go_at_call 208;refine(CS.out _ (HS.out.below j.out)).mono ?_;rintro e w2 ⟨rfl,C⟩;have D:=N.out.below C N.out.lt;have z0:=D.cell 0;have z1:=D.cell 1;have G:=O (j.out.trans (C.mono j.out.size));clear C D))
   go_ret2;rw[<-eL];exact⟨rfl,G.out⟩
  ·have d1:decide (b<0)=false:=decide_eq_false hb
   rw[if_neg hb];clear hb
   go_enter OE,OC
   go_wp2_with (first
    |(go_at_call 207;refine(I.out _).mono ?_;rintro e w1 ⟨rfl,B⟩;have hl:=HB.out.below B HB.out.lt;have y0:=hl.cell 0;have y1:=hl.cell 1;have j:=O (T.out.trans (B.mono T.out.size));have N:=O hl;clear B hl)
    |(go_at_call 208;refine(CS.out _ (HS.out.below j.out)).mono ?_;rintro e w2 ⟨rfl,C⟩;have D:=N.out.below C N.out.lt;have z0:=D.cell 0;have z1:=D.cell 1;have G:=O (j.out.trans (C.mono j.out.size));clear C D))
   go_ret2;rw[<-eL];exact⟨rfl,G.out⟩
end Go.Proofs.YthhijgcfbjcgiaaGreatDoor
