/- Kind, Scan, ScanP, Spread, Blk1 -/
import Derived.Test.YthhijgcfbjcgiaaGreatDoorQ18
import Derived.Great.BuildSlice
namespace Go.Proofs.YthhijgcfbjcgiaaGreatDoor
open Go Go.RowKit
attribute [local go_sem] Oper.semAt_some
set_option maxHeartbeats 16000000
set_option maxRecDepth 100000
open Go.IntKind renaming i64→O,wrap_i64→OM,i64→OQ
open Go.Value renaming int→U,bool→V,string→OB,agg→OC,slice→OK
open Go.Lib renaming hid→Z
open List renaming length→Y,setIfInBounds_toArray→OA,range→OD,set_cons_succ→OE,set_cons_zero→OF,getElem?_eq_getElem→OG,append_toArray→OP,length_append→OR,getD_eq_getElem?_getD→OS,push_toArray→OT,size_toArray→OU,cons_append→OW,prefix_iff_eq_take→OX,length_nil→OY,nil_append→OZ,take_range→Oa,getElem?_toArray→Od,drop_succ_cons→Og,length_cons→Ol,range_succ→Om,drop_zero→On,replicate→Oo
open Tryz renaming prog→X,ntmps176→OI,func176→OL,ntmps250→Of,func250→Oh,underlying272→Oi,ntmps216→Ou,func216→Ov,func286→Ow
open Nat renaming le_refl→J,min_eq_left→Ob,reduceSub→Oe,reduceAdd→Ot
open Go.Obj renaming cells→OH
open Go.Ending renaming returned→OJ
open Bool renaming false_or→ON,true_or→OV,false_and→Oc,true_and→Oq
open Go.Proofs.YthhijgcfbjcgiaaGreatDoor.cb renaming take→OO,step→Ox
open Int renaming toNat_natCast→Oj
def qy (k:Int):List Value:=[V (pI k),V (pQ k),V (pV k),V (pF k),V (pC k)]
def fJ (j:Nat):List Value:=OB ⟨(ay.getD j []).toArray⟩::qy ((j:Int)+1)
def iG:Array Value:= #[OB ⟨#[48,48,48,49]⟩,V true,V false,V false,V false,V false,OB ⟨#[48,48,48,48,48,48,49]⟩,V true,V true,V false,V false,V false,OB ⟨#[49]⟩,V false,V false,V false,V false,V true,OB ⟨#[48,48,48,48,49]⟩,V false,V true,V false,V false,V true,OB ⟨#[48,48,48,48,48,48,48,48,49]⟩,V false,V false,V true,V false,V false,OB ⟨#[48,48,48,48,48,48,48,49]⟩,V false,V false,V true,V false,V true,OB ⟨#[48,48,48,48,48,48,48,48,48,49]⟩,V false,V true,V true,V false,V true,OB ⟨#[48,48,49]⟩,V false,V false,V true,V true,V false,OB ⟨#[48,49]⟩,V false,V false,V true,V true,V true,OB ⟨#[48,48,48,48,48,49]⟩,V false,V true,V true,V true,V true]
def KA:Value->Int
 |U _ n=>n
 |_=>0
def GD:List Value:=[V false,V false,V false,V false,V false]
theorem IQ (W:World):(Instr.index 222 (OC iG) (U O 0)).run X W= .ok (OC (fJ 0).toArray) W:=by kernel_rfl
theorem IR (W:World):(Instr.index 222 (OC iG) (U O 1)).run X W= .ok (OC (fJ 1).toArray) W:=by kernel_rfl
theorem IT (W:World):(Instr.index 222 (OC iG) (U O 2)).run X W= .ok (OC (fJ 2).toArray) W:=by kernel_rfl
theorem IU (W:World):(Instr.index 222 (OC iG) (U O 3)).run X W= .ok (OC (fJ 3).toArray) W:=by kernel_rfl
theorem IV (W:World):(Instr.index 222 (OC iG) (U O 4)).run X W= .ok (OC (fJ 4).toArray) W:=by kernel_rfl
theorem IW (W:World):(Instr.index 222 (OC iG) (U O 5)).run X W= .ok (OC (fJ 5).toArray) W:=by kernel_rfl
theorem IX (W:World):(Instr.index 222 (OC iG) (U O 6)).run X W= .ok (OC (fJ 6).toArray) W:=by kernel_rfl
theorem IY (W:World):(Instr.index 222 (OC iG) (U O 7)).run X W= .ok (OC (fJ 7).toArray) W:=by kernel_rfl
theorem IZ (W:World):(Instr.index 222 (OC iG) (U O 8)).run X W= .ok (OC (fJ 8).toArray) W:=by kernel_rfl
theorem I0 (W:World):(Instr.index 222 (OC iG) (U O 9)).run X W= .ok (OC (fJ 9).toArray) W:=by kernel_rfl
theorem JR:∀(j:Nat),j<10->∀W:World,(Instr.index 222 (OC iG) (U O (j:Int))).run X W= .ok (OC (fJ j).toArray) W:=by
 intro j B W;have e:j=0\/j=1\/j=2\/j=3\/j=4\/j=5\/j=6\/j=7\/j=8\/j=9:=by omega
 rcases e with rfl|rfl|rfl|rfl|rfl|rfl|rfl|rfl|rfl|rfl
 ·exact IQ W
 ·exact IR W
 ·exact IT W
 ·exact IU W
 ·exact IV W
 ·exact IW W
 ·exact IX W
 ·exact IY W
 ·exact IZ W
 ·exact I0 W
theorem oR {B g:Nat}{C w:World}(j:Below B C w)(D:B<=g)(cs:Array Value):Below B C (w.setRow g cs):=
 ⟨j.os,j.tape,j.output,by rw[size_setRow];exact j.size,λk G=>(setRow_other w g k cs (by omega)).trans (j.block k G)⟩
def tF:Array Value:= #[OB ⟨#[]⟩,V false,V false,V false,V false,V false,OB ⟨#[]⟩,V false,V false,V false,V false,V false,OB ⟨#[]⟩,V false,V false,V false,V false,V false,OB ⟨#[]⟩,V false,V false,V false,V false,V false,OB ⟨#[]⟩,V false,V false,V false,V false,V false,OB ⟨#[]⟩,V false,V false,V false,V false,V false,OB ⟨#[]⟩,V false,V false,V false,V false,V false,OB ⟨#[]⟩,V false,V false,V false,V false,V false,OB ⟨#[]⟩,V false,V false,V false,V false,V false,OB ⟨#[]⟩,V false,V false,V false,V false,V false]
theorem Ct (w:World):Calls X 200 #[] w λe w'=>e=OJ (OC iG)/\Below w.heap.size w w':=by
 have D:(w.alloc (OH tF 222)).heap[w.heap.size]? =some (OH tF 222 (0,0)):=heap_alloc_new w _;have C:=Z D;clear D
 go_enter Tryz.func200,Tryz.ntmps200
 go_wp2_with (refine wpList_store_rowTo rfl 222 _ _ rfl rfl w.heap.size iG rfl rfl 222 tF C.out rfl rfl (by kernel_rfl) ?_)
 have j:=C.out;have B:Below w.heap.size w (w.alloc (OH tF 222)):=(Below.refl _ _).alloc (J _) _;refine bodyPost_ret (results_cell_row rfl _ _ w.heap.size 222 iG (0,0) _ rfl (setRow_heap _ _ tF iG _ _ j) Tryz.underlying222 rfl (by kernel_rfl)) rfl ⟨rfl,?_⟩;exact oR B (J _) iG
theorem xM (w:World):Calls X 156 #[] w λe w'=>e=OJ (.func (.func 199) #[] #[])/\w=w':=by
 go_enter Tryz.func156,Tryz.ntmps156
 go_wp2
 go_ret;exact⟨rfl,rfl⟩
def tT (j:Nat):Array Value:= #[U O ((j:Int)+1),OC (fJ j).toArray]
theorem Bc (j:Nat):tT j= #[U O ((j:Int)+1),OC #[OB (bs (ay.getD j [])),V (pI ((j:Int)+1)),V (pQ ((j:Int)+1)),V (pV ((j:Int)+1)),V (pF ((j:Int)+1)),V (pC ((j:Int)+1))]]:=rfl
theorem vr {n:Nat}{pre:List Nat}{x:Nat}(h:pre++[x]<+:OD n):pre=OD (Y pre)/\x=Y pre/\Y pre<n:=by
 have j:=h.length_le;rw[List.length_range] at j;simp at j;have h2:pre<+:OD n:=(List.prefix_append _ _).trans h;have B:=OX.1 h2;rw[Oa,Ob (by omega)] at B;refine⟨B,?_,by omega⟩;have C:=OX.1 h;rw[Oa,OR,Ob (by simp;omega)] at C;have D:(pre++[x])[Y pre]? =(OD (Y pre+[x].length))[Y pre]? :=by rw[<-C]
 simpa [List.getElem?_range] using D
theorem Db (n k:Nat)(h:k<n):OD k++[k]<+:OD n:=by
 have e:OD k++[k]=(OD n).take (k+1):=by rw[Oa,Ob (by omega),Om]
 rw[e];exact List.take_prefix _ _
theorem xL (n:Nat)(hn:1<=n)(I:List Nat->World->Prop)(hI:∀pre A B,I pre A->Below A.heap.size A B->I pre B):
  tJ Fence.wide n X 199 #[] tT I I (λxs=>xs=OD 10) (λpre=>pre<+:OD 10):=by
 intro lp K Jx W hK hY h0 dE;refine callsIn_of_wp Tryz.func199 rfl trivial ?_ rfl;simp only[Tryz.ntmps199,OU,Ol,OY,Ot,Oe,Array.replicate_succ,Array.replicate_zero,OT,OP,OZ,OW];have HY:=Z hY;have HI:=Z hI;have HK:=Z hK;have H0:=Z h0;have rX:=Z dE;clear hY hI hK h0 dE;obtain⟨TB,M⟩:∃TB,TB=iG:=⟨_,rfl⟩;have dD:∀(j:Nat),j<10->∀W:World,(Instr.index 222 (OC TB) (U O (j:Int))).run X W= .ok (OC (fJ j).toArray) W:=by rw[M];exact JR
 have kz:=Z dD;have CT:=Z (λW=>Ct W);rw[<-M] at CT;clear dD M;gi_wp2_with (refine⟨trivial,?_⟩;gi_at_call 200;refine(callsIn_wide.2 (CT.out _)).mono ?_;rintro e w1 ⟨rfl,dt⟩;have T:=Z dt;clear dt)
 gi_loopw [5] (λv wr=>∃j:Nat,v=U O (j:Int)/\j<=10/\Hid (I (OD j) wr)/\Hid (K wr)) (λv _=>10 - (KA v).toNat)
 case atStart=>
  exact⟨0,rfl,by omega,Z (HI.out _ _ _ H0.out T.out),Z (HK.out.below rX.out T.out)⟩
 case round=>
  obtain⟨j,rfl,hj,aC,bE⟩:=hrel
  by_cases dY:j<10
  ·have J2:(j:Int)<10:=by omega
   have K0:¬((j:Int)<0):=(by omega);have K1:OQ.wrap ((j:Int)+1)=(j:Int)+1:=(by rw[OM];omega);have ix:=kz.out j dY;have G:OD j++[j]<+:OD 10:=Db 10 j dY;obtain⟨sc,ja⟩:∃sc,sc=(ay.getD j []):=⟨_,rfl⟩;obtain⟨p1,eE⟩:∃p,p=pI ((j:Int)+1):=⟨_,rfl⟩;obtain⟨p2,fW⟩:∃p,p=pQ ((j:Int)+1):=⟨_,rfl⟩;obtain⟨p3,gy⟩:∃p,p=pV ((j:Int)+1):=⟨_,rfl⟩;obtain⟨p4,gJ⟩:∃p,p=pF ((j:Int)+1):=⟨_,rfl⟩;obtain⟨p5,hU⟩:∃p,p=pC ((j:Int)+1):=⟨_,rfl⟩;have C:fJ j=[OB ⟨sc.toArray⟩,V p1,V p2,V p3,V p4,V p5]:=(by rw[ja,eE,fW,gy,gJ,hU];rfl);have D:tT j= #[U O ((j:Int)+1),OC #[OB ⟨sc.toArray⟩,V p1,V p2,V p3,V p4,V p5]]:=(by unfold tT;rw[C]);rw[C] at ix;have N:= λW1 (h1:I (OD j) W1) (h2:K W1)=>HY.out (OD j) j W1 h1 h2 G;rw[D] at N;have aB:Hid (Below wr.heap.size wr (wr.alloc (OH #[OB ⟨sc.toArray⟩,V p1,V p2,V p3,V p4,V p5] 184))):=Z ((Below.refl _ _).alloc (J _) _);obtain⟨fn,tmps,jT,body,hy,hR⟩:=N _ (HI.out _ _ _ aC.out aB.out) (HK.out.below bE.out aB.out);have HR:=Z hR;have wj:=Z G;clear hR N D C G ja eE fW gy gJ hU hj;gi_wp2_with fail
   refine HR.out.mono ?_;rintro e W3 (⟨rfl,Io,Iq⟩|⟨rfl,cz⟩)
   ·gi_wp2_with fail
    refine⟨⟨j+1,by simp,by omega,Z (by rw[Om];exact Io),Z Iq⟩,?_⟩;show 10 - ((j:Int)+1).toNat<10 - (j:Int).toNat;omega
   ·gi_wp2_with fail
    refine bodyPost_ret (results_none rfl _ _ _) rfl ?_;exact⟨⟨_,rfl⟩,.inr ⟨_,wj.out,cz⟩⟩
  ·have Ip:j=10:=by omega
   subst Ip;gi_wp2_with fail
   refine bodyPost_end (results_none rfl _ _ _) rfl ?_;exact⟨⟨_,rfl⟩,.inl ⟨_,rfl,aC.out,bE.out⟩⟩
theorem DI {F:Fence}{n:Nat}{P:Program}{c:Code}{Q:Exit->Act->World->Prop}{a:Act}{w:World}(aB:F.round=none)(h:c.wpIn F n P (Exit.noGoto Q) a w):(Code.scope c).wpIn F n P Q a w:=by
 intro b k cs K N T;have D:b.roundOf=none:=K.trans aB;obtain⟨e,j,B,G,C⟩:=h b (.inScope c::k) cs K N T;have I:(lone (b.atR a (.code (.scope c)::k)) cs w).fenced P F:=fenced_calm N T rfl;have M:step P (lone (b.atR a (.code (.scope c)::k)) cs w)= .next (lone (b.atR a (.code c:: .inScope c::k)) cs w):=by rw[Frame.atR_of_none D,Frame.atR_of_none D];exact step_scope
 cases e with
 |normal=>
  have s2:step P (lone (b.atR j (.inScope c::k)) cs B)= .next (lone (b.atR j k) cs B):=(by rw[Frame.atR_of_none D,Frame.atR_of_none D];exact step_inScope);exact⟨.normal,j,B,G,.head I M (StepsIn.trans C (.one (fenced_calm N T rfl) s2))⟩
 |exit id=>exact⟨.exit id,j,B,G,⟨λk' hk=> .head I M (C.1 k' (by simp[exitTo,hk])),λh=>by rw[D] at h;cases h⟩⟩
 |goto l=>exact G.elim
 |ret=>exact⟨_,j,B,G,.of_steps (.one I M) C⟩
 |panic ch=>exact⟨_,j,B,G,.of_steps (.one I M) C⟩
 |outgrown=>exact⟨_,j,B,G,.of_steps (.one I M) C⟩
def wi (d i:Nat):Int:=if d % 2=1 then 7 - (i:Int) else i
def hZ (d i:Nat):Int:=(d:Int) - wi d i
def fV (d i:Nat):Bool:=decide (7<hZ d i)||decide (hZ d i<0)
def kQ (d i:Nat):Bool:=(d % 2==0&&hZ d i==0)||(d % 2==1&&wi d i==0)
def kf (d:Nat):Nat->List Int
 |0=>[]
 |g+1=>if fV d (7 - g) then kf d g else(8*hZ d (7 - g)+wi d (7 - g))::(if kQ d (7 - g) then[] else kf d g)
def qk:Nat->List Int
 |0=>[]
 |g+1=>kf (14 - g) 8++qk g
def jM:List Int:=qk 15
theorem kg:Y jM=64:=by kernel_rfl
theorem Fu:∀k∈jM,0<=k/\k<=63:=by decide+kernel
def Kj:Value->Int
 |U _ n=>n
 |_=>0
theorem fh (d i:Nat)(h:i<8):kf d (8 - i)=if fV d i then kf d (8 - (i+1)) else(8*hZ d i+wi d i)::(if kQ d i then[] else kf d (8 - (i+1))):=by
 obtain⟨g,j⟩:∃g,8 - i=g+1:=⟨7 - i,by omega⟩;rw[j,kf,show 7 - g=i by omega,show 8 - (i+1)=g by omega]
theorem Ha (d:Nat)(h:d<15):qk (15 - d)=kf d 8++qk (15 - (d+1)):=by
 obtain⟨g,j⟩:∃g,15 - d=g+1:=⟨14 - d,by omega⟩;rw[j,qk,show 14 - g=d by omega,show 15 - (d+1)=g by omega]
theorem Dw (w:World):Calls X 274 #[] w λe w'=>e=OJ (.func (.func 286) #[] #[])/\w=w':=by
 go_enter Tryz.func274,Tryz.ntmps274
 go_wp2
 go_ret;exact⟨rfl,rfl⟩
theorem EC (n:Nat)(hn:1<=n)(I:List Int->World->Prop):
  tJ Fence.wide n X 286 #[] (λx:Int=> #[U O x]) I I (λxs=>xs=jM) (λpre=>pre<+:jM):=by
 intro lp K Jx W hK hY h0 hU;refine callsIn_of_wp Ow rfl trivial ?_ rfl;simp only[Tryz.ntmps286,OU,Ol,OY,Ot,Oe,Array.replicate_succ,Array.replicate_zero,OT,OP,OZ,OW];have HY:=Z hY;have H0:=Z h0;have rX:=Z hU;clear hY hK h0 hU;gi_wp2_with fail
 refine DI rfl ?_;gi_wp2_with fail
 refine wpIn_label ?_;gi_wp2_with fail
 gi_loopw [6] (λv6 wr=>∃(d:Nat)(pre:List Int),v6=U O (d:Int)/\d<=15/\Hid (jM=pre++qk (15 - d))/\Hid (I pre wr)/\Hid (K wr)) (λv6 _=>15 - (Kj v6).toNat)
 case atStart=>exact⟨0,[],rfl,by omega,Z rfl,H0,rX⟩
 case round=>
  obtain⟨d,dD,rfl,hd,HD,dE,dY⟩:=hrel
  by_cases Io:d<15
  ·have K0:(d:Int)<15:=by omega
   have kz:=Z (show jM=dD++(kf d (8 - 0)++qk (15 - (d+1))) by rw[HD.out,Ha d Io]);clear HD;obtain⟨wo,jT⟩:∃wo:World,wo=wr:=⟨_,rfl⟩;rw[<-jT] at dE dY⊢;clear jT;gi_wp2_with fail
   gi_loopw [9] (λv9 wr=>∃(i:Nat)(pre:List Int),v9=U O (i:Int)/\i<=8/\Hid (jM=pre++(kf d (8 - i)++qk (15 - (d+1))))/\Hid (I pre wr)/\Hid (K wr)) (λv9 _=>8 - (Kj v9).toNat)
   case atStart=>exact⟨0,dD,rfl,by omega,kz,dE,dY⟩
   case round=>
    obtain⟨i,pre,rfl,hi,HF,G,M⟩:=hrel
    by_cases B:i<8
    ·have K1:(i:Int)<8:=by omega
     have K3:(0:Int)<=(d:Int):=by omega
     by_cases K2:d % 2=1
     ·have ja:((d:Int) % 2==1)=true:=by rw[beq_iff_eq];omega
      have gy:((d:Int) % 2==0)=false:=(by rw[beq_eq_false_iff_ne];omega);have hX:wi d i=(7 - (i:Int)):=(by unfold wi;rw[if_pos (by omega)]);have hS:kQ d i=((7 - (i:Int))==0):=(by unfold kQ hZ;rw[hX];simp[show d % 2=1 by omega]);have C:=Z hX;clear hX
      by_cases h7:7<((d:Int) - (7 - (i:Int)))
      ·have d7:decide (7<((d:Int) - (7 - (i:Int))))=true:=decide_eq_true h7
       have j:=Z (show fV d i=true by unfold fV hZ;rw[C.out,d7];rfl);clear h7 hS;gi_wp2_with fail
       refine⟨⟨i+1,pre,by simp,by omega,Z (by have h:=HF.out;rw[fh d i B,j.out] at h;exact h),G,M⟩,?_⟩;show 8 - ((i:Int)+1).toNat<8 - (i:Int).toNat;omega
      ·have d7:decide (7<((d:Int) - (7 - (i:Int))))=false:=decide_eq_false h7
       by_cases h0:((d:Int) - (7 - (i:Int)))<0
       ·have d0:decide (((d:Int) - (7 - (i:Int)))<0)=true:=decide_eq_true h0
        have j:=Z (show fV d i=true by unfold fV hZ;rw[C.out,d7,d0];rfl);clear h7 h0 hS;gi_wp2_with fail
        refine⟨⟨i+1,pre,by simp,by omega,Z (by have h:=HF.out;rw[fh d i B,j.out] at h;exact h),G,M⟩,?_⟩;show 8 - ((i:Int)+1).toNat<8 - (i:Int).toNat;omega
       ·have d0:decide (((d:Int) - (7 - (i:Int)))<0)=false:=decide_eq_false h0
        have j:=Z (show fV d i=false by unfold fV hZ;rw[C.out,d7,d0];rfl);have Iq:0<=((d:Int) - (7 - (i:Int))):=(by omega);have J2:((d:Int) - (7 - (i:Int)))<=7:=by omega
        have T:pre++[8*((d:Int) - (7 - (i:Int)))+(7 - (i:Int))]<+:jM:=by
         have h:=HF.out;rw[fh d i B,j.out,C.out,show hZ d i=((d:Int) - (7 - (i:Int))) by unfold hZ;rw[C.out]] at h;rw[h];exact⟨(if kQ d i=true then[] else kf d (8 - (i+1)))++qk (15 - (d+1)),by simp⟩
        obtain⟨fn,tmps,eE,body,gJ,hR⟩:=HY.out pre (8*((d:Int) - (7 - (i:Int)))+(7 - (i:Int))) wr G.out M.out T;have HR:=Z hR;have fW:=Z T;have HS:=Z hS;clear hR T h7 h0 hS;gi_wp2_with fail
        refine HR.out.mono ?_;rintro e W3 (⟨rfl,bE,dt⟩|⟨rfl,cz⟩)
        ·have aB:=Z bE;have aC:=Z dt
         clear bE dt gJ
         by_cases D:((7 - (i:Int))==0)=true
         ·have N:=Z (HS.out.trans D)
          gi_wp2_with fail
          refine⟨⟨d+1,pre++[8*((d:Int) - (7 - (i:Int)))+(7 - (i:Int))],by simp,by omega,Z ?_,aB,aC⟩,?_⟩
          ·have h:=HF.out
           rw[fh d i B,j.out,C.out,N.out,show hZ d i=((d:Int) - (7 - (i:Int))) by unfold hZ;rw[C.out]] at h;rw[h];simp
          ·show 15 - ((d:Int)+1).toNat<15 - (d:Int).toNat
           omega
         ·have D:((7 - (i:Int))==0)=false:=by simpa using D
          have N:=Z (HS.out.trans D);gi_wp2_with fail
          refine⟨⟨i+1,pre++[8*((d:Int) - (7 - (i:Int)))+(7 - (i:Int))],by simp,by omega,Z ?_,aB,aC⟩,?_⟩
          ·have h:=HF.out
           rw[fh d i B,j.out,C.out,N.out,show hZ d i=((d:Int) - (7 - (i:Int))) by unfold hZ;rw[C.out]] at h;rw[h];simp
          ·show 8 - ((i:Int)+1).toNat<8 - (i:Int).toNat
           omega
        ·gi_wp2_with fail
         rw[Exit.noGoto_ret];refine bodyPost_ret (results_none rfl _ _ _) rfl ?_;exact⟨⟨_,rfl⟩,.inr ⟨_,fW.out,cz⟩⟩
     ·have ja:((d:Int) % 2==1)=false:=by rw[beq_eq_false_iff_ne];omega
      have gy:((d:Int) % 2==0)=true:=(by rw[beq_iff_eq];omega);have hX:wi d i=(i:Int):=(by unfold wi;rw[if_neg (by omega)]);have hS:kQ d i=((d:Int) - (i:Int)==0):=(by unfold kQ hZ;rw[hX];simp[show d % 2=0 by omega]);have C:=Z hX;clear hX
      by_cases h7:7<((d:Int) - (i:Int))
      ·have d7:decide (7<((d:Int) - (i:Int)))=true:=decide_eq_true h7
       have j:=Z (show fV d i=true by unfold fV hZ;rw[C.out,d7];rfl);clear h7 hS;gi_wp2_with fail
       refine⟨⟨i+1,pre,by simp,by omega,Z (by have h:=HF.out;rw[fh d i B,j.out] at h;exact h),G,M⟩,?_⟩;show 8 - ((i:Int)+1).toNat<8 - (i:Int).toNat;omega
      ·have d7:decide (7<((d:Int) - (i:Int)))=false:=decide_eq_false h7
       by_cases h0:((d:Int) - (i:Int))<0
       ·have d0:decide (((d:Int) - (i:Int))<0)=true:=decide_eq_true h0
        have j:=Z (show fV d i=true by unfold fV hZ;rw[C.out,d7,d0];rfl);clear h7 h0 hS;gi_wp2_with fail
        refine⟨⟨i+1,pre,by simp,by omega,Z (by have h:=HF.out;rw[fh d i B,j.out] at h;exact h),G,M⟩,?_⟩;show 8 - ((i:Int)+1).toNat<8 - (i:Int).toNat;omega
       ·have d0:decide (((d:Int) - (i:Int))<0)=false:=decide_eq_false h0
        have j:=Z (show fV d i=false by unfold fV hZ;rw[C.out,d7,d0];rfl);have Iq:0<=((d:Int) - (i:Int)):=(by omega);have J2:((d:Int) - (i:Int))<=7:=by omega
        have T:pre++[8*((d:Int) - (i:Int))+(i:Int)]<+:jM:=by
         have h:=HF.out;rw[fh d i B,j.out,C.out,show hZ d i=((d:Int) - (i:Int)) by unfold hZ;rw[C.out]] at h;rw[h];exact⟨(if kQ d i=true then[] else kf d (8 - (i+1)))++qk (15 - (d+1)),by simp⟩
        obtain⟨fn,tmps,eE,body,gJ,hR⟩:=HY.out pre (8*((d:Int) - (i:Int))+(i:Int)) wr G.out M.out T;have HR:=Z hR;have fW:=Z T;have HS:=Z hS;clear hR T h7 h0 hS;gi_wp2_with fail
        refine HR.out.mono ?_;rintro e W3 (⟨rfl,bE,dt⟩|⟨rfl,cz⟩)
        ·have aB:=Z bE;have aC:=Z dt
         clear bE dt gJ
         by_cases D:((d:Int) - (i:Int)==0)=true
         ·have N:=Z (HS.out.trans D)
          gi_wp2_with fail
          refine⟨⟨d+1,pre++[8*((d:Int) - (i:Int))+(i:Int)],by simp,by omega,Z ?_,aB,aC⟩,?_⟩
          ·have h:=HF.out
           rw[fh d i B,j.out,C.out,N.out,show hZ d i=((d:Int) - (i:Int)) by unfold hZ;rw[C.out]] at h;rw[h];simp
          ·show 15 - ((d:Int)+1).toNat<15 - (d:Int).toNat
           omega
         ·have D:((d:Int) - (i:Int)==0)=false:=by simpa using D
          have N:=Z (HS.out.trans D);gi_wp2_with fail
          refine⟨⟨i+1,pre++[8*((d:Int) - (i:Int))+(i:Int)],by simp,by omega,Z ?_,aB,aC⟩,?_⟩
          ·have h:=HF.out
           rw[fh d i B,j.out,C.out,N.out,show hZ d i=((d:Int) - (i:Int)) by unfold hZ;rw[C.out]] at h;rw[h];simp
          ·show 8 - ((i:Int)+1).toNat<8 - (i:Int).toNat
           omega
        ·gi_wp2_with fail
         rw[Exit.noGoto_ret];refine bodyPost_ret (results_none rfl _ _ _) rfl ?_;exact⟨⟨_,rfl⟩,.inr ⟨_,fW.out,cz⟩⟩
    ·have Ip:i=8:=by omega
     subst Ip;gi_wp2_with fail
     refine⟨⟨d+1,pre,by simp,by omega,Z (by have h:=HF.out;rw[show kf d (8 - 8)=[] from rfl] at h;simpa using h),G,M⟩,?_⟩;show 15 - ((d:Int)+1).toNat<15 - (d:Int).toNat;omega
  ·have wj:d=15:=by omega
   subst wj;gi_wp2_with fail
   rw[Exit.noGoto_normal];refine bodyPost_end (results_none rfl _ _ _) rfl ?_;have he:jM=dD:=(by have h:=HD.out;rw[show qk (15 - 15)=[] from rfl] at h;simpa using h);exact⟨⟨_,rfl⟩,.inl (by first|exact⟨_,he.symm,dE.out,dY.out⟩|exact⟨by rw[he];exact dE.out,dY.out⟩)⟩
def kR (pre:List Int):List Value:=pre.map aE++Oo (64 - Y pre) (aE 0)
theorem FE {pre:List Int}(h:Y pre<=64):(kR pre).length=64:=by simp[kR];omega
theorem FF {pre:List Int}(h:Y pre<64)(x:Int):(kR pre).set (Y pre) (aE x)=kR (pre++[x]):=by
 unfold kR;obtain⟨g,j⟩:∃g,64 - Y pre=g+1:=⟨63 - Y pre,by omega⟩;rw[j,List.replicate_succ,List.set_append_right _ _ (by simp)];simp[show 64 - (Y pre+1)=g by omega]
def qK:Array Value:=(jM.map aE).toArray
theorem xj:qK.size=64:=by simp[qK,kg]
theorem A7:qK.all (·.oneCell')=true:=by
 rw[Array.all_eq_true];intro i j;simp[qK,aE,Value.oneCell']
theorem Ic (k:Nat)(h:k<64):qK[k]? =some (U O (jM[k]'(by rw[kg];exact h))):=by
 simp[qK,kg,h,aE]
theorem jE (n:Int)(w:World):Calls X 250 #[U O n] w λe w'=>e=OJ (V (decide (-127<=n)&&decide (n<=127)))/\w=w':=by
 cases a:decide (-127<=n) with
 |false=>
  simp only[Oc]
  go_enter Oh,Of
  go_wp2
  go_ret;exact⟨rfl,rfl⟩
 |true=>
  cases b:decide (n<=127) with
  |false=>
   simp only[Bool.and_false]
   go_enter Oh,Of
   go_wp2
   go_ret;exact⟨rfl,rfl⟩
  |true=>
   simp only[Bool.and_self]
   go_enter Oh,Of
   go_wp2
   go_ret;exact⟨rfl,rfl⟩
theorem zZ (w:World):Calls X 249 #[] w λe w'=>e=OJ (OC qK)/\Below w.heap.size w w':=by
 obtain⟨j,N⟩:∃j,j=qK:=⟨_,rfl⟩;rw[<-N];have M:=Z N;clear N;refine(callsIn_wide (n:=5)).1 ?_;refine callsIn_of_wp_marks Tryz.func249 rfl trivial ?_ rfl;simp only[Tryz.ntmps249,OU,OY,Oe,Array.replicate_succ,Array.replicate_zero,OT,OP,OZ,OW];refine wpIn_wide.2 ?_;go_wp2_with (go_at_call 274;refine(Dw _).mono ?_;rintro e w' ⟨rfl,rfl⟩)
 refine(wpIn_wide (n:=5)).1 ?_
 refine tD (α:=Int) (enc:= λx=> #[U O x]) (I:=cY w (λ(pre:List Int) (_:Unit)=>(Y pre)<=64) (λpre _=>[(w.heap.size,272,(kR pre).toArray),(w.heap.size+1,3,#[U O (Y pre:Int)])]) (λ_ _=>[])) (I2:=cY w (λ(pre:List Int) (_:Unit)=>(Y pre)<=64) (λpre _=>[(w.heap.size,272,(kR pre).toArray),(w.heap.size+1,3,#[U O (Y pre:Int)])]) (λ_ _=>[])) (S:= λxs=>xs=jM) (Sp:= λpre=>pre<+:jM)
  rfl (by decide) (gf:=286) (lb:= #[]) rfl trivial (enters_of Ow (by kernel_rfl) rfl)
  (EC 4 (by decide) _) (λ_=>rfl)
  (λ_ _ _=>False)
  (λpre _ _ W=>cY w (λ(pre:List Int) (_:Unit)=>(Y pre)<=64) (λpre _=>[(w.heap.size,272,(kR pre).toArray),(w.heap.size+1,3,#[U O (Y pre:Int)])]) (λ_ _=>[]) pre W)
  (bw (by simp;omega) _ _ _) (bw (by simp;omega) _ _ _) (λ_ _ _ _ _ h _ _=>h) (λx g=>bw (by simp;omega) _ _ _) ?start ?round ?done ?stop
 case start=>
  refine⟨⟨(),by simp,?_,?_,aA _⟩⟩
  ·exact((Below.refl _ _).alloc (J _) _).alloc (by simp) _
  ·refine aa.cons ?_ (aa.cons ?_ (ag _))
   ·exact(ab.new w 272 _).alloc _
   ·(repeat (first|(refine aH (ab.new _ _ _) ?_;simp[World.size_alloc];done)|refine ab.alloc ?_ _))
 case round=>
  apply Exists.intro;refine And.intro ?_ ?_
  ·rintro lp pre x W hI B
   clear B;gi_wp2
   obtain⟨g0,_⟩:∃g0:Nat,g0=0:=⟨_,rfl⟩;exact⟨⟨g0,rfl,hI⟩,KeepsFrom.refl _ _⟩
  ·rintro lp pre x g W ⟨⟨_,hu,C⟩⟩ B
   have hl:Y pre<64:=(by have:=B.length_le;rw[kg] at this;simp at this;omega);have cz:(Y pre:Int)<64:=(by omega);have bE:¬((Y pre:Int)<0):=(by omega);have dt:OQ.wrap ((Y pre:Int)+1)=(Y pre:Int)+1:=(by rw[OM];omega);have b0:=C.2.1.head;have b1:=C.2.1.tail.head;dsimp only at b0 b1;have x1:=b1.cell 0;have f1:=b1.frozen 0;obtain⟨v0,x0⟩:∃v0,W.cell? ⟨w.heap.size,Y pre,none⟩=some v0:=by rw[b0.cell,Od];exact⟨_,OG (by rw[FE hu];exact hl)⟩
   have f0:=b0.frozen (Y pre);have HC:=Z C;have HL:=Z hl;have T:=Z (FF hl x);clear C b0 b1 B hu;gi_wp2_with fail
   refine⟨aq (aq (KeepsFrom.refl _ _) _ _) _ _,trivial,⟨⟨(),?_,?_⟩⟩⟩
   ·have:=HL.out;rw[OR];simp;omega
   ·have h1:=bB HC.out (J _) (Y pre) (U O x) (by simp) (by simp)
    have h2:=bB (ez h1) (Nat.le_succ _) 0 (U O ((Y pre:Int)+1)) (by simp) (by simp);have h3:=ez h2;rw[OA,show (kR pre).set (Y pre) (Value.int O x)=kR (pre++[x]) from T.out] at h3;rw[OR];exact h3
 case done=>
  rintro D xs W hD rfl ⟨⟨_,hu,C⟩⟩ hK
  have hb:ab W w.heap.size 272 j:=by
   rw[M.out];have h:=C.2.1.head;dsimp only at h;rw[show kR jM=jM.map aE by simp[kR,kg]] at h;exact h
  have hsz:j.size=64:=(by rw[M.out];exact xj);have K:j.all (·.oneCell')=true:=(by rw[M.out];exact A7);have G:(X.info? 272).map (·.size)=some j.size:=(by rw[hsz];kernel_rfl);have HB:=Z hb;have aB:=Z C.1;have HK:=Z hK;have HI:=Z G;have HO:=Z K;clear C hu hb hsz K G hK;gi_wp2_with fail
  go_wp2_with (first
   |(refine wpList_load_row rfl 272 _ rfl w.heap.size rfl 272 j (0,0) _ HB.out Oi rfl HI.out ?_)
   |(refine wpList_store_rowTo rfl 272 _ _ rfl rfl w.heap.size j rfl rfl 272 j HB.out HI.out rfl HO.out ?_))
  rw[setRow_self _ _ j 272 (0,0) HB.out];have aC:ab (W.putObj D (.deferred none)) w.heap.size 272 j:=(cR (L:=[(w.heap.size,272,j)]) (o':= .deferred none) (aa.cons HB.out (ag _)) HK.out rfl).head;simp only[Act.put];exact el HK.out (results_cell_row rfl _ _ w.heap.size 272 j (0,0) _ rfl aC Oi rfl HI.out) ⟨rfl,cA aB.out (by simp at hD;omega)⟩
 case stop=>
  rintro D cd pre W hD B h hK;exact h.elim
def bj (p:Int×Int):List Value:=[U O p.1,U O p.2]
theorem vj (p:Int×Int):(bj p).length=2:=rfl
theorem jj {w:World}{A:Option Addr}{l:List (Int×Int)}(h:Sl w A (av bj l))(i:Nat)(B:i<Y l):∃ad,A=some ad/\ad.block<w.heap.size/\w.cell? (ad.add (i*2))=some (U O l[i].1)/\w.cell? ⟨(ad.add (i*2)).block,(ad.add (i*2)).off+1,none⟩=some (U O l[i].2):=by
 have j:=jb vj l i B 0 (by decide);have D:=jb vj l i B 1 (by decide);rw[Nat.add_zero] at j;obtain⟨ad,rfl,hl,c0⟩:=h _ _ (j.trans rfl);obtain⟨C,e,_,c1⟩:=h _ _ (D.trans rfl)
 cases e
 rw[<-jq] at c1;exact⟨ad,rfl,hl,c0,c1⟩
def nr (k:Nat):Int:=jM.getD k 0
theorem tG (k:Nat)(h:k<64):0<=nr k/\nr k<=63:=by
 have j:nr k∈jM:=by unfold nr;rw[OS,OG (by rw[kg];exact h)];exact List.getElem_mem _
 exact Fu _ j
theorem Js (k:Nat)(h:k<64):qK[k]? =some (U O (nr k)):=by
 rw[Ic k h];unfold nr;rw[OS,OG (by rw[kg];exact h)];rfl
def nO:List Int->List (Int×Int)->Int->List Int
 |B,[],_=>B
 |B,p::l,a=>nO (B.set (nr (a+p.1).toNat).toNat p.2) l (a+p.1+1)
def jl:List Int:=Oo 64 0
def BH (l:List (Int×Int)) (j:Int):List Int:=nO jl l j
theorem rb (p:Int×Int)(l:List (Int×Int))(a:Int):cI (p::l) a=if p.2==0|| !(decide (-127<=p.2)&&decide (p.2<=127)) then 10 else if decide (p.1<0)||decide (63 - a<p.1) then 11 else cI l (a+p.1+1):=rfl
def AP (l:List (Int×Int)) (j:Int) (w:World) (e:Ending) (w':World):Prop:=∃v,e=OJ (.tuple #[v,U O (cI l j)])/\Below w.heap.size w w'/\
 (cI l j=0->∃b,v=OK (some ⟨b,0,none⟩) 64 64/\ab w' b 272 ((BH l j).map aE).toArray)/\(cI l j≠0->v=OK none 0 0)
theorem zY (l:List (Int×Int))(A:Option Addr)(n c:Nat)(fr:Int)(Kr:fr=0\/fr=1)(w:World)(hS:Sl w A (av bj l))(hn:Y l=n)(hsz:n<=1099511627776):
  Calls X 215 #[OK A n c,U O fr] w (AP l fr w):=by
 obtain⟨E,hE⟩:∃E,cI l fr=E:=⟨_,rfl⟩;obtain⟨BL,fW⟩:∃B,BH l fr=B:=⟨_,rfl⟩;unfold AP;rw[hE,fW];have HE:=Z hE;have K4:=Z fW;have HS:=Z hS;have HN:=Z hn;clear hE fW hS hn;obtain⟨G,N⟩:∃G,G=qK:=⟨_,rfl⟩;have CP:=Z (λW=>zZ W);rw[<-N] at CP;have aB:G.size=64:=by rw[N];exact xj
 have dE:(X.info? 272).map (·.size)=some G.size:=by rw[aB];kernel_rfl
 have HI:=Z dE;have HO:=Z (show G.all (·.oneCell')=true by rw[N];exact A7);have K9:=Z aB;have K5:=Z N;clear aB dE N;have hz:ab (w.alloc (OH (jl.map aE).toArray 272)) w.heap.size 272 (jl.map aE).toArray:=ab.new _ _ _;have HZ:=Z hz;clear hz;rcases Kr with rfl|rfl
 all_goals
  go_enter Tryz.func215,Tryz.ntmps215
  go_wp2_with (first
   |(go_at_call 249;refine(CP.out _).mono ?_;rintro e D ⟨rfl,ja⟩;have eE:=Z ja;have bE:=Z (HZ.out.below ja HZ.out.lt);clear ja)
   |(refine wpList_store_rowTo rfl 272 _ _ rfl rfl D.heap.size G rfl rfl 272 (jl.map aE).toArray (heap_alloc_new D _) HI.out (by rw[K9.out];rfl) HO.out ?_))
  have gJ:((D.alloc (OH #[U O 0,U O 0,U O 0,U O 0,U O 0,U O 0,U O 0,U O 0,U O 0,U O 0,U O 0,U O 0,U O 0,U O 0,U O 0,U O 0,U O 0,U O 0,U O 0,U O 0,U O 0,U O 0,U O 0,U O 0,U O 0,U O 0,U O 0,U O 0,U O 0,U O 0,U O 0,U O 0,U O 0,U O 0,U O 0,U O 0,U O 0,U O 0,U O 0,U O 0,U O 0,U O 0,U O 0,U O 0,U O 0,U O 0,U O 0,U O 0,U O 0,U O 0,U O 0,U O 0,U O 0,U O 0,U O 0,U O 0,U O 0,U O 0,U O 0,U O 0,U O 0,U O 0,U O 0,U O 0] 272)).setRow D.heap.size G).heap[D.heap.size]? =some (OH G 272 (0,0)):=setRow_heap _ D.heap.size (jl.map aE).toArray G 272 (0,0) (heap_alloc_new D _)
  have cz:Below D.heap.size D ((D.alloc (OH #[U O 0,U O 0,U O 0,U O 0,U O 0,U O 0,U O 0,U O 0,U O 0,U O 0,U O 0,U O 0,U O 0,U O 0,U O 0,U O 0,U O 0,U O 0,U O 0,U O 0,U O 0,U O 0,U O 0,U O 0,U O 0,U O 0,U O 0,U O 0,U O 0,U O 0,U O 0,U O 0,U O 0,U O 0,U O 0,U O 0,U O 0,U O 0,U O 0,U O 0,U O 0,U O 0,U O 0,U O 0,U O 0,U O 0,U O 0,U O 0,U O 0,U O 0,U O 0,U O 0,U O 0,U O 0,U O 0,U O 0,U O 0,U O 0,U O 0,U O 0,U O 0,U O 0,U O 0,U O 0] 272)).setRow D.heap.size G):=oR ((Below.refl _ _).alloc (J _) _) (J _) G
  have hU:=bE.out.below cz bE.out.lt
  have gy:Below w.heap.size w ((D.alloc (OH #[U O 0,U O 0,U O 0,U O 0,U O 0,U O 0,U O 0,U O 0,U O 0,U O 0,U O 0,U O 0,U O 0,U O 0,U O 0,U O 0,U O 0,U O 0,U O 0,U O 0,U O 0,U O 0,U O 0,U O 0,U O 0,U O 0,U O 0,U O 0,U O 0,U O 0,U O 0,U O 0,U O 0,U O 0,U O 0,U O 0,U O 0,U O 0,U O 0,U O 0,U O 0,U O 0,U O 0,U O 0,U O 0,U O 0,U O 0,U O 0,U O 0,U O 0,U O 0,U O 0,U O 0,U O 0,U O 0,U O 0,U O 0,U O 0,U O 0,U O 0,U O 0,U O 0,U O 0,U O 0] 272)).setRow D.heap.size G):=((((Below.refl _ w).alloc (J _) (OH (jl.map aE).toArray 272)).trans (eE.out.mono (by simp)))).trans (cz.mono (by have:=eE.out.size;simp at this;omega))
  generalize ((D.alloc (OH #[U O 0,U O 0,U O 0,U O 0,U O 0,U O 0,U O 0,U O 0,U O 0,U O 0,U O 0,U O 0,U O 0,U O 0,U O 0,U O 0,U O 0,U O 0,U O 0,U O 0,U O 0,U O 0,U O 0,U O 0,U O 0,U O 0,U O 0,U O 0,U O 0,U O 0,U O 0,U O 0,U O 0,U O 0,U O 0,U O 0,U O 0,U O 0,U O 0,U O 0,U O 0,U O 0,U O 0,U O 0,U O 0,U O 0,U O 0,U O 0,U O 0,U O 0,U O 0,U O 0,U O 0,U O 0,U O 0,U O 0,U O 0,U O 0,U O 0,U O 0,U O 0,U O 0,U O 0,U O 0] 272)).setRow D.heap.size G)=W0 at gJ cz hU gy⊢
  have dY:w.heap.size<D.heap.size:=bE.out.lt
  have Io:Hid (ar w [(w.heap.size,272,(jl.map aE).toArray),(D.heap.size,272,G)] [] W0):=Z ⟨gy,aa.cons hU (aa.cons gJ (ag _)),aA _⟩
  have dD:=Z dY
  clear gJ cz hU gy bE eE CP HZ dY
  generalize D.heap.size=b8 at Io dD⊢
  go_loopg [7,21] n (λg v7 KF=> λwr=>∃(j a:Nat)(B:List Int),j+g=n/\v7=U O (a:Int)/\KF=U O (j:Int)/\a<=64/\Y B=64/\Hid (cI (l.drop j) (a:Int)=E)/\Hid (nO B (l.drop j) (a:Int)=BL)/\Hid (ar w [(w.heap.size,272,(B.map aE).toArray),(b8,272,G)] [] wr))
  case atStart=>exact⟨0,_,jl,by omega,rfl,rfl,by decide,by decide,HE,K4,Io⟩
  case round=>
   obtain⟨j,a,B,hj,rfl,rfl,ha,J2,HP,HQ,M⟩:=hrel
   cases gk with
   |zero=>
    have KM:j=n:=(by omega);have KC:¬((j:Int)<(n:Int)):=(by omega);have hp:=HP.out;have hq:=HQ.out;rw[List.drop_eq_nil_of_le (by rw[HN.out];omega)] at hp hq;have Ip:=Z (show (0:Int)=E from hp);have K6:=Z (show B=BL from hq);clear hp hq;go_wp2_with fail
    go_ret2;refine⟨_,by rw[<-Ip.out];rfl,M.out.1,λ_=>⟨w.heap.size,rfl,by rw[<-K6.out];exact M.out.2.1.head⟩,λh=>absurd Ip.out.symm h⟩
   |succ g=>
    have KC:((j:Int)<(n:Int)):=(by omega);have jT:j<(Y l):=(by rw[HN.out];omega);obtain⟨ad,rfl,KL,c0,c1⟩:=jj (HS.out.below M.out.1) j jT;have hp:=HP.out;have hq:=HQ.out;rw[List.drop_eq_getElem_cons jT] at hp hq;obtain⟨⟨p1,I⟩,K2⟩:∃p,l[j]=p:=⟨_,rfl⟩;rw[K2] at c0 c1 hp hq;rw[rb] at hp;dsimp only at c0 c1 hp;have hq:nO (B.set (nr ((a:Int)+p1).toNat).toNat I) (l.drop (j+1)) ((a:Int)+p1+1)=BL:=hq;have K:=Z hp;have Iq:=Z hq;have wj:=Z J2;have KO:OQ.wrap ((j:Int)+1)=(j:Int)+1:=(by rw[OM];omega);clear hp hq K2 jT J2
    cases hz:(I==0) with
    |true=>
     have C:=Z (show (10:Int)=E by have h:=K.out;rw[hz] at h;exact h);go_wp2_with (go_at_call 250;refine(jE _ _).mono ?_;rintro e w' ⟨rfl,rfl⟩)
     go_ret2;exact⟨_,by rw[<-C.out];rfl,M.out.1.alloc M.out.1.size _,λh=>absurd (C.out.trans h) (by decide),λ_=>rfl⟩
    |false=>
     cases hl:(decide (-127<=I)&&decide (I<=127)) with
     |false=>
      have C:=Z (show (10:Int)=E by have h:=K.out;rw[hz,hl] at h;exact h);go_wp2_with (go_at_call 250;refine(jE _ _).mono ?_;rintro e w' ⟨rfl,rfl⟩)
      go_ret2;exact⟨_,by rw[<-C.out];rfl,M.out.1.alloc M.out.1.size _,λh=>absurd (C.out.trans h) (by decide),λ_=>rfl⟩
     |true=>
      by_cases T:p1<0
      ·have d0:decide (p1<0)=true:=decide_eq_true T
       have C:=Z (show (11:Int)=E by have h:=K.out;rw[hz,hl,d0] at h;exact h);clear T;go_wp2_with (go_at_call 250;refine(jE _ _).mono ?_;rintro e w' ⟨rfl,rfl⟩)
       go_ret2;exact⟨_,by rw[<-C.out];rfl,M.out.1.alloc M.out.1.size _,λh=>absurd (C.out.trans h) (by decide),λ_=>rfl⟩
      ·have d0:decide (p1<0)=false:=decide_eq_false T
       by_cases dt:63 - (a:Int)<p1
       ·have d1:decide (63 - (a:Int)<p1)=true:=decide_eq_true dt
        have C:=Z (show (11:Int)=E by have h:=K.out;rw[hz,hl,d0,d1] at h;exact h);clear T dt;go_wp2_with (go_at_call 250;refine(jE _ _).mono ?_;rintro e w' ⟨rfl,rfl⟩)
        go_ret2;exact⟨_,by rw[<-C.out];rfl,M.out.1.alloc M.out.1.size _,λh=>absurd (C.out.trans h) (by decide),λ_=>rfl⟩
       ·have d1:decide (63 - (a:Int)<p1)=false:=decide_eq_false dt
        have C:=Z (show cI (l.drop (j+1)) ((a:Int)+p1+1)=E by have h:=K.out;rw[hz,hl,d0,d1] at h;exact h);obtain⟨r,rfl⟩:=Int.eq_ofNat_of_zero_le (by omega:0<=p1);obtain⟨q,K3⟩:∃q,q=a+r:=⟨_,rfl⟩;have KG:q<=63:=(by omega);obtain⟨z,rX⟩:∃z:Nat,nr q=(z:Int):=⟨(nr q).toNat,by have:=tG q (by omega);omega⟩;have KI:z<=63:=(by have:=tG q (by omega);omega);have kz:(a:Int)+(r:Int)=(q:Int):=(by omega);have K8:=Z (show nO (B.set z I) (l.drop (j+1)) ((q:Int)+1)=BL by have h:=Iq.out;rw[kz,Oj,rX,Oj] at h;exact h);rw[kz] at C;have aC:=Z (ao M.out (OH #[U O (r:Int),U O I] 189))
        have x8:(wr.alloc (OH #[U O (r:Int),U O I] 189)).cell? ⟨b8,q,none⟩=some (U O (z:Int)):=by
         have h:=aC.out.2.1.tail.head;dsimp only at h;rw[h.cell,K5.out,Js q (by omega),rX]
        have xp:=(ab.new wr 189 #[U O (r:Int),U O I]).cell 1;have fz:=aC.out.2.1.head.frozen z
        obtain⟨vz,xz⟩:∃vz,(wr.alloc (OH #[U O (r:Int),U O I] 189)).cell? ⟨w.heap.size,z,none⟩=some vz:=by
         have h:=aC.out.2.1.head;dsimp only at h;rw[h.cell,Od];exact⟨_,OG (by rw[List.length_map,wj.out];omega)⟩
        have KN:¬((q:Int)<0):=(by omega);have KH:(q:Int)<64:=(by omega);have KT:¬((z:Int)<0):=(by omega);have KJ:(z:Int)<64:=(by omega);have KQ:OQ.wrap ((q:Int)+1)=(q:Int)+1:=(by rw[OM];omega);have KR:OQ.wrap ((a:Int)+(r:Int))=(q:Int):=(by rw[kz,OM];omega);have KE:b8≠w.heap.size:=(by have:=dD.out;omega);have KK:=Z K3;clear T dt rX K3 K Iq;go_wp2_with (go_at_call 250;refine(jE _ _).mono ?_;rintro e w' ⟨rfl,rfl⟩)
        refine bf (λw'=>w'.cell? ⟨b8,q,none⟩=some (U O (z:Int))/\w'.cell? ⟨wr.heap.size,1,none⟩=some (U O I)) 5 (OO 0 (OO 1 (OO 2 (OO 3 (OO 4 .done))))) (⟨x8,xp⟩) (λPE K0=>?_)
        iterate 5
         refine aj (v:=?_) rfl (by rfl) ?_ ?_
         rotate_left
         ·intro _ K1;(try dsimp only at K1);obtain⟨s0,s1⟩:=K1;go_simp;(try with_reducible rfl)
         simp only[OA,OF,OE]
        refine K0 _ _ ?_;clear K0 PE;simp only[Og,On];go_wp2_with fail
        refine⟨rfl,?_⟩;go_wp2_with fail
        go_roundg g
        case measure=>omega
        case rel=>
         refine⟨j+1,q+1,B.set z I,by omega,by simp,by simp,by omega,by rw[List.length_set];exact wj.out,C,K8,Z ?_⟩;have h:=bR (bB aC.out (J _) z (U O I) (by simpa using KE) (by simp));rw[OA,show ((B.map aE).set z (Value.int O I))=(B.set z I).map aE by rw[List.map_set];rfl] at h;exact h
def rB (dc:Int) (A:Option Addr) (n c:Nat) (intra:Bool):Value:=OC #[U O dc,OK A n c,V intra]
def Bb (dc:Int) (n:Nat) (intra:Bool):Int:=
 if intra&&(decide (dc<1)||decide (255<dc)||dc==128) then 10 else if !intra&&(dc !=0||n==0) then 2 else 0
theorem Hy (x:bH)(intra:Bool):dl x intra=if Bb x.dc (Y x.l) intra==0 then cI x.l (eB intra) else Bb x.dc (Y x.l) intra:=by
 have hl:(x.l==[])=((Y x.l)==0):=by cases x.l<;>rfl
 unfold dl Bb;rw[hl]
 split
 ·rfl
 ·split
  ·rfl
  ·rfl
theorem zj (dc:Int)(A:Option Addr)(n c:Nat)(intra:Bool)(w:World):Calls X 216 #[rB dc A n c intra] w λe w'=>e=OJ (U O (eB intra))/\Below w.heap.size w w':=by
 unfold rB
 cases intra with
 |false=>
  go_enter Ov,Ou
  go_wp2
  go_ret;exact⟨rfl,(Below.refl _ _).alloc (J _) _⟩
 |true=>
  go_enter Ov,Ou
  go_wp2
  go_ret;exact⟨rfl,(Below.refl _ _).alloc (J _) _⟩
theorem FN (dc:Int)(A:Option Addr)(n c:Nat)(intra:Bool)(w:World):Calls X 176 #[rB dc A n c intra] w λe w'=>e=OJ (U O (Bb dc n intra))/\Below w.heap.size w w':=by
 unfold rB Bb
 cases intra with
 |true=>
  rw[Oq,Bool.not_true,Oc]
  cases B:decide (dc<1) with
  |true=>
   rw[OV,OV,if_pos rfl]
   go_enter OL,OI
   go_wp2
   go_ret;exact⟨rfl,(Below.refl _ _).alloc (J _) _⟩
  |false=>
   cases j:decide (255<dc) with
   |true=>
    rw[ON,OV,if_pos rfl]
    go_enter OL,OI
    go_wp2
    go_ret;exact⟨rfl,(Below.refl _ _).alloc (J _) _⟩
   |false=>
    cases C:(dc==128) with
    |true=>
     rw[ON,ON,if_pos rfl]
     go_enter OL,OI
     go_wp2
     go_ret;exact⟨rfl,(Below.refl _ _).alloc (J _) _⟩
    |false=>
     rw[ON,ON,if_neg (by decide),if_neg (by decide)]
     go_enter OL,OI
     go_wp2
     go_ret;exact⟨rfl,(Below.refl _ _).alloc (J _) _⟩
 |false=>
  rw[Oc,Bool.not_false,Oq,if_neg (by decide)]
  cases B:(dc !=0) with
  |true=>
   rw[OV,if_pos rfl]
   go_enter OL,OI
   go_wp2
   go_ret;exact⟨rfl,(Below.refl _ _).alloc (J _) _⟩
  |false=>
   rw[ON];rcases Nat.eq_zero_or_pos n with rfl|D
   ·rw[if_pos (show ((0:Nat)==0)=true from rfl)]
    go_enter OL,OI
    go_wp2
    go_ret;exact⟨rfl,(Below.refl _ _).alloc (J _) _⟩
   ·have j:(n==0)=false:=by simp;omega
    have C:((n:Int)==0)=false:=(by simp;omega);rw[j,if_neg (by decide)]
    go_enter OL,OI
    go_wp2
    go_ret;exact⟨rfl,(Below.refl _ _).alloc (J _) _⟩
theorem zk (dc:Int)(l:List (Int×Int))(A:Option Addr)(n c:Nat)(intra:Bool)(w:World)(hS:Sl w A (av bj l))(hn:Y l=n)(hsz:n<=1099511627776):Calls X 177 #[rB dc A n c intra] w λe w'=>e=OJ (U O (cI l (eB intra)))/\Below w.heap.size w w':=by
 have T:eB intra=0\/eB intra=1:=by cases intra;exact .inl rfl;exact .inr rfl
 have C1:=Z (λW=>zj dc A n c intra W);have C2:=Z (λW hW=>zY l A n c (eB intra) T W hW hn hsz);have HS:=Z hS;unfold rB at C1⊢;generalize eB intra=fr at*;obtain⟨sp,aB⟩:∃sp,cI l fr=sp:=⟨_,rfl⟩;rw[aB];clear hS T hn hsz
 go_enter Tryz.func177,Tryz.ntmps177
 go_wp2_with fail
 have C:ab (w.alloc (OH #[U O dc,OK A n c,V intra] 197)).drew w.heap.size 197 #[U O dc,OK A n c,V intra]:=(ab.new w _ _).drew1;have I:Below w.heap.size w (w.alloc (OH #[U O dc,OK A n c,V intra] 197)).drew:=((Below.refl w.heap.size w).alloc (J _) _).drew;have y0:=C.cell 0;have y1:=C.cell 1;have y2:=C.cell 2;have HL:=Z C;have HB:=Z I;have bE:=Z (HS.out.below I);clear C I;refine bf (λw'=>w'.cell? ⟨w.heap.size,0,none⟩=some (U O dc)/\w'.cell? ⟨w.heap.size,1,none⟩=some (OK A n c)/\w'.cell? ⟨w.heap.size,2,none⟩=some (V intra)) 10 (OO 0 (OO 1 (OO 2 (OO 3 (Ox 4 (Ox 5 (OO 6 (OO 7 (OO 8 (Ox 9 .done)))))))))) (⟨y0,y1,y2⟩) (λPE N=>?_)
 iterate 4
  refine aj (v:=?_) rfl (by rfl) ?_ ?_
  rotate_left
  ·intro _ D;(try dsimp only at D);obtain⟨s0,s1,s2⟩:=D;go_simp;(try with_reducible rfl)
  simp only[OA,OF,OE]
 refine aX (f:=216) rfl (by rfl) (by first|(go_simp;done)|(go_simp;rfl)) (C1.out _) ?_;rintro e w2 ⟨rfl,G⟩;have B:=HL.out.below G HL.out.lt;have M:=Z (HB.out.trans (G.mono HB.out.size));refine⟨_,rfl,_,λ_ h=>h,⟨B.cell 0,B.cell 1,B.cell 2⟩,?_⟩;simp only[OA,OF,OE];refine aX (f:=215) rfl (by rfl) (by first|(go_simp;done)|(go_simp;rfl)) (C2.out _ (bE.out.below G)) ?_;rintro e w3 ⟨v,rfl,K,_,_⟩;rw[aB];have j:=B.below K B.lt;have aC:=Z (M.out.trans (K.mono M.out.size));refine⟨_,rfl,_,λ_ h=>h,⟨j.cell 0,j.cell 1,j.cell 2⟩,?_⟩;simp only[OA,OF,OE]
 iterate 3
  refine aj (v:=?_) rfl (by rfl) ?_ ?_
  rotate_left
  ·intro _ D;(try dsimp only at D);go_simp;(try with_reducible rfl)
  simp only[OA,OF,OE]
 refine az (v:=?_) (w':=?_) rfl (by rfl) ?_ ?_ ?_;rotate_left 2
 ·go_simp;(try (constructor<;>with_reducible rfl))
 ·exact⟨j.cell 0,j.cell 1,j.cell 2⟩
 simp only[OA,OF,OE];refine N _ _ ?_;clear N PE;simp only[Og,On];clear G K B j y0 y1 y2;go_wp2_with fail
 refine⟨rfl,?_⟩;go_wp2_with fail
 go_ret;exact⟨rfl,aC.out⟩
theorem qJ (x:bH)(A:Option Addr)(n c:Nat)(intra:Bool)(w:World)(hS:Sl w A (av bj x.l))(hn:Y x.l=n)(hsz:n<=1099511627776):Calls X 130 #[OC #[U O x.dc,OK A n c],V intra] w λe w'=>e=OJ (U O (dl x intra))/\Below w.heap.size w w':=by
 have N:=Z (λW=>FN x.dc A n c intra W);have T:=Z (λW hW=>zk x.dc x.l A n c intra W hW hn hsz);have HS:=Z hS;rw[Hy,hn];clear hS hn hsz;obtain⟨dc,l⟩:=x;dsimp only at*;generalize Bb dc n intra=M at*;generalize cI l (eB intra)=sp at*;unfold rB at N T;have i0:∀W:World,(Instr.index 199 (OC #[.func (.func 176) #[OC #[U O dc,OK A n c,V intra]] #[],.func (.func 177) #[OC #[U O dc,OK A n c,V intra]] #[]]) (U O 0)).run X W= .ok (.func (.func 176) #[OC #[U O dc,OK A n c,V intra]] #[]) W:= λ_=>by kernel_rfl
 have i1:∀W:World,(Instr.index 199 (OC #[.func (.func 176) #[OC #[U O dc,OK A n c,V intra]] #[],.func (.func 177) #[OC #[U O dc,OK A n c,V intra]] #[]]) (U O 1)).run X W= .ok (.func (.func 177) #[OC #[U O dc,OK A n c,V intra]] #[]) W:= λ_=>by kernel_rfl
 go_enter Tryz.func130,Tryz.ntmps130
 go_wp2_with fail
 go_loopg [17] 2 (λg i=> λwr=>∃j:Nat,j+g=2/\i=U O (j:Int)/\Hid ((1<=j->M=0)/\(2<=j->sp=0)/\Below w.heap.size w wr))
 case atStart=>exact⟨0,by omega,rfl,Z ⟨by omega,by omega,((Below.refl _ _).alloc (J _) _).alloc (by simp) _⟩⟩
 case round=>
  obtain⟨j,hj,rfl,D⟩:=hrel;have aB:j=0\/j=1\/j=2:=(by omega);rcases aB with rfl|rfl|rfl
  ·cases hd:(M==0) with
   |true=>
    have HD:=Z (show M=0 by simpa using hd);have G:(M !=0)=false:=(by rw[bne,hd];rfl);go_wp2_with (go_at_call 176;refine(N.out _).mono ?_;rintro e w2 ⟨rfl,B⟩;have C:=Z B;clear B)
    go_roundg 1
    case measure=>omega
    case rel=>exact⟨1,by omega,rfl,Z ⟨λ_=>HD.out,by omega,D.out.2.2.trans (C.out.mono D.out.2.2.size)⟩⟩
   |false=>
    have G:(M !=0)=true:=(by rw[bne,hd];rfl);go_wp2_with (go_at_call 176;refine(N.out _).mono ?_;rintro e w2 ⟨rfl,B⟩;have C:=Z B;clear B)
    go_ret;exact⟨rfl,D.out.2.2.trans (C.out.mono D.out.2.2.size)⟩
  ·have I:=D.out.1 (by omega)
   subst I;have K:=Z (HS.out.below D.out.2.2)
   cases hd:(sp==0) with
   |true=>
    have HD:=Z (show sp=0 by simpa using hd);have G:(sp !=0)=false:=(by rw[bne,hd];rfl);go_wp2_with (go_at_call 177;refine(T.out _ K.out).mono ?_;rintro e w2 ⟨rfl,B⟩;have C:=Z B;clear B)
    go_roundg 0
    case measure=>omega
    case rel=>exact⟨2,by omega,rfl,Z ⟨λ_=>trivial,λ_=>HD.out,D.out.2.2.trans (C.out.mono D.out.2.2.size)⟩⟩
   |false=>
    have G:(sp !=0)=true:=(by rw[bne,hd];rfl);go_wp2_with (go_at_call 177;refine(T.out _ K.out).mono ?_;rintro e w2 ⟨rfl,B⟩;have C:=Z B;clear B)
    go_ret;exact⟨rfl,D.out.2.2.trans (C.out.mono D.out.2.2.size)⟩
  ·have I:=D.out.1 (by omega)
   have aC:=D.out.2.1 (by omega);subst I aC;go_wp2_with fail
   go_ret;exact⟨rfl,D.out.2.2⟩
end Go.Proofs.YthhijgcfbjcgiaaGreatDoor
