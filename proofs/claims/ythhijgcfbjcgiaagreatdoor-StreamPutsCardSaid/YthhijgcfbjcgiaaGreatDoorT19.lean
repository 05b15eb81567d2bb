/- Kind, Scan, ScanP, Spread, Blk1 -/
import Derived.Test.YthhijgcfbjcgiaaGreatDoorT18
import Derived.Great.BuildSlice
namespace Go.Proofs.YthhijgcfbjcgiaaGreatDoor
open Go Go.RowKit
attribute [local go_sem] Oper.semAt_some
set_option maxHeartbeats 16000000
set_option maxRecDepth 100000
open Go.IntKind renaming i64→O,wrap_i64→OM,i64→OQ
open Go.Value renaming int→U,bool→V,string→OB,agg→OC,slice→OK
open Go.Lib renaming hid→Z
open List renaming length→Y,setIfInBounds_toArray→OA,range→OD,set_cons_succ→OE,set_cons_zero→OF,getElem?_eq_getElem→OG,append_toArray→OP,length_append→OR,getD_eq_getElem?_getD→OS,push_toArray→OT,size_toArray→OU,cons_append→OW,prefix_iff_eq_take→OX,length_nil→OY,nil_append→OZ,take_range→Oa,getElem?_toArray→Od,drop_succ_cons→Og,length_cons→Ol,range_succ→Om,drop_zero→On,replicate→Oo
open Tryz renaming prog→X,ntmps176→OI,func176→OL,ntmps250→Of,func250→Oh,underlying272→Oi,ntmps216→Ou,func216→Ov,func286→Ow
open Nat renaming le_refl→J,min_eq_left→Ob,reduceSub→Oe,reduceAdd→Ot
open Go.Obj renaming cells→OH
open Go.Ending renaming returned→OJ
open Bool renaming false_or→ON,true_or→OV,false_and→Oc,true_and→Oq
open Go.Proofs.YthhijgcfbjcgiaaGreatDoor.bY renaming take→OO,step→Ox
open Int renaming toNat_natCast→Oj
def qo (k:Int):List Value:=[V (pI k),V (pQ k),V (pV k),V (pF k),V (pC k)]
def fB (j:Nat):List Value:=OB ⟨(aD.getD j []).toArray⟩::qo ((j:Int)+1)
def iD:Array Value:= #[OB ⟨#[48,48,48,49]⟩,V true,V false,V false,V false,V false,OB ⟨#[48,48,48,48,48,48,49]⟩,V true,V true,V false,V false,V false,OB ⟨#[49]⟩,V false,V false,V false,V false,V true,OB ⟨#[48,48,48,48,49]⟩,V false,V true,V false,V false,V true,OB ⟨#[48,48,48,48,48,48,48,48,49]⟩,V false,V false,V true,V false,V false,OB ⟨#[48,48,48,48,48,48,48,49]⟩,V false,V false,V true,V false,V true,OB ⟨#[48,48,48,48,48,48,48,48,48,49]⟩,V false,V true,V true,V false,V true,OB ⟨#[48,48,49]⟩,V false,V false,V true,V true,V false,OB ⟨#[48,49]⟩,V false,V false,V true,V true,V true,OB ⟨#[48,48,48,48,48,49]⟩,V false,V true,V true,V true,V true]
def Kq:Value->Int
 |U _ n=>n
 |_=>0
def Gi:List Value:=[V false,V false,V false,V false,V false]
theorem Iz (W:World):(Instr.index 222 (OC iD) (U O 0)).run X W= .ok (OC (fB 0).toArray) W:=by kernel_rfl
theorem IA (W:World):(Instr.index 222 (OC iD) (U O 1)).run X W= .ok (OC (fB 1).toArray) W:=by kernel_rfl
theorem IB (W:World):(Instr.index 222 (OC iD) (U O 2)).run X W= .ok (OC (fB 2).toArray) W:=by kernel_rfl
theorem IC (W:World):(Instr.index 222 (OC iD) (U O 3)).run X W= .ok (OC (fB 3).toArray) W:=by kernel_rfl
theorem ID (W:World):(Instr.index 222 (OC iD) (U O 4)).run X W= .ok (OC (fB 4).toArray) W:=by kernel_rfl
theorem IF (W:World):(Instr.index 222 (OC iD) (U O 5)).run X W= .ok (OC (fB 5).toArray) W:=by kernel_rfl
theorem IG (W:World):(Instr.index 222 (OC iD) (U O 6)).run X W= .ok (OC (fB 6).toArray) W:=by kernel_rfl
theorem IH (W:World):(Instr.index 222 (OC iD) (U O 7)).run X W= .ok (OC (fB 7).toArray) W:=by kernel_rfl
theorem II (W:World):(Instr.index 222 (OC iD) (U O 8)).run X W= .ok (OC (fB 8).toArray) W:=by kernel_rfl
theorem IJ (W:World):(Instr.index 222 (OC iD) (U O 9)).run X W= .ok (OC (fB 9).toArray) W:=by kernel_rfl
theorem JE:∀(j:Nat),j<10->∀W:World,(Instr.index 222 (OC iD) (U O (j:Int))).run X W= .ok (OC (fB j).toArray) W:=by
 intro j B W;have e:j=0\/j=1\/j=2\/j=3\/j=4\/j=5\/j=6\/j=7\/j=8\/j=9:=by omega
 rcases e with rfl|rfl|rfl|rfl|rfl|rfl|rfl|rfl|rfl|rfl
 ·exact Iz W
 ·exact IA W
 ·exact IB W
 ·exact IC W
 ·exact ID W
 ·exact IF W
 ·exact IG W
 ·exact IH W
 ·exact II W
 ·exact IJ W
theorem oQ {B g:Nat}{C w:World}(j:Below B C w)(D:B<=g)(cs:Array Value):Below B C (w.setRow g cs):=
 ⟨j.os,j.tape,j.output,by rw[size_setRow];exact j.size,λk G=>(setRow_other w g k cs (by omega)).trans (j.block k G)⟩
def s7:Array Value:= #[OB ⟨#[]⟩,V false,V false,V false,V false,V false,OB ⟨#[]⟩,V false,V false,V false,V false,V false,OB ⟨#[]⟩,V false,V false,V false,V false,V false,OB ⟨#[]⟩,V false,V false,V false,V false,V false,OB ⟨#[]⟩,V false,V false,V false,V false,V false,OB ⟨#[]⟩,V false,V false,V false,V false,V false,OB ⟨#[]⟩,V false,V false,V false,V false,V false,OB ⟨#[]⟩,V false,V false,V false,V false,V false,OB ⟨#[]⟩,V false,V false,V false,V false,V false,OB ⟨#[]⟩,V false,V false,V false,V false,V false]
theorem Cb (w:World):Calls X 200 #[] w λe w'=>e=OJ (OC iD)/\Below w.heap.size w w':=by
 have D:(w.alloc (OH s7 222)).heap[w.heap.size]? =some (OH s7 222 (0,0)):=heap_alloc_new w _;have C:=Z D;clear D
 go_enter Tryz.func200,Tryz.ntmps200
 go_wp2_with (refine wpList_store_rowTo rfl 222 _ _ rfl rfl w.heap.size iD rfl rfl 222 s7 C.out rfl rfl (by kernel_rfl) ?_)
 have j:=C.out;have B:Below w.heap.size w (w.alloc (OH s7 222)):=(Below.refl _ _).alloc (J _) _;refine bodyPost_ret (results_cell_row rfl _ _ w.heap.size 222 iD (0,0) _ rfl (setRow_heap _ _ s7 iD _ _ j) Tryz.underlying222 rfl (by kernel_rfl)) rfl ⟨rfl,?_⟩;exact oQ B (J _) iD
theorem xr (w:World):Calls X 156 #[] w λe w'=>e=OJ (.func (.func 199) #[] #[])/\w=w':=by
 go_enter Tryz.func156,Tryz.ntmps156
 go_wp2
 go_ret;exact⟨rfl,rfl⟩
def tq (j:Nat):Array Value:= #[U O ((j:Int)+1),OC (fB j).toArray]
theorem AW (j:Nat):tq j= #[U O ((j:Int)+1),OC #[OB (bs (aD.getD j [])),V (pI ((j:Int)+1)),V (pQ ((j:Int)+1)),V (pV ((j:Int)+1)),V (pF ((j:Int)+1)),V (pC ((j:Int)+1))]]:=rfl
theorem uM {n:Nat}{pre:List Nat}{x:Nat}(h:pre++[x]<+:OD n):pre=OD (Y pre)/\x=Y pre/\Y pre<n:=by
 have j:=h.length_le;rw[List.length_range] at j;simp at j;have h2:pre<+:OD n:=(List.prefix_append _ _).trans h;have B:=OX.1 h2;rw[Oa,Ob (by omega)] at B;refine⟨B,?_,by omega⟩;have C:=OX.1 h;rw[Oa,OR,Ob (by simp;omega)] at C;have D:(pre++[x])[Y pre]? =(OD (Y pre+[x].length))[Y pre]? :=by rw[<-C]
 simpa [List.getElem?_range] using D
theorem Cz (n k:Nat)(h:k<n):OD k++[k]<+:OD n:=by
 have e:OD k++[k]=(OD n).take (k+1):=by rw[Oa,Ob (by omega),Om]
 rw[e];exact List.take_prefix _ _
theorem xq (n:Nat)(hn:1<=n)(I:List Nat->World->Prop)(hI:∀pre A B,I pre A->Below A.heap.size A B->I pre B):
  tc Fence.wide n X 199 #[] tq I I (λxs=>xs=OD 10) (λpre=>pre<+:OD 10):=by
 intro lp K Jx W hK hY h0 dy;refine callsIn_of_wp Tryz.func199 rfl trivial ?_ rfl;simp only[Tryz.ntmps199,OU,Ol,OY,Ot,Oe,Array.replicate_succ,Array.replicate_zero,OT,OP,OZ,OW];have HY:=Z hY;have HI:=Z hI;have HK:=Z hK;have H0:=Z h0;have rG:=Z dy;clear hY hI hK h0 dy;obtain⟨TB,M⟩:∃TB,TB=iD:=⟨_,rfl⟩;have dv:∀(j:Nat),j<10->∀W:World,(Instr.index 222 (OC TB) (U O (j:Int))).run X W= .ok (OC (fB j).toArray) W:=by rw[M];exact JE
 have kU:=Z dv;have CT:=Z (λW=>Cb W);rw[<-M] at CT;clear dv M;gi_wp2_with (refine⟨trivial,?_⟩;gi_at_call 200;refine(callsIn_wide.2 (CT.out _)).mono ?_;rintro e w1 ⟨rfl,cI⟩;have T:=Z cI;clear cI)
 gi_loopw [5] (λv wr=>∃j:Nat,v=U O (j:Int)/\j<=10/\Hid (I (OD j) wr)/\Hid (K wr)) (λv _=>10 - (Kq v).toNat)
 case atStart=>
  exact⟨0,rfl,by omega,Z (HI.out _ _ _ H0.out T.out),Z (HK.out.below rG.out T.out)⟩
 case round=>
  obtain⟨j,rfl,hj,aJ,bM⟩:=hrel
  by_cases dO:j<10
  ·have K3:(j:Int)<10:=by omega
   have K4:¬((j:Int)<0):=(by omega);have K5:OQ.wrap ((j:Int)+1)=(j:Int)+1:=(by rw[OM];omega);have ix:=kU.out j dO;have G:OD j++[j]<+:OD 10:=Cz 10 j dO;obtain⟨sc,jY⟩:∃sc,sc=(aD.getD j []):=⟨_,rfl⟩;obtain⟨p1,eE⟩:∃p,p=pI ((j:Int)+1):=⟨_,rfl⟩;obtain⟨p2,fJ⟩:∃p,p=pQ ((j:Int)+1):=⟨_,rfl⟩;obtain⟨p3,gj⟩:∃p,p=pV ((j:Int)+1):=⟨_,rfl⟩;obtain⟨p4,iP⟩:∃p,p=pF ((j:Int)+1):=⟨_,rfl⟩;obtain⟨p5,jg⟩:∃p,p=pC ((j:Int)+1):=⟨_,rfl⟩;have C:fB j=[OB ⟨sc.toArray⟩,V p1,V p2,V p3,V p4,V p5]:=(by rw[jY,eE,fJ,gj,iP,jg];rfl);have D:tq j= #[U O ((j:Int)+1),OC #[OB ⟨sc.toArray⟩,V p1,V p2,V p3,V p4,V p5]]:=(by unfold tq;rw[C]);rw[C] at ix;have N:= λW1 (h1:I (OD j) W1) (h2:K W1)=>HY.out (OD j) j W1 h1 h2 G;rw[D] at N;have av:Hid (Below wr.heap.size wr (wr.alloc (OH #[OB ⟨sc.toArray⟩,V p1,V p2,V p3,V p4,V p5] 184))):=Z ((Below.refl _ _).alloc (J _) _);obtain⟨fn,tmps,kA,K0,hy,hR⟩:=N _ (HI.out _ _ _ aJ.out av.out) (HK.out.below bM.out av.out);have HR:=Z hR;have Hl:=Z G;clear hR N D C G jY eE fJ gj iP jg hj;gi_wp2_with fail
   refine HR.out.mono ?_;rintro e W3 (⟨rfl,Ht,JT⟩|⟨rfl,cE⟩)
   ·gi_wp2_with fail
    refine⟨⟨j+1,by simp,by omega,Z (by rw[Om];exact Ht),Z JT⟩,?_⟩;show 10 - ((j:Int)+1).toNat<10 - (j:Int).toNat;omega
   ·gi_wp2_with fail
    refine bodyPost_ret (results_none rfl _ _ _) rfl ?_;exact⟨⟨_,rfl⟩,.inr ⟨_,Hl.out,cE⟩⟩
  ·have Hu:j=10:=by omega
   subst Hu;gi_wp2_with fail
   refine bodyPost_end (results_none rfl _ _ _) rfl ?_;exact⟨⟨_,rfl⟩,.inl ⟨_,rfl,aJ.out,bM.out⟩⟩
theorem Dr {F:Fence}{n:Nat}{P:Program}{c:Code}{Q:Exit->Act->World->Prop}{a:Act}{w:World}(av:F.round=none)(h:c.wpIn F n P (Exit.noGoto Q) a w):(Code.scope c).wpIn F n P Q a w:=by
 intro b k cs K N T;have D:b.roundOf=none:=K.trans av;obtain⟨e,j,B,G,C⟩:=h b (.inScope c::k) cs K N T;have I:(lone (b.atR a (.code (.scope c)::k)) cs w).fenced P F:=fenced_calm N T rfl;have M:step P (lone (b.atR a (.code (.scope c)::k)) cs w)= .next (lone (b.atR a (.code c:: .inScope c::k)) cs w):=by rw[Frame.atR_of_none D,Frame.atR_of_none D];exact step_scope
 cases e with
 |normal=>
  have s2:step P (lone (b.atR j (.inScope c::k)) cs B)= .next (lone (b.atR j k) cs B):=(by rw[Frame.atR_of_none D,Frame.atR_of_none D];exact step_inScope);exact⟨.normal,j,B,G,.head I M (StepsIn.trans C (.one (fenced_calm N T rfl) s2))⟩
 |exit id=>exact⟨.exit id,j,B,G,⟨λk' hk=> .head I M (C.1 k' (by simp[exitTo,hk])),λh=>by rw[D] at h;cases h⟩⟩
 |goto l=>exact G.elim
 |ret=>exact⟨_,j,B,G,.of_steps (.one I M) C⟩
 |panic ch=>exact⟨_,j,B,G,.of_steps (.one I M) C⟩
 |outgrown=>exact⟨_,j,B,G,.of_steps (.one I M) C⟩
def vv (d i:Nat):Int:=if d % 2=1 then 7 - (i:Int) else i
def hF (d i:Nat):Int:=(d:Int) - vv d i
def fQ (d i:Nat):Bool:=decide (7<hF d i)||decide (hF d i<0)
def kQ (d i:Nat):Bool:=(d % 2==0&&hF d i==0)||(d % 2==1&&vv d i==0)
def kj (d:Nat):Nat->List Int
 |0=>[]
 |g+1=>if fQ d (7 - g) then kj d g else(8*hF d (7 - g)+vv d (7 - g))::(if kQ d (7 - g) then[] else kj d g)
def qb:Nat->List Int
 |0=>[]
 |g+1=>kj (14 - g) 8++qb g
def jR:List Int:=qb 15
theorem kl:Y jR=64:=by kernel_rfl
theorem Fb:∀k∈jR,0<=k/\k<=63:=by decide+kernel
def J9:Value->Int
 |U _ n=>n
 |_=>0
theorem fb (d i:Nat)(h:i<8):kj d (8 - i)=if fQ d i then kj d (8 - (i+1)) else(8*hF d i+vv d i)::(if kQ d i then[] else kj d (8 - (i+1))):=by
 obtain⟨g,j⟩:∃g,8 - i=g+1:=⟨7 - i,by omega⟩;rw[j,kj,show 7 - g=i by omega,show 8 - (i+1)=g by omega]
theorem GQ (d:Nat)(h:d<15):qb (15 - d)=kj d 8++qb (15 - (d+1)):=by
 obtain⟨g,j⟩:∃g,15 - d=g+1:=⟨14 - d,by omega⟩;rw[j,qb,show 14 - g=d by omega,show 15 - (d+1)=g by omega]
theorem Dg (w:World):Calls X 274 #[] w λe w'=>e=OJ (.func (.func 286) #[] #[])/\w=w':=by
 go_enter Tryz.func274,Tryz.ntmps274
 go_wp2
 go_ret;exact⟨rfl,rfl⟩
theorem Ej (n:Nat)(hn:1<=n)(I:List Int->World->Prop):
  tc Fence.wide n X 286 #[] (λx:Int=> #[U O x]) I I (λxs=>xs=jR) (λpre=>pre<+:jR):=by
 intro lp K Jx W hK hY h0 jY;refine callsIn_of_wp Ow rfl trivial ?_ rfl;simp only[Tryz.ntmps286,OU,Ol,OY,Ot,Oe,Array.replicate_succ,Array.replicate_zero,OT,OP,OZ,OW];have HY:=Z hY;have H0:=Z h0;have Hl:=Z jY;clear hY hK h0 jY;gi_wp2_with fail
 refine Dr rfl ?_;gi_wp2_with fail
 refine wpIn_label ?_;gi_wp2_with fail
 gi_loopw [6] (λv6 wr=>∃(d:Nat)(pre:List Int),v6=U O (d:Int)/\d<=15/\Hid (jR=pre++qb (15 - d))/\Hid (I pre wr)/\Hid (K wr)) (λv6 _=>15 - (J9 v6).toNat)
 case atStart=>exact⟨0,[],rfl,by omega,Z rfl,H0,Hl⟩
 case round=>
  obtain⟨d,dv,rfl,hd,HD,dy,dO⟩:=hrel
  by_cases Hu:d<15
  ·have K4:(d:Int)<15:=by omega
   have rG:=Z (show jR=dv++(kj d (8 - 0)++qb (15 - (d+1))) by rw[HD.out,GQ d Hu]);clear HD;obtain⟨wo,kU⟩:∃wo:World,wo=wr:=⟨_,rfl⟩;rw[<-kU] at dy dO⊢;clear kU;gi_wp2_with fail
   gi_loopw [9] (λv9 wr=>∃(i:Nat)(pre:List Int),v9=U O (i:Int)/\i<=8/\Hid (jR=pre++(kj d (8 - i)++qb (15 - (d+1))))/\Hid (I pre wr)/\Hid (K wr)) (λv9 _=>8 - (J9 v9).toNat)
   case atStart=>exact⟨0,dv,rfl,by omega,rG,dy,dO⟩
   case round=>
    obtain⟨i,pre,rfl,hi,HF,G,M⟩:=hrel
    by_cases B:i<8
    ·have K5:(i:Int)<8:=by omega
     have K8:(0:Int)<=(d:Int):=by omega
     by_cases K6:d % 2=1
     ·have kA:((d:Int) % 2==1)=true:=by rw[beq_iff_eq];omega
      have gj:((d:Int) % 2==0)=false:=(by rw[beq_eq_false_iff_ne];omega);have hX:vv d i=(7 - (i:Int)):=(by unfold vv;rw[if_pos (by omega)]);have hS:kQ d i=((7 - (i:Int))==0):=(by unfold kQ hF;rw[hX];simp[show d % 2=1 by omega]);have C:=Z hX;clear hX
      by_cases h7:7<((d:Int) - (7 - (i:Int)))
      ·have d7:decide (7<((d:Int) - (7 - (i:Int))))=true:=decide_eq_true h7
       have j:=Z (show fQ d i=true by unfold fQ hF;rw[C.out,d7];rfl);clear h7 hS;gi_wp2_with fail
       refine⟨⟨i+1,pre,by simp,by omega,Z (by have h:=HF.out;rw[fb d i B,j.out] at h;exact h),G,M⟩,?_⟩;show 8 - ((i:Int)+1).toNat<8 - (i:Int).toNat;omega
      ·have d7:decide (7<((d:Int) - (7 - (i:Int))))=false:=decide_eq_false h7
       by_cases h0:((d:Int) - (7 - (i:Int)))<0
       ·have d0:decide (((d:Int) - (7 - (i:Int)))<0)=true:=decide_eq_true h0
        have j:=Z (show fQ d i=true by unfold fQ hF;rw[C.out,d7,d0];rfl);clear h7 h0 hS;gi_wp2_with fail
        refine⟨⟨i+1,pre,by simp,by omega,Z (by have h:=HF.out;rw[fb d i B,j.out] at h;exact h),G,M⟩,?_⟩;show 8 - ((i:Int)+1).toNat<8 - (i:Int).toNat;omega
       ·have d0:decide (((d:Int) - (7 - (i:Int)))<0)=false:=decide_eq_false h0
        have j:=Z (show fQ d i=false by unfold fQ hF;rw[C.out,d7,d0];rfl);have K0:0<=((d:Int) - (7 - (i:Int))):=(by omega);have K3:((d:Int) - (7 - (i:Int)))<=7:=by omega
        have T:pre++[8*((d:Int) - (7 - (i:Int)))+(7 - (i:Int))]<+:jR:=by
         have h:=HF.out;rw[fb d i B,j.out,C.out,show hF d i=((d:Int) - (7 - (i:Int))) by unfold hF;rw[C.out]] at h;rw[h];exact⟨(if kQ d i=true then[] else kj d (8 - (i+1)))++qb (15 - (d+1)),by simp⟩
        obtain⟨fn,tmps,eE,jg,iP,hR⟩:=HY.out pre (8*((d:Int) - (7 - (i:Int)))+(7 - (i:Int))) wr G.out M.out T;have HR:=Z hR;have fJ:=Z T;have HS:=Z hS;clear hR T h7 h0 hS;gi_wp2_with fail
        refine HR.out.mono ?_;rintro e W3 (⟨rfl,bM,cI⟩|⟨rfl,cE⟩)
        ·have av:=Z bM;have aJ:=Z cI
         clear bM cI iP
         by_cases D:((7 - (i:Int))==0)=true
         ·have N:=Z (HS.out.trans D)
          gi_wp2_with fail
          refine⟨⟨d+1,pre++[8*((d:Int) - (7 - (i:Int)))+(7 - (i:Int))],by simp,by omega,Z ?_,av,aJ⟩,?_⟩
          ·have h:=HF.out
           rw[fb d i B,j.out,C.out,N.out,show hF d i=((d:Int) - (7 - (i:Int))) by unfold hF;rw[C.out]] at h;rw[h];simp
          ·show 15 - ((d:Int)+1).toNat<15 - (d:Int).toNat
           omega
         ·have D:((7 - (i:Int))==0)=false:=by simpa using D
          have N:=Z (HS.out.trans D);gi_wp2_with fail
          refine⟨⟨i+1,pre++[8*((d:Int) - (7 - (i:Int)))+(7 - (i:Int))],by simp,by omega,Z ?_,av,aJ⟩,?_⟩
          ·have h:=HF.out
           rw[fb d i B,j.out,C.out,N.out,show hF d i=((d:Int) - (7 - (i:Int))) by unfold hF;rw[C.out]] at h;rw[h];simp
          ·show 8 - ((i:Int)+1).toNat<8 - (i:Int).toNat
           omega
        ·gi_wp2_with fail
         rw[Exit.noGoto_ret];refine bodyPost_ret (results_none rfl _ _ _) rfl ?_;exact⟨⟨_,rfl⟩,.inr ⟨_,fJ.out,cE⟩⟩
     ·have kA:((d:Int) % 2==1)=false:=by rw[beq_eq_false_iff_ne];omega
      have gj:((d:Int) % 2==0)=true:=(by rw[beq_iff_eq];omega);have hX:vv d i=(i:Int):=(by unfold vv;rw[if_neg (by omega)]);have hS:kQ d i=((d:Int) - (i:Int)==0):=(by unfold kQ hF;rw[hX];simp[show d % 2=0 by omega]);have C:=Z hX;clear hX
      by_cases h7:7<((d:Int) - (i:Int))
      ·have d7:decide (7<((d:Int) - (i:Int)))=true:=decide_eq_true h7
       have j:=Z (show fQ d i=true by unfold fQ hF;rw[C.out,d7];rfl);clear h7 hS;gi_wp2_with fail
       refine⟨⟨i+1,pre,by simp,by omega,Z (by have h:=HF.out;rw[fb d i B,j.out] at h;exact h),G,M⟩,?_⟩;show 8 - ((i:Int)+1).toNat<8 - (i:Int).toNat;omega
      ·have d7:decide (7<((d:Int) - (i:Int)))=false:=decide_eq_false h7
       by_cases h0:((d:Int) - (i:Int))<0
       ·have d0:decide (((d:Int) - (i:Int))<0)=true:=decide_eq_true h0
        have j:=Z (show fQ d i=true by unfold fQ hF;rw[C.out,d7,d0];rfl);clear h7 h0 hS;gi_wp2_with fail
        refine⟨⟨i+1,pre,by simp,by omega,Z (by have h:=HF.out;rw[fb d i B,j.out] at h;exact h),G,M⟩,?_⟩;show 8 - ((i:Int)+1).toNat<8 - (i:Int).toNat;omega
       ·have d0:decide (((d:Int) - (i:Int))<0)=false:=decide_eq_false h0
        have j:=Z (show fQ d i=false by unfold fQ hF;rw[C.out,d7,d0];rfl);have K0:0<=((d:Int) - (i:Int)):=(by omega);have K3:((d:Int) - (i:Int))<=7:=by omega
        have T:pre++[8*((d:Int) - (i:Int))+(i:Int)]<+:jR:=by
         have h:=HF.out;rw[fb d i B,j.out,C.out,show hF d i=((d:Int) - (i:Int)) by unfold hF;rw[C.out]] at h;rw[h];exact⟨(if kQ d i=true then[] else kj d (8 - (i+1)))++qb (15 - (d+1)),by simp⟩
        obtain⟨fn,tmps,eE,jg,iP,hR⟩:=HY.out pre (8*((d:Int) - (i:Int))+(i:Int)) wr G.out M.out T;have HR:=Z hR;have fJ:=Z T;have HS:=Z hS;clear hR T h7 h0 hS;gi_wp2_with fail
        refine HR.out.mono ?_;rintro e W3 (⟨rfl,bM,cI⟩|⟨rfl,cE⟩)
        ·have av:=Z bM;have aJ:=Z cI
         clear bM cI iP
         by_cases D:((d:Int) - (i:Int)==0)=true
         ·have N:=Z (HS.out.trans D)
          gi_wp2_with fail
          refine⟨⟨d+1,pre++[8*((d:Int) - (i:Int))+(i:Int)],by simp,by omega,Z ?_,av,aJ⟩,?_⟩
          ·have h:=HF.out
           rw[fb d i B,j.out,C.out,N.out,show hF d i=((d:Int) - (i:Int)) by unfold hF;rw[C.out]] at h;rw[h];simp
          ·show 15 - ((d:Int)+1).toNat<15 - (d:Int).toNat
           omega
         ·have D:((d:Int) - (i:Int)==0)=false:=by simpa using D
          have N:=Z (HS.out.trans D);gi_wp2_with fail
          refine⟨⟨i+1,pre++[8*((d:Int) - (i:Int))+(i:Int)],by simp,by omega,Z ?_,av,aJ⟩,?_⟩
          ·have h:=HF.out
           rw[fb d i B,j.out,C.out,N.out,show hF d i=((d:Int) - (i:Int)) by unfold hF;rw[C.out]] at h;rw[h];simp
          ·show 8 - ((i:Int)+1).toNat<8 - (i:Int).toNat
           omega
        ·gi_wp2_with fail
         rw[Exit.noGoto_ret];refine bodyPost_ret (results_none rfl _ _ _) rfl ?_;exact⟨⟨_,rfl⟩,.inr ⟨_,fJ.out,cE⟩⟩
    ·have JT:i=8:=by omega
     subst JT;gi_wp2_with fail
     refine⟨⟨d+1,pre,by simp,by omega,Z (by have h:=HF.out;rw[show kj d (8 - 8)=[] from rfl] at h;simpa using h),G,M⟩,?_⟩;show 15 - ((d:Int)+1).toNat<15 - (d:Int).toNat;omega
  ·have Ht:d=15:=by omega
   subst Ht;gi_wp2_with fail
   rw[Exit.noGoto_normal];refine bodyPost_end (results_none rfl _ _ _) rfl ?_;have he:jR=dv:=(by have h:=HD.out;rw[show qb (15 - 15)=[] from rfl] at h;simpa using h);exact⟨⟨_,rfl⟩,.inl (by first|exact⟨_,he.symm,dy.out,dO.out⟩|exact⟨by rw[he];exact dy.out,dO.out⟩)⟩
def kR (pre:List Int):List Value:=pre.map aH++Oo (64 - Y pre) (aH 0)
theorem Fj {pre:List Int}(h:Y pre<=64):(kR pre).length=64:=by simp[kR];omega
theorem Fk {pre:List Int}(h:Y pre<64)(x:Int):(kR pre).set (Y pre) (aH x)=kR (pre++[x]):=by
 unfold kR;obtain⟨g,j⟩:∃g,64 - Y pre=g+1:=⟨63 - Y pre,by omega⟩;rw[j,List.replicate_succ,List.set_append_right _ _ (by simp)];simp[show 64 - (Y pre+1)=g by omega]
def lc:Array Value:=(jR.map aH).toArray
theorem wM:lc.size=64:=by simp[lc,kl]
theorem AS:lc.all (·.oneCell')=true:=by
 rw[Array.all_eq_true];intro i j;simp[lc,aH,Value.oneCell']
theorem G4 (k:Nat)(h:k<64):lc[k]? =some (U O (jR[k]'(by rw[kl];exact h))):=by
 simp[lc,kl,h,aH]
theorem jJ (n:Int)(w:World):Calls X 250 #[U O n] w λe w'=>e=OJ (V (decide (-127<=n)&&decide (n<=127)))/\w=w':=by
 cases a:decide (-127<=n) with
 |false=>
  simp only[Oc]
  go_enter Oh,Of
  go_wp2
  go_ret;exact⟨rfl,rfl⟩
 |true=>
  cases b:decide (n<=127) with
  |false=>
   simp only[Bool.and_false]
   go_enter Oh,Of
   go_wp2
   go_ret;exact⟨rfl,rfl⟩
  |true=>
   simp only[Bool.and_self]
   go_enter Oh,Of
   go_wp2
   go_ret;exact⟨rfl,rfl⟩
theorem zR (w:World):Calls X 249 #[] w λe w'=>e=OJ (OC lc)/\Below w.heap.size w w':=by
 obtain⟨j,N⟩:∃j,j=lc:=⟨_,rfl⟩;rw[<-N];have M:=Z N;clear N;refine(callsIn_wide (n:=5)).1 ?_;refine callsIn_of_wp_marks Tryz.func249 rfl trivial ?_ rfl;simp only[Tryz.ntmps249,OU,OY,Oe,Array.replicate_succ,Array.replicate_zero,OT,OP,OZ,OW];refine wpIn_wide.2 ?_;go_wp2_with (go_at_call 274;refine(Dg _).mono ?_;rintro e w' ⟨rfl,rfl⟩)
 refine(wpIn_wide (n:=5)).1 ?_
 refine sY (α:=Int) (enc:= λx=> #[U O x]) (I:=cS w (λ(pre:List Int) (_:Unit)=>(Y pre)<=64) (λpre _=>[(w.heap.size,272,(kR pre).toArray),(w.heap.size+1,3,#[U O (Y pre:Int)])]) (λ_ _=>[])) (I2:=cS w (λ(pre:List Int) (_:Unit)=>(Y pre)<=64) (λpre _=>[(w.heap.size,272,(kR pre).toArray),(w.heap.size+1,3,#[U O (Y pre:Int)])]) (λ_ _=>[])) (S:= λxs=>xs=jR) (Sp:= λpre=>pre<+:jR)
  rfl (by decide) (gf:=286) (lb:= #[]) rfl trivial (enters_of Ow (by kernel_rfl) rfl)
  (Ej 4 (by decide) _) (λ_=>rfl)
  (λ_ _ _=>False)
  (λpre _ _ W=>cS w (λ(pre:List Int) (_:Unit)=>(Y pre)<=64) (λpre _=>[(w.heap.size,272,(kR pre).toArray),(w.heap.size+1,3,#[U O (Y pre:Int)])]) (λ_ _=>[]) pre W)
  (bq (by simp;omega) _ _ _) (bq (by simp;omega) _ _ _) (λ_ _ _ _ _ h _ _=>h) (λx g=>bq (by simp;omega) _ _ _) ?start ?round ?done ?stop
 case start=>
  refine⟨⟨(),by simp,?_,?_,aF _⟩⟩
  ·exact((Below.refl _ _).alloc (J _) _).alloc (by simp) _
  ·refine aa.cons ?_ (aa.cons ?_ (ai _))
   ·exact(ab.new w 272 _).alloc _
   ·(repeat (first|(refine aE (ab.new _ _ _) ?_;simp[World.size_alloc];done)|refine ab.alloc ?_ _))
 case round=>
  apply Exists.intro;refine And.intro ?_ ?_
  ·rintro lp pre x W hI B
   clear B;gi_wp2
   obtain⟨g0,_⟩:∃g0:Nat,g0=0:=⟨_,rfl⟩;exact⟨⟨g0,rfl,hI⟩,KeepsFrom.refl _ _⟩
  ·rintro lp pre x g W ⟨⟨_,hu,C⟩⟩ B
   have hl:Y pre<64:=(by have:=B.length_le;rw[kl] at this;simp at this;omega);have cE:(Y pre:Int)<64:=(by omega);have bM:¬((Y pre:Int)<0):=(by omega);have cI:OQ.wrap ((Y pre:Int)+1)=(Y pre:Int)+1:=(by rw[OM];omega);have b0:=C.2.1.head;have b1:=C.2.1.tail.head;dsimp only at b0 b1;have x1:=b1.cell 0;have f1:=b1.frozen 0;obtain⟨v0,x0⟩:∃v0,W.cell? ⟨w.heap.size,Y pre,none⟩=some v0:=by rw[b0.cell,Od];exact⟨_,OG (by rw[Fj hu];exact hl)⟩
   have f0:=b0.frozen (Y pre);have HC:=Z C;have HL:=Z hl;have T:=Z (Fk hl x);clear C b0 b1 B hu;gi_wp2_with fail
   refine⟨aq (aq (KeepsFrom.refl _ _) _ _) _ _,trivial,⟨⟨(),?_,?_⟩⟩⟩
   ·have:=HL.out;rw[OR];simp;omega
   ·have h1:=gL HC.out (J _) (Y pre) (U O x) (by simp) (by simp)
    have h2:=gL (iK h1) (Nat.le_succ _) 0 (U O ((Y pre:Int)+1)) (by simp) (by simp);have h3:=iK h2;rw[OA,show (kR pre).set (Y pre) (Value.int O x)=kR (pre++[x]) from T.out] at h3;rw[OR];exact h3
 case done=>
  rintro D xs W hD rfl ⟨⟨_,hu,C⟩⟩ hK
  have hb:ab W w.heap.size 272 j:=by
   rw[M.out];have h:=C.2.1.head;dsimp only at h;rw[show kR jR=jR.map aH by simp[kR,kl]] at h;exact h
  have hsz:j.size=64:=(by rw[M.out];exact wM);have K:j.all (·.oneCell')=true:=(by rw[M.out];exact AS);have G:(X.info? 272).map (·.size)=some j.size:=(by rw[hsz];kernel_rfl);have HB:=Z hb;have av:=Z C.1;have HK:=Z hK;have HI:=Z G;have HO:=Z K;clear C hu hb hsz K G hK;gi_wp2_with fail
  go_wp2_with (first
   |(refine wpList_load_row rfl 272 _ rfl w.heap.size rfl 272 j (0,0) _ HB.out Oi rfl HI.out ?_)
   |(refine wpList_store_rowTo rfl 272 _ _ rfl rfl w.heap.size j rfl rfl 272 j HB.out HI.out rfl HO.out ?_))
  rw[setRow_self _ _ j 272 (0,0) HB.out];have aJ:ab (W.putObj D (.deferred none)) w.heap.size 272 j:=(cL (L:=[(w.heap.size,272,j)]) (o':= .deferred none) (aa.cons HB.out (ai _)) HK.out rfl).head;simp only[Act.put];exact eo HK.out (results_cell_row rfl _ _ w.heap.size 272 j (0,0) _ rfl aJ Oi rfl HI.out) ⟨rfl,cu av.out (by simp at hD;omega)⟩
 case stop=>
  rintro D cd pre W hD B h hK;exact h.elim
def bd (p:Int×Int):List Value:=[U O p.1,U O p.2]
theorem pE (p:Int×Int):(bd p).length=2:=rfl
theorem fH {w:World}{A:Option Addr}{l:List (Int×Int)}(h:Sl w A (az bd l))(i:Nat)(B:i<Y l):∃ad,A=some ad/\ad.block<w.heap.size/\w.cell? (ad.add (i*2))=some (U O l[i].1)/\w.cell? ⟨(ad.add (i*2)).block,(ad.add (i*2)).off+1,none⟩=some (U O l[i].2):=by
 have j:=iz pE l i B 0 (by decide);have D:=iz pE l i B 1 (by decide);rw[Nat.add_zero] at j;obtain⟨ad,rfl,hl,c0⟩:=h _ _ (j.trans rfl);obtain⟨C,e,_,c1⟩:=h _ _ (D.trans rfl)
 cases e
 rw[<-ij] at c1;exact⟨ad,rfl,hl,c0,c1⟩
def iZ (k:Nat):Int:=jR.getD k 0
theorem iT (k:Nat)(h:k<64):0<=iZ k/\iZ k<=63:=by
 have j:iZ k∈jR:=by unfold iZ;rw[OS,OG (by rw[kl];exact h)];exact List.getElem_mem _
 exact Fb _ j
theorem wL (k:Nat)(h:k<64):lc[k]? =some (U O (iZ k)):=by
 rw[G4 k h];unfold iZ;rw[OS,OG (by rw[kl];exact h)];rfl
def gE:List Int->List (Int×Int)->Int->List Int
 |B,[],_=>B
 |B,p::l,a=>gE (B.set (iZ (a+p.1).toNat).toNat p.2) l (a+p.1+1)
def cX:List Int:=Oo 64 0
def qt (l:List (Int×Int)) (j:Int):List Int:=gE cX l j
theorem kv (p:Int×Int)(l:List (Int×Int))(a:Int):bG (p::l) a=if p.2==0|| !(decide (-127<=p.2)&&decide (p.2<=127)) then 10 else if decide (p.1<0)||decide (63 - a<p.1) then 11 else bG l (a+p.1+1):=rfl
def AG (l:List (Int×Int)) (j:Int) (w:World) (e:Ending) (w':World):Prop:=∃v,e=OJ (.tuple #[v,U O (bG l j)])/\Below w.heap.size w w'/\
 (bG l j=0->∃b,v=OK (some ⟨b,0,none⟩) 64 64/\ab w' b 272 ((qt l j).map aH).toArray)/\(bG l j≠0->v=OK none 0 0)
theorem zQ (l:List (Int×Int))(A:Option Addr)(n c:Nat)(fr:Int)(Kw:fr=0\/fr=1)(w:World)(hS:Sl w A (az bd l))(hn:Y l=n)(hsz:n<=1099511627776):
  Calls X 215 #[OK A n c,U O fr] w (AG l fr w):=by
 obtain⟨E,hE⟩:∃E,bG l fr=E:=⟨_,rfl⟩;obtain⟨BL,fJ⟩:∃B,qt l fr=B:=⟨_,rfl⟩;unfold AG;rw[hE,fJ];have HE:=Z hE;have K8:=Z fJ;have HS:=Z hS;have HN:=Z hn;clear hE fJ hS hn;obtain⟨G,N⟩:∃G,G=lc:=⟨_,rfl⟩;have CP:=Z (λW=>zR W);rw[<-N] at CP;have av:G.size=64:=by rw[N];exact wM
 have dy:(X.info? 272).map (·.size)=some G.size:=by rw[av];kernel_rfl
 have HI:=Z dy;have HO:=Z (show G.all (·.oneCell')=true by rw[N];exact AS);have Kv:=Z av;have K9:=Z N;clear av dy N;have hz:ab (w.alloc (OH (cX.map aH).toArray 272)) w.heap.size 272 (cX.map aH).toArray:=ab.new _ _ _;have HZ:=Z hz;clear hz;rcases Kw with rfl|rfl
 all_goals
  go_enter Tryz.func215,Tryz.ntmps215
  go_wp2_with (first
   |(go_at_call 249;refine(CP.out _).mono ?_;rintro e D ⟨rfl,jY⟩;have eE:=Z jY;have bM:=Z (HZ.out.below jY HZ.out.lt);clear jY)
   |(refine wpList_store_rowTo rfl 272 _ _ rfl rfl D.heap.size G rfl rfl 272 (cX.map aH).toArray (heap_alloc_new D _) HI.out (by rw[Kv.out];rfl) HO.out ?_))
  have iP:((D.alloc (OH #[U O 0,U O 0,U O 0,U O 0,U O 0,U O 0,U O 0,U O 0,U O 0,U O 0,U O 0,U O 0,U O 0,U O 0,U O 0,U O 0,U O 0,U O 0,U O 0,U O 0,U O 0,U O 0,U O 0,U O 0,U O 0,U O 0,U O 0,U O 0,U O 0,U O 0,U O 0,U O 0,U O 0,U O 0,U O 0,U O 0,U O 0,U O 0,U O 0,U O 0,U O 0,U O 0,U O 0,U O 0,U O 0,U O 0,U O 0,U O 0,U O 0,U O 0,U O 0,U O 0,U O 0,U O 0,U O 0,U O 0,U O 0,U O 0,U O 0,U O 0,U O 0,U O 0,U O 0,U O 0] 272)).setRow D.heap.size G).heap[D.heap.size]? =some (OH G 272 (0,0)):=setRow_heap _ D.heap.size (cX.map aH).toArray G 272 (0,0) (heap_alloc_new D _)
  have cE:Below D.heap.size D ((D.alloc (OH #[U O 0,U O 0,U O 0,U O 0,U O 0,U O 0,U O 0,U O 0,U O 0,U O 0,U O 0,U O 0,U O 0,U O 0,U O 0,U O 0,U O 0,U O 0,U O 0,U O 0,U O 0,U O 0,U O 0,U O 0,U O 0,U O 0,U O 0,U O 0,U O 0,U O 0,U O 0,U O 0,U O 0,U O 0,U O 0,U O 0,U O 0,U O 0,U O 0,U O 0,U O 0,U O 0,U O 0,U O 0,U O 0,U O 0,U O 0,U O 0,U O 0,U O 0,U O 0,U O 0,U O 0,U O 0,U O 0,U O 0,U O 0,U O 0,U O 0,U O 0,U O 0,U O 0,U O 0,U O 0] 272)).setRow D.heap.size G):=oQ ((Below.refl _ _).alloc (J _) _) (J _) G
  have jg:=bM.out.below cE bM.out.lt
  have gj:Below w.heap.size w ((D.alloc (OH #[U O 0,U O 0,U O 0,U O 0,U O 0,U O 0,U O 0,U O 0,U O 0,U O 0,U O 0,U O 0,U O 0,U O 0,U O 0,U O 0,U O 0,U O 0,U O 0,U O 0,U O 0,U O 0,U O 0,U O 0,U O 0,U O 0,U O 0,U O 0,U O 0,U O 0,U O 0,U O 0,U O 0,U O 0,U O 0,U O 0,U O 0,U O 0,U O 0,U O 0,U O 0,U O 0,U O 0,U O 0,U O 0,U O 0,U O 0,U O 0,U O 0,U O 0,U O 0,U O 0,U O 0,U O 0,U O 0,U O 0,U O 0,U O 0,U O 0,U O 0,U O 0,U O 0,U O 0,U O 0] 272)).setRow D.heap.size G):=((((Below.refl _ w).alloc (J _) (OH (cX.map aH).toArray 272)).trans (eE.out.mono (by simp)))).trans (cE.mono (by have:=eE.out.size;simp at this;omega))
  generalize ((D.alloc (OH #[U O 0,U O 0,U O 0,U O 0,U O 0,U O 0,U O 0,U O 0,U O 0,U O 0,U O 0,U O 0,U O 0,U O 0,U O 0,U O 0,U O 0,U O 0,U O 0,U O 0,U O 0,U O 0,U O 0,U O 0,U O 0,U O 0,U O 0,U O 0,U O 0,U O 0,U O 0,U O 0,U O 0,U O 0,U O 0,U O 0,U O 0,U O 0,U O 0,U O 0,U O 0,U O 0,U O 0,U O 0,U O 0,U O 0,U O 0,U O 0,U O 0,U O 0,U O 0,U O 0,U O 0,U O 0,U O 0,U O 0,U O 0,U O 0,U O 0,U O 0,U O 0,U O 0,U O 0,U O 0] 272)).setRow D.heap.size G)=W0 at iP cE jg gj⊢
  have dO:w.heap.size<D.heap.size:=bM.out.lt
  have Ht:Hid (ay w [(w.heap.size,272,(cX.map aH).toArray),(D.heap.size,272,G)] [] W0):=Z ⟨gj,aa.cons jg (aa.cons iP (ai _)),aF _⟩
  have dv:=Z dO
  clear iP cE jg gj bM eE CP HZ dO
  generalize D.heap.size=b8 at Ht dv⊢
  go_loopg [7,21] n (λg v7 Kz=> λwr=>∃(j a:Nat)(B:List Int),j+g=n/\v7=U O (a:Int)/\Kz=U O (j:Int)/\a<=64/\Y B=64/\Hid (bG (l.drop j) (a:Int)=E)/\Hid (gE B (l.drop j) (a:Int)=BL)/\Hid (ay w [(w.heap.size,272,(B.map aH).toArray),(b8,272,G)] [] wr))
  case atStart=>exact⟨0,_,cX,by omega,rfl,rfl,by decide,by decide,HE,K8,Ht⟩
  case round=>
   obtain⟨j,a,B,hj,rfl,rfl,ha,K0,HP,HQ,M⟩:=hrel
   cases gk with
   |zero=>
    have KG:j=n:=(by omega);have Kx:¬((j:Int)<(n:Int)):=(by omega);have hp:=HP.out;have hq:=HQ.out;rw[List.drop_eq_nil_of_le (by rw[HN.out];omega)] at hp hq;have Hu:=Z (show (0:Int)=E from hp);have Kt:=Z (show B=BL from hq);clear hp hq;go_wp2_with fail
    go_ret2;refine⟨_,by rw[<-Hu.out];rfl,M.out.1,λ_=>⟨w.heap.size,rfl,by rw[<-Kt.out];exact M.out.2.1.head⟩,λh=>absurd Hu.out.symm h⟩
   |succ g=>
    have Kx:((j:Int)<(n:Int)):=(by omega);have kA:j<(Y l):=(by rw[HN.out];omega);obtain⟨ad,rfl,KF,c0,c1⟩:=fH (HS.out.below M.out.1) j kA;have hp:=HP.out;have hq:=HQ.out;rw[List.drop_eq_getElem_cons kA] at hp hq;obtain⟨⟨p1,I⟩,K5⟩:∃p,l[j]=p:=⟨_,rfl⟩;rw[K5] at c0 c1 hp hq;rw[kv] at hp;dsimp only at c0 c1 hp;have hq:gE (B.set (iZ ((a:Int)+p1).toNat).toNat I) (l.drop (j+1)) ((a:Int)+p1+1)=BL:=hq;have K:=Z hp;have JT:=Z hq;have Hl:=Z K0;have KI:OQ.wrap ((j:Int)+1)=(j:Int)+1:=(by rw[OM];omega);clear hp hq K5 kA K0
    cases hz:(I==0) with
    |true=>
     have C:=Z (show (10:Int)=E by have h:=K.out;rw[hz] at h;exact h);go_wp2_with (go_at_call 250;refine(jJ _ _).mono ?_;rintro e w' ⟨rfl,rfl⟩)
     go_ret2;exact⟨_,by rw[<-C.out];rfl,M.out.1.alloc M.out.1.size _,λh=>absurd (C.out.trans h) (by decide),λ_=>rfl⟩
    |false=>
     cases hl:(decide (-127<=I)&&decide (I<=127)) with
     |false=>
      have C:=Z (show (10:Int)=E by have h:=K.out;rw[hz,hl] at h;exact h);go_wp2_with (go_at_call 250;refine(jJ _ _).mono ?_;rintro e w' ⟨rfl,rfl⟩)
      go_ret2;exact⟨_,by rw[<-C.out];rfl,M.out.1.alloc M.out.1.size _,λh=>absurd (C.out.trans h) (by decide),λ_=>rfl⟩
     |true=>
      by_cases T:p1<0
      ·have d0:decide (p1<0)=true:=decide_eq_true T
       have C:=Z (show (11:Int)=E by have h:=K.out;rw[hz,hl,d0] at h;exact h);clear T;go_wp2_with (go_at_call 250;refine(jJ _ _).mono ?_;rintro e w' ⟨rfl,rfl⟩)
       go_ret2;exact⟨_,by rw[<-C.out];rfl,M.out.1.alloc M.out.1.size _,λh=>absurd (C.out.trans h) (by decide),λ_=>rfl⟩
      ·have d0:decide (p1<0)=false:=decide_eq_false T
       by_cases cI:63 - (a:Int)<p1
       ·have d1:decide (63 - (a:Int)<p1)=true:=decide_eq_true cI
        have C:=Z (show (11:Int)=E by have h:=K.out;rw[hz,hl,d0,d1] at h;exact h);clear T cI;go_wp2_with (go_at_call 250;refine(jJ _ _).mono ?_;rintro e w' ⟨rfl,rfl⟩)
        go_ret2;exact⟨_,by rw[<-C.out];rfl,M.out.1.alloc M.out.1.size _,λh=>absurd (C.out.trans h) (by decide),λ_=>rfl⟩
       ·have d1:decide (63 - (a:Int)<p1)=false:=decide_eq_false cI
        have C:=Z (show bG (l.drop (j+1)) ((a:Int)+p1+1)=E by have h:=K.out;rw[hz,hl,d0,d1] at h;exact h);obtain⟨r,rfl⟩:=Int.eq_ofNat_of_zero_le (by omega:0<=p1);obtain⟨q,K6⟩:∃q,q=a+r:=⟨_,rfl⟩;have KA:q<=63:=(by omega);obtain⟨z,rG⟩:∃z:Nat,iZ q=(z:Int):=⟨(iZ q).toNat,by have:=iT q (by omega);omega⟩;have KC:z<=63:=(by have:=iT q (by omega);omega);have kU:(a:Int)+(r:Int)=(q:Int):=(by omega);have Ku:=Z (show gE (B.set z I) (l.drop (j+1)) ((q:Int)+1)=BL by have h:=JT.out;rw[kU,Oj,rG,Oj] at h;exact h);rw[kU] at C;have aJ:=Z (ap M.out (OH #[U O (r:Int),U O I] 189))
        have x8:(wr.alloc (OH #[U O (r:Int),U O I] 189)).cell? ⟨b8,q,none⟩=some (U O (z:Int)):=by
         have h:=aJ.out.2.1.tail.head;dsimp only at h;rw[h.cell,K9.out,wL q (by omega),rG]
        have xp:=(ab.new wr 189 #[U O (r:Int),U O I]).cell 1;have fz:=aJ.out.2.1.head.frozen z
        obtain⟨vz,xz⟩:∃vz,(wr.alloc (OH #[U O (r:Int),U O I] 189)).cell? ⟨w.heap.size,z,none⟩=some vz:=by
         have h:=aJ.out.2.1.head;dsimp only at h;rw[h.cell,Od];exact⟨_,OG (by rw[List.length_map,Hl.out];omega)⟩
        have KH:¬((q:Int)<0):=(by omega);have KB:(q:Int)<64:=(by omega);have KL:¬((z:Int)<0):=(by omega);have KD:(z:Int)<64:=(by omega);have KJ:OQ.wrap ((q:Int)+1)=(q:Int)+1:=(by rw[OM];omega);have KK:OQ.wrap ((a:Int)+(r:Int))=(q:Int):=(by rw[kU,OM];omega);have Ky:b8≠w.heap.size:=(by have:=dv.out;omega);have KE:=Z K6;clear T cI rG K6 K JT;go_wp2_with (go_at_call 250;refine(jJ _ _).mono ?_;rintro e w' ⟨rfl,rfl⟩)
        refine aP (λw'=>w'.cell? ⟨b8,q,none⟩=some (U O (z:Int))/\w'.cell? ⟨wr.heap.size,1,none⟩=some (U O I)) 5 (OO 0 (OO 1 (OO 2 (OO 3 (OO 4 .done))))) (⟨x8,xp⟩) (λPE K3=>?_)
        iterate 5
         refine af (v:=?_) rfl (by rfl) ?_ ?_
         rotate_left
         ·intro _ K4;(try dsimp only at K4);obtain⟨s0,s1⟩:=K4;go_simp;(try with_reducible rfl)
         simp only[OA,OF,OE]
        refine K3 _ _ ?_;clear K3 PE;simp only[Og,On];go_wp2_with fail
        refine⟨rfl,?_⟩;go_wp2_with fail
        go_roundg g
        case measure=>omega
        case rel=>
         refine⟨j+1,q+1,B.set z I,by omega,by simp,by simp,by omega,by rw[List.length_set];exact Hl.out,C,Ku,Z ?_⟩;have h:=bB (gL aJ.out (J _) z (U O I) (by simpa using Ky) (by simp));rw[OA,show ((B.map aH).set z (Value.int O I))=(B.set z I).map aH by rw[List.map_set];rfl] at h;exact h
def ro (dc:Int) (A:Option Addr) (n c:Nat) (intra:Bool):Value:=OC #[U O dc,OK A n c,V intra]
def AV (dc:Int) (n:Nat) (intra:Bool):Int:=
 if intra&&(decide (dc<1)||decide (255<dc)||dc==128) then 10 else if !intra&&(dc !=0||n==0) then 2 else 0
theorem G0 (x:bH)(intra:Bool):bP x intra=if AV x.dc (Y x.l) intra==0 then bG x.l (dl intra) else AV x.dc (Y x.l) intra:=by
 have hl:(x.l==[])=((Y x.l)==0):=by cases x.l<;>rfl
 unfold bP AV;rw[hl]
 split
 ·rfl
 ·split
  ·rfl
  ·rfl
theorem yZ (dc:Int)(A:Option Addr)(n c:Nat)(intra:Bool)(w:World):Calls X 216 #[ro dc A n c intra] w λe w'=>e=OJ (U O (dl intra))/\Below w.heap.size w w':=by
 unfold ro
 cases intra with
 |false=>
  go_enter Ov,Ou
  go_wp2
  go_ret;exact⟨rfl,(Below.refl _ _).alloc (J _) _⟩
 |true=>
  go_enter Ov,Ou
  go_wp2
  go_ret;exact⟨rfl,(Below.refl _ _).alloc (J _) _⟩
theorem Ft (dc:Int)(A:Option Addr)(n c:Nat)(intra:Bool)(w:World):Calls X 176 #[ro dc A n c intra] w λe w'=>e=OJ (U O (AV dc n intra))/\Below w.heap.size w w':=by
 unfold ro AV
 cases intra with
 |true=>
  rw[Oq,Bool.not_true,Oc]
  cases B:decide (dc<1) with
  |true=>
   rw[OV,OV,if_pos rfl]
   go_enter OL,OI
   go_wp2
   go_ret;exact⟨rfl,(Below.refl _ _).alloc (J _) _⟩
  |false=>
   cases j:decide (255<dc) with
   |true=>
    rw[ON,OV,if_pos rfl]
    go_enter OL,OI
    go_wp2
    go_ret;exact⟨rfl,(Below.refl _ _).alloc (J _) _⟩
   |false=>
    cases C:(dc==128) with
    |true=>
     rw[ON,ON,if_pos rfl]
     go_enter OL,OI
     go_wp2
     go_ret;exact⟨rfl,(Below.refl _ _).alloc (J _) _⟩
    |false=>
     rw[ON,ON,if_neg (by decide),if_neg (by decide)]
     go_enter OL,OI
     go_wp2
     go_ret;exact⟨rfl,(Below.refl _ _).alloc (J _) _⟩
 |false=>
  rw[Oc,Bool.not_false,Oq,if_neg (by decide)]
  cases B:(dc !=0) with
  |true=>
   rw[OV,if_pos rfl]
   go_enter OL,OI
   go_wp2
   go_ret;exact⟨rfl,(Below.refl _ _).alloc (J _) _⟩
  |false=>
   rw[ON];rcases Nat.eq_zero_or_pos n with rfl|D
   ·rw[if_pos (show ((0:Nat)==0)=true from rfl)]
    go_enter OL,OI
    go_wp2
    go_ret;exact⟨rfl,(Below.refl _ _).alloc (J _) _⟩
   ·have j:(n==0)=false:=by simp;omega
    have C:((n:Int)==0)=false:=(by simp;omega);rw[j,if_neg (by decide)]
    go_enter OL,OI
    go_wp2
    go_ret;exact⟨rfl,(Below.refl _ _).alloc (J _) _⟩
theorem y7 (dc:Int)(l:List (Int×Int))(A:Option Addr)(n c:Nat)(intra:Bool)(w:World)(hS:Sl w A (az bd l))(hn:Y l=n)(hsz:n<=1099511627776):Calls X 177 #[ro dc A n c intra] w λe w'=>e=OJ (U O (bG l (dl intra)))/\Below w.heap.size w w':=by
 have T:dl intra=0\/dl intra=1:=by cases intra;exact .inl rfl;exact .inr rfl
 have C1:=Z (λW=>yZ dc A n c intra W);have C2:=Z (λW hW=>zQ l A n c (dl intra) T W hW hn hsz);have HS:=Z hS;unfold ro at C1⊢;generalize dl intra=fr at*;obtain⟨sp,av⟩:∃sp,bG l fr=sp:=⟨_,rfl⟩;rw[av];clear hS T hn hsz
 go_enter Tryz.func177,Tryz.ntmps177
 go_wp2_with fail
 have C:ab (w.alloc (OH #[U O dc,OK A n c,V intra] 197)).drew w.heap.size 197 #[U O dc,OK A n c,V intra]:=(ab.new w _ _).drew1;have I:Below w.heap.size w (w.alloc (OH #[U O dc,OK A n c,V intra] 197)).drew:=((Below.refl w.heap.size w).alloc (J _) _).drew;have y0:=C.cell 0;have y1:=C.cell 1;have y2:=C.cell 2;have HL:=Z C;have HB:=Z I;have bM:=Z (HS.out.below I);clear C I;refine aP (λw'=>w'.cell? ⟨w.heap.size,0,none⟩=some (U O dc)/\w'.cell? ⟨w.heap.size,1,none⟩=some (OK A n c)/\w'.cell? ⟨w.heap.size,2,none⟩=some (V intra)) 10 (OO 0 (OO 1 (OO 2 (OO 3 (Ox 4 (Ox 5 (OO 6 (OO 7 (OO 8 (Ox 9 .done)))))))))) (⟨y0,y1,y2⟩) (λPE N=>?_)
 iterate 4
  refine af (v:=?_) rfl (by rfl) ?_ ?_
  rotate_left
  ·intro _ D;(try dsimp only at D);obtain⟨s0,s1,s2⟩:=D;go_simp;(try with_reducible rfl)
  simp only[OA,OF,OE]
 refine aG (f:=216) rfl (by rfl) (by first|(go_simp;done)|(go_simp;rfl)) (C1.out _) ?_;rintro e w2 ⟨rfl,G⟩;have B:=HL.out.below G HL.out.lt;have M:=Z (HB.out.trans (G.mono HB.out.size));refine⟨_,rfl,_,λ_ h=>h,⟨B.cell 0,B.cell 1,B.cell 2⟩,?_⟩;simp only[OA,OF,OE];refine aG (f:=215) rfl (by rfl) (by first|(go_simp;done)|(go_simp;rfl)) (C2.out _ (bM.out.below G)) ?_;rintro e w3 ⟨v,rfl,K,_,_⟩;rw[av];have j:=B.below K B.lt;have aJ:=Z (M.out.trans (K.mono M.out.size));refine⟨_,rfl,_,λ_ h=>h,⟨j.cell 0,j.cell 1,j.cell 2⟩,?_⟩;simp only[OA,OF,OE]
 iterate 3
  refine af (v:=?_) rfl (by rfl) ?_ ?_
  rotate_left
  ·intro _ D;(try dsimp only at D);go_simp;(try with_reducible rfl)
  simp only[OA,OF,OE]
 refine aj (v:=?_) (w':=?_) rfl (by rfl) ?_ ?_ ?_;rotate_left 2
 ·go_simp;(try (constructor<;>with_reducible rfl))
 ·exact⟨j.cell 0,j.cell 1,j.cell 2⟩
 simp only[OA,OF,OE];refine N _ _ ?_;clear N PE;simp only[Og,On];clear G K B j y0 y1 y2;go_wp2_with fail
 refine⟨rfl,?_⟩;go_wp2_with fail
 go_ret;exact⟨rfl,aJ.out⟩
theorem qB (x:bH)(A:Option Addr)(n c:Nat)(intra:Bool)(w:World)(hS:Sl w A (az bd x.l))(hn:Y x.l=n)(hsz:n<=1099511627776):Calls X 130 #[OC #[U O x.dc,OK A n c],V intra] w λe w'=>e=OJ (U O (bP x intra))/\Below w.heap.size w w':=by
 have N:=Z (λW=>Ft x.dc A n c intra W);have T:=Z (λW hW=>y7 x.dc x.l A n c intra W hW hn hsz);have HS:=Z hS;rw[G0,hn];clear hS hn hsz;obtain⟨dc,l⟩:=x;dsimp only at*;generalize AV dc n intra=M at*;generalize bG l (dl intra)=sp at*;unfold ro at N T;have i0:∀W:World,(Instr.index 199 (OC #[.func (.func 176) #[OC #[U O dc,OK A n c,V intra]] #[],.func (.func 177) #[OC #[U O dc,OK A n c,V intra]] #[]]) (U O 0)).run X W= .ok (.func (.func 176) #[OC #[U O dc,OK A n c,V intra]] #[]) W:= λ_=>by kernel_rfl
 have i1:∀W:World,(Instr.index 199 (OC #[.func (.func 176) #[OC #[U O dc,OK A n c,V intra]] #[],.func (.func 177) #[OC #[U O dc,OK A n c,V intra]] #[]]) (U O 1)).run X W= .ok (.func (.func 177) #[OC #[U O dc,OK A n c,V intra]] #[]) W:= λ_=>by kernel_rfl
 go_enter Tryz.func130,Tryz.ntmps130
 go_wp2_with fail
 go_loopg [17] 2 (λg i=> λwr=>∃j:Nat,j+g=2/\i=U O (j:Int)/\Hid ((1<=j->M=0)/\(2<=j->sp=0)/\Below w.heap.size w wr))
 case atStart=>exact⟨0,by omega,rfl,Z ⟨by omega,by omega,((Below.refl _ _).alloc (J _) _).alloc (by simp) _⟩⟩
 case round=>
  obtain⟨j,hj,rfl,D⟩:=hrel;have av:j=0\/j=1\/j=2:=(by omega);rcases av with rfl|rfl|rfl
  ·cases hd:(M==0) with
   |true=>
    have HD:=Z (show M=0 by simpa using hd);have G:(M !=0)=false:=(by rw[bne,hd];rfl);go_wp2_with (go_at_call 176;refine(N.out _).mono ?_;rintro e w2 ⟨rfl,B⟩;have C:=Z B;clear B)
    go_roundg 1
    case measure=>omega
    case rel=>exact⟨1,by omega,rfl,Z ⟨λ_=>HD.out,by omega,D.out.2.2.trans (C.out.mono D.out.2.2.size)⟩⟩
   |false=>
    have G:(M !=0)=true:=(by rw[bne,hd];rfl);go_wp2_with (go_at_call 176;refine(N.out _).mono ?_;rintro e w2 ⟨rfl,B⟩;have C:=Z B;clear B)
    go_ret;exact⟨rfl,D.out.2.2.trans (C.out.mono D.out.2.2.size)⟩
  ·have I:=D.out.1 (by omega)
   subst I;have K:=Z (HS.out.below D.out.2.2)
   cases hd:(sp==0) with
   |true=>
    have HD:=Z (show sp=0 by simpa using hd);have G:(sp !=0)=false:=(by rw[bne,hd];rfl);go_wp2_with (go_at_call 177;refine(T.out _ K.out).mono ?_;rintro e w2 ⟨rfl,B⟩;have C:=Z B;clear B)
    go_roundg 0
    case measure=>omega
    case rel=>exact⟨2,by omega,rfl,Z ⟨λ_=>trivial,λ_=>HD.out,D.out.2.2.trans (C.out.mono D.out.2.2.size)⟩⟩
   |false=>
    have G:(sp !=0)=true:=(by rw[bne,hd];rfl);go_wp2_with (go_at_call 177;refine(T.out _ K.out).mono ?_;rintro e w2 ⟨rfl,B⟩;have C:=Z B;clear B)
    go_ret;exact⟨rfl,D.out.2.2.trans (C.out.mono D.out.2.2.size)⟩
  ·have I:=D.out.1 (by omega)
   have aJ:=D.out.2.1 (by omega);subst I aJ;go_wp2_with fail
   go_ret;exact⟨rfl,D.out.2.2⟩
end Go.Proofs.YthhijgcfbjcgiaaGreatDoor
