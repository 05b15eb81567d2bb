/- Kind, Scan, ScanP, Spread, Blk1, KindO, KindT -/
import Derived.Test.YthhijgcfbjcgiaaGreatDoorS16
import Derived.Great.BuildSlice
import Derived.Test.YthhijgcfbjcgiaaGreatDoorS02
import Derived.Scope
namespace Go.Proofs.YthhijgcfbjcgiaaGreatDoor
open Go Go.RowKit
attribute [local go_sem] Oper.semAt_some
open Go.Lib renaming hid→zAA
open Nat renaming le_refl→zAB,reduceSub→zAX,reduceAdd→zAZ,min_eq_left→zA5
open List renaming setIfInBounds_toArray→zAC,range→zAD,getElem?_toArray→zAE,set_cons_succ→zAF,set_cons_zero→zAG,getElem?_eq_getElem→zAH,getElem?_cons_succ→zAI,getElem?_cons_zero→zAJ,length_append→zAK,append_toArray→zAL,drop_succ_cons→zAM,push_toArray→zAN,size_toArray→zAO,cons_append→zAQ,length_nil→zAU,nil_append→zAV,drop_zero→zAW,getD_eq_getElem?_getD→zAY,length_cons→zA1,prefix_iff_eq_take→zA3,take_range→zA4,map_cons→zA7,map_nil→zA8,length_range→zAa,range_succ→zAd,replicate→zAf
open Go.IntKind renaming wrap_i64→zAP,i64→zAT
open Go.World renaming size_alloc→zAR,ownsRow_nil→zAb,drew→zAe
open Bool renaming false_or→zAS,true_or→zA0,false_and→zA6,and_eq_true→zAc,true_and→zAg
open Option renaming getD_some→zA2
open Int renaming toNat_natCast→zA9
def qq (k:Int):List Value:=[.bool (pI k),.bool (pQ k),.bool (pV k),.bool (pF k),.bool (pC k)]
def fB (j:Nat):List Value:= .string ⟨(aA.getD j []).toArray⟩::qq ((j:Int)+1)
def iu:Array Value:= #[.string ⟨#[48,48,48,49]⟩,.bool true,.bool false,.bool false,.bool false,.bool false,.string ⟨#[48,48,48,48,48,48,49]⟩,.bool true,.bool true,.bool false,.bool false,.bool false,.string ⟨#[49]⟩,.bool false,.bool false,.bool false,.bool false,.bool true,.string ⟨#[48,48,48,48,49]⟩,.bool false,.bool true,.bool false,.bool false,.bool true,.string ⟨#[48,48,48,48,48,48,48,48,49]⟩,.bool false,.bool false,.bool true,.bool false,.bool false,.string ⟨#[48,48,48,48,48,48,48,49]⟩,.bool false,.bool false,.bool true,.bool false,.bool true,.string ⟨#[48,48,48,48,48,48,48,48,48,49]⟩,.bool false,.bool true,.bool true,.bool false,.bool true,.string ⟨#[48,48,49]⟩,.bool false,.bool false,.bool true,.bool true,.bool false,.string ⟨#[48,49]⟩,.bool false,.bool false,.bool true,.bool true,.bool true,.string ⟨#[48,48,48,48,48,49]⟩,.bool false,.bool true,.bool true,.bool true,.bool true]
def Kc:Value→Int
 | .int _ n=>n
 |_=>0
def FU:List Value:=[.bool false,.bool false,.bool false,.bool false,.bool false]
theorem If (W:World):(Instr.index 222 (.agg iu) (.int .i64 0)).run Tryz.prog W= .ok (.agg (fB 0).toArray) W:=by kernel_rfl
theorem Ig (W:World):(Instr.index 222 (.agg iu) (.int .i64 1)).run Tryz.prog W= .ok (.agg (fB 1).toArray) W:=by kernel_rfl
theorem Ih (W:World):(Instr.index 222 (.agg iu) (.int .i64 2)).run Tryz.prog W= .ok (.agg (fB 2).toArray) W:=by kernel_rfl
theorem Ii (W:World):(Instr.index 222 (.agg iu) (.int .i64 3)).run Tryz.prog W= .ok (.agg (fB 3).toArray) W:=by kernel_rfl
theorem Ij (W:World):(Instr.index 222 (.agg iu) (.int .i64 4)).run Tryz.prog W= .ok (.agg (fB 4).toArray) W:=by kernel_rfl
theorem Ik (W:World):(Instr.index 222 (.agg iu) (.int .i64 5)).run Tryz.prog W= .ok (.agg (fB 5).toArray) W:=by kernel_rfl
theorem Il (W:World):(Instr.index 222 (.agg iu) (.int .i64 6)).run Tryz.prog W= .ok (.agg (fB 6).toArray) W:=by kernel_rfl
theorem Im (W:World):(Instr.index 222 (.agg iu) (.int .i64 7)).run Tryz.prog W= .ok (.agg (fB 7).toArray) W:=by kernel_rfl
theorem In (W:World):(Instr.index 222 (.agg iu) (.int .i64 8)).run Tryz.prog W= .ok (.agg (fB 8).toArray) W:=by kernel_rfl
theorem Io (W:World):(Instr.index 222 (.agg iu) (.int .i64 9)).run Tryz.prog W= .ok (.agg (fB 9).toArray) W:=by kernel_rfl
theorem Ji:∀(j:Nat),j<10→∀W:World,(Instr.index 222 (.agg iu) (.int .i64 (j:Int))).run Tryz.prog W= .ok (.agg (fB j).toArray) W:=by
 intro j hj W
 have e:j=0∨j=1∨j=2∨j=3∨j=4∨j=5∨j=6∨j=7∨j=8∨j=9:=by omega
 rcases e with rfl|rfl|rfl|rfl|rfl|rfl|rfl|rfl|rfl|rfl
 ·exact If W
 ·exact Ig W
 ·exact Ih W
 ·exact Ii W
 ·exact Ij W
 ·exact Ik W
 ·exact Il W
 ·exact Im W
 ·exact In W
 ·exact Io W
theorem oT {B g:Nat} {w0 w:World} (hb:Below B w0 w) (hBg:B≤g) (cs:Array Value):Below B w0 (w.setRow g cs):=
 ⟨hb.os,hb.tape,hb.output,by rw [size_setRow];exact hb.size,fun k hk=>(setRow_other w g k cs (by omega)).trans (hb.block k hk)⟩
def td:Array Value:= #[.string ⟨#[]⟩,.bool false,.bool false,.bool false,.bool false,.bool false,.string ⟨#[]⟩,.bool false,.bool false,.bool false,.bool false,.bool false,.string ⟨#[]⟩,.bool false,.bool false,.bool false,.bool false,.bool false,.string ⟨#[]⟩,.bool false,.bool false,.bool false,.bool false,.bool false,.string ⟨#[]⟩,.bool false,.bool false,.bool false,.bool false,.bool false,.string ⟨#[]⟩,.bool false,.bool false,.bool false,.bool false,.bool false,.string ⟨#[]⟩,.bool false,.bool false,.bool false,.bool false,.bool false,.string ⟨#[]⟩,.bool false,.bool false,.bool false,.bool false,.bool false,.string ⟨#[]⟩,.bool false,.bool false,.bool false,.bool false,.bool false,.string ⟨#[]⟩,.bool false,.bool false,.bool false,.bool false,.bool false]
set_option maxRecDepth 100000 in
set_option maxHeartbeats 2000000 in
theorem BZ (w:World):Calls Tryz.prog 200 #[] w fun e w'=>e= .returned (.agg iu)∧Below w.heap.size w w':=by
 have hn:(w.alloc (.cells td 222)).heap[w.heap.size]? =some (.cells td 222 (0,0)):=heap_alloc_new w _
 have HN:=zAA hn
 clear hn
 go_enter Tryz.func200,Tryz.ntmps200
 go_wp2_with (refine wpList_store_rowTo rfl 222 _ _ rfl rfl w.heap.size iu rfl rfl 222 td HN.out rfl rfl (by kernel_rfl) ?_)
 have hrow:=HN.out
 have hbe:Below w.heap.size w (w.alloc (.cells td 222)):=(Below.refl _ _).alloc (zAB _) _
 refine bodyPost_ret (results_cell_row rfl _ _ w.heap.size 222 iu (0,0) _ rfl (setRow_heap _ _ td iu _ _ hrow) Tryz.underlying222 rfl (by kernel_rfl)) rfl ⟨rfl,?_⟩
 exact oT hbe (zAB _) iu
theorem xg (w:World):Calls Tryz.prog 156 #[] w fun e w'=>e= .returned (.func (.func 199) #[] #[])∧w=w':=by
 go_enter Tryz.func156,Tryz.ntmps156
 go_wp2
 go_ret
 exact ⟨rfl,rfl⟩
def tB (j:Nat):Array Value:= #[.int .i64 ((j:Int)+1),.agg (fB j).toArray]
theorem AD (j:Nat):tB j= #[.int .i64 ((j:Int)+1),.agg #[.string (bs (aA.getD j [])),.bool (pI ((j:Int)+1)),.bool (pQ ((j:Int)+1)),.bool (pV ((j:Int)+1)),.bool (pF ((j:Int)+1)),.bool (pC ((j:Int)+1))]]:=rfl
theorem uP {n:Nat} {pre:List Nat} {x:Nat} (h:pre++[x]<+:zAD n):pre=zAD pre.length∧x=pre.length∧pre.length<n:=by
 have h1:=h.length_le
 rw [zAa] at h1
 simp at h1
 have h2:pre<+:zAD n:=(List.prefix_append _ _).trans h
 have h3:=zA3.1 h2
 rw [zA4,zA5 (by omega)] at h3
 refine ⟨h3,?_,by omega⟩
 have h4:=zA3.1 h
 rw [zA4,zAK,zA5 (by simp;omega)] at h4
 have h5:(pre++[x])[pre.length]? =(zAD (pre.length+[x].length))[pre.length]? :=by rw [←h4]
 simpa [List.getElem?_range] using h5
theorem Cq (n k:Nat) (h:k<n):zAD k++[k]<+:zAD n:=by
 have e:zAD k++[k]=(zAD n).take (k+1):=by rw [zA4,zA5 (by omega),zAd]
 rw [e];exact List.take_prefix _ _
set_option maxRecDepth 100000 in
set_option maxHeartbeats 2000000 in
theorem xf (n:Nat) (hn:1≤n) (I:List Nat→World→Prop) (hI:∀pre A B,I pre A→Below A.heap.size A B→I pre B):
  ti Fence.wide n Tryz.prog 199 #[] tB I I (fun xs=>xs=zAD 10) (fun pre=>pre<+:zAD 10):=by
 intro lp K Jx W hK hY h0 hk0
 refine callsIn_of_wp Tryz.func199 rfl trivial ?_ rfl
 simp only [Tryz.ntmps199,zAO,zA1,zAU,zAZ,zAX,Array.replicate_succ,Array.replicate_zero,zAN,zAL,zAV,zAQ]
 have HY:=zAA hY;have HI:=zAA hI;have HK:=zAA hK;have H0:=zAA h0;have HK0:=zAA hk0
 clear hY hI hK h0 hk0
 obtain ⟨TB,htb⟩:∃TB,TB=iu:=⟨_,rfl⟩
 have hix:∀(j:Nat),j<10→∀W:World,(Instr.index 222 (.agg TB) (.int .i64 (j:Int))).run Tryz.prog W= .ok (.agg (fB j).toArray) W:=by rw [htb];exact Ji
 have HIX:=zAA hix
 have CT:=zAA (fun W=>BZ W)
 rw [←htb] at CT
 clear hix htb
 gi_wp2_with (refine ⟨trivial,?_⟩;gi_at_call 200;refine (callsIn_wide.2 (CT.out _)).mono ?_;rintro e w1 ⟨rfl,hb1⟩;have HB1:=zAA hb1;clear hb1)
 gi_loopw [5] (fun v wr=>∃j:Nat,v= .int .i64 (j:Int)∧j≤10∧Hid (I (zAD j) wr)∧Hid (K wr)) (fun v _=>10 - (Kc v).toNat)
 case atStart=>
  exact ⟨0,rfl,by omega,zAA (HI.out _ _ _ H0.out HB1.out),zAA (HK.out.below HK0.out HB1.out)⟩
 case round=>
  obtain ⟨j,rfl,hj,HIj,HKj⟩:=hrel
  by_cases hlt:j<10
  ·have hlti:(j:Int)<10:=by omega
   have hji:¬((j:Int)<0):=by omega
   have hw1:zAT.wrap ((j:Int)+1)=(j:Int)+1:=by rw [zAP];omega
   have ix:=HIX.out j hlt
   have hsp:zAD j++[j]<+:zAD 10:=Cq 10 j hlt
   obtain ⟨sc,hsc⟩:∃sc,sc=(aA.getD j []):=⟨_,rfl⟩
   obtain ⟨p1,hp1⟩:∃p,p=pI ((j:Int)+1):=⟨_,rfl⟩
   obtain ⟨p2,hp2⟩:∃p,p=pQ ((j:Int)+1):=⟨_,rfl⟩
   obtain ⟨p3,hp3⟩:∃p,p=pV ((j:Int)+1):=⟨_,rfl⟩
   obtain ⟨p4,hp4⟩:∃p,p=pF ((j:Int)+1):=⟨_,rfl⟩
   obtain ⟨p5,hp5⟩:∃p,p=pC ((j:Int)+1):=⟨_,rfl⟩
   have hrow:fB j=[.string ⟨sc.toArray⟩,.bool p1,.bool p2,.bool p3,.bool p4,.bool p5]:=by rw [hsc,hp1,hp2,hp3,hp4,hp5];rfl
   have henc:tB j= #[.int .i64 ((j:Int)+1),.agg #[.string ⟨sc.toArray⟩,.bool p1,.bool p2,.bool p3,.bool p4,.bool p5]]:=by unfold tB;rw [hrow]
   rw [hrow] at ix
   have hyy:=fun W1 (h1:I (zAD j) W1) (h2:K W1)=>HY.out (zAD j) j W1 h1 h2 hsp
   rw [henc] at hyy
   have HB2:Hid (Below wr.heap.size wr (wr.alloc (.cells #[.string ⟨sc.toArray⟩,.bool p1,.bool p2,.bool p3,.bool p4,.bool p5] 184))):=zAA ((Below.refl _ _).alloc (zAB _) _)
   obtain ⟨fn,tmps,assign,body,hy,hR⟩:=hyy _ (HI.out _ _ _ HIj.out HB2.out) (HK.out.below HKj.out HB2.out)
   have HR:=zAA hR;have HSP:=zAA hsp
   clear hR hyy henc hrow hsp hsc hp1 hp2 hp3 hp4 hp5 hj
   gi_wp2_with fail
   refine HR.out.mono ?_
   rintro e W3 (⟨rfl,hI3,hk3⟩|⟨rfl,hJx3⟩)
   ·gi_wp2_with fail
    refine ⟨⟨j+1,by simp,by omega,zAA (by rw [zAd];exact hI3),zAA hk3⟩,?_⟩
    show 10 - ((j:Int)+1).toNat<10 - (j:Int).toNat
    omega
   ·gi_wp2_with fail
    refine bodyPost_ret (results_none rfl _ _ _) rfl ?_
    exact ⟨⟨_,rfl⟩,.inr ⟨_,HSP.out,hJx3⟩⟩
  ·have hje:j=10:=by omega
   subst hje
   gi_wp2_with fail
   refine bodyPost_end (results_none rfl _ _ _) rfl ?_
   exact ⟨⟨_,rfl⟩,.inl ⟨_,rfl,HIj.out,HKj.out⟩⟩
theorem CZ {F:Fence} {n:Nat} {P:Program} {c:Code} {Q:Exit→Act→World→Prop} {a:Act} {w:World} (hro:F.round=none) (h:c.wpIn F n P (Exit.noGoto Q) a w):(Code.scope c).wpIn F n P Q a w:=by
 intro b k cs hb0 hb hr
 have hbn:b.roundOf=none:=hb0.trans hro
 obtain ⟨e,a₁,w₁,hq,harr⟩:=h b (.inScope c::k) cs hb0 hb hr
 have f1:(lone (b.atR a (.code (.scope c)::k)) cs w).fenced P F:=fenced_calm hb hr rfl
 have s1:step P (lone (b.atR a (.code (.scope c)::k)) cs w)= .next (lone (b.atR a (.code c:: .inScope c::k)) cs w):=by rw [Frame.atR_of_none hbn,Frame.atR_of_none hbn];exact step_scope
 cases e with
 |normal=>
  have s2:step P (lone (b.atR a₁ (.inScope c::k)) cs w₁)= .next (lone (b.atR a₁ k) cs w₁):=by rw [Frame.atR_of_none hbn,Frame.atR_of_none hbn];exact step_inScope
  exact ⟨.normal,a₁,w₁,hq,.head f1 s1 (StepsIn.trans harr (.one (fenced_calm hb hr rfl) s2))⟩
 |exit id=>exact ⟨.exit id,a₁,w₁,hq,⟨fun k' hk=> .head f1 s1 (harr.1 k' (by simp [exitTo,hk])),fun h=>by rw [hbn] at h;cases h⟩⟩
 |goto l=>exact hq.elim
 |ret=>exact ⟨_,a₁,w₁,hq,.of_steps (.one f1 s1) harr⟩
 |panic ch=>exact ⟨_,a₁,w₁,hq,.of_steps (.one f1 s1) harr⟩
 |outgrown=>exact ⟨_,a₁,w₁,hq,.of_steps (.one f1 s1) harr⟩
def vC (d i:Nat):Int:=if d % 2=1 then 7 - (i:Int) else i
def gS (d i:Nat):Int:=(d:Int) - vC d i
def fJ (d i:Nat):Bool:=decide (7<gS d i)||decide (gS d i<0)
def kH (d i:Nat):Bool:=(d % 2==0&&gS d i==0)||(d % 2==1&&vC d i==0)
def jW (d:Nat):Nat→List Int
 |0=>[]
 |g+1=>if fJ d (7 - g) then jW d g else (8*gS d (7 - g)+vC d (7 - g))::(if kH d (7 - g) then [] else jW d g)
def qf:Nat→List Int
 |0=>[]
 |g+1=>jW (14 - g) 8++qf g
def jF:List Int:=qf 15
theorem jX:jF.length=64:=by kernel_rfl
theorem EN:∀k∈jF,0≤k∧k≤63:=by decide+kernel
def JW:Value→Int
 | .int _ n=>n
 |_=>0
theorem eY (d i:Nat) (h:i<8):jW d (8 - i)=if fJ d i then jW d (8 - (i+1)) else (8*gS d i+vC d i)::(if kH d i then [] else jW d (8 - (i+1))):=by
 obtain ⟨g,hg⟩:∃g,8 - i=g+1:=⟨7 - i,by omega⟩
 rw [hg,jW,show 7 - g=i by omega,show 8 - (i+1)=g by omega]
theorem Gt (d:Nat) (h:d<15):qf (15 - d)=jW d 8++qf (15 - (d+1)):=by
 obtain ⟨g,hg⟩:∃g,15 - d=g+1:=⟨14 - d,by omega⟩
 rw [hg,qf,show 14 - g=d by omega,show 15 - (d+1)=g by omega]
theorem Cu (w:World):Calls Tryz.prog 274 #[] w fun e w'=>e= .returned (.func (.func 286) #[] #[])∧w=w':=by
 go_enter Tryz.func274,Tryz.ntmps274
 go_wp2
 go_ret
 exact ⟨rfl,rfl⟩
set_option maxRecDepth 100000 in
set_option maxHeartbeats 4000000 in
theorem D6 (n:Nat) (hn:1≤n) (I:List Int→World→Prop):
  ti Fence.wide n Tryz.prog 286 #[] (fun x:Int=> #[.int .i64 x]) I I (fun xs=>xs=jF) (fun pre=>pre<+:jF):=by
 intro lp K Jx W hK hY h0 hk0
 refine callsIn_of_wp Tryz.func286 rfl trivial ?_ rfl
 simp only [Tryz.ntmps286,zAO,zA1,zAU,zAZ,zAX,Array.replicate_succ,Array.replicate_zero,zAN,zAL,zAV,zAQ]
 have HY:=zAA hY;have H0:=zAA h0;have HK0:=zAA hk0
 clear hY hK h0 hk0
 gi_wp2_with fail
 refine CZ rfl ?_
 gi_wp2_with fail
 refine wpIn_label ?_
 gi_wp2_with fail
 gi_loopw [6] (fun v6 wr=>∃(d:Nat) (pre:List Int),v6= .int .i64 (d:Int)∧d≤15∧Hid (jF=pre++qf (15 - d))∧Hid (I pre wr)∧Hid (K wr)) (fun v6 _=>15 - (JW v6).toNat)
 case atStart=>exact ⟨0,[],rfl,by omega,zAA rfl,H0,HK0⟩
 case round=>
  obtain ⟨d,pre0,rfl,hd,HD,HI0,HK1⟩:=hrel
  by_cases hdl:d<15
  ·have hdli:(d:Int)<15:=by omega
   have HF0:=zAA (show jF=pre0++(jW d (8 - 0)++qf (15 - (d+1))) by rw [HD.out,Gt d hdl])
   clear HD
   obtain ⟨wo,hwo⟩:∃wo:World,wo=wr:=⟨_,rfl⟩
   rw [←hwo] at HI0 HK1⊢
   clear hwo
   gi_wp2_with fail
   gi_loopw [9] (fun v9 wr=>∃(i:Nat) (pre:List Int),v9= .int .i64 (i:Int)∧i≤8∧Hid (jF=pre++(jW d (8 - i)++qf (15 - (d+1))))∧Hid (I pre wr)∧Hid (K wr)) (fun v9 _=>8 - (JW v9).toNat)
   case atStart=>exact ⟨0,pre0,rfl,by omega,HF0,HI0,HK1⟩
   case round=>
    obtain ⟨i,pre,rfl,hi,HF,HIr,HKr⟩:=hrel
    by_cases hlt:i<8
    ·have hlti:(i:Int)<8:=by omega
     have hdn:(0:Int)≤(d:Int):=by omega
     by_cases hodd:d % 2=1
     ·have hpar:((d:Int) % 2==1)=true:=by rw [beq_iff_eq];omega
      have hpar0:((d:Int) % 2==0)=false:=by rw [beq_eq_false_iff_ne];omega
      have hX:vC d i=(7 - (i:Int)):=by unfold vC;rw [if_pos (by omega)]
      have hS:kH d i=((7 - (i:Int))==0):=by unfold kH gS;rw [hX];simp [show d % 2=1 by omega]
      have HX:=zAA hX
      clear hX
      by_cases h7:7<((d:Int) - (7 - (i:Int)))
      ·have d7:decide (7<((d:Int) - (7 - (i:Int))))=true:=decide_eq_true h7
       have HSK:=zAA (show fJ d i=true by unfold fJ gS;rw [HX.out,d7];rfl)
       clear h7 hS
       gi_wp2_with fail
       refine ⟨⟨i+1,pre,by simp,by omega,zAA (by have h:=HF.out;rw [eY d i hlt,HSK.out] at h;exact h),HIr,HKr⟩,?_⟩
       show 8 - ((i:Int)+1).toNat<8 - (i:Int).toNat
       omega
      ·have d7:decide (7<((d:Int) - (7 - (i:Int))))=false:=decide_eq_false h7
       by_cases h0:((d:Int) - (7 - (i:Int)))<0
       ·have d0:decide (((d:Int) - (7 - (i:Int)))<0)=true:=decide_eq_true h0
        have HSK:=zAA (show fJ d i=true by unfold fJ gS;rw [HX.out,d7,d0];rfl)
        clear h7 h0 hS
        gi_wp2_with fail
        refine ⟨⟨i+1,pre,by simp,by omega,zAA (by have h:=HF.out;rw [eY d i hlt,HSK.out] at h;exact h),HIr,HKr⟩,?_⟩
        show 8 - ((i:Int)+1).toNat<8 - (i:Int).toNat
        omega
       ·have d0:decide (((d:Int) - (7 - (i:Int)))<0)=false:=decide_eq_false h0
        have HSK:=zAA (show fJ d i=false by unfold fJ gS;rw [HX.out,d7,d0];rfl)
        have hy0:0≤((d:Int) - (7 - (i:Int))):=by omega
        have hy7:((d:Int) - (7 - (i:Int)))≤7:=by omega
        have hsp:pre++[8*((d:Int) - (7 - (i:Int)))+(7 - (i:Int))]<+:jF:=by
         have h:=HF.out
         rw [eY d i hlt,HSK.out,HX.out,show gS d i=((d:Int) - (7 - (i:Int))) by unfold gS;rw [HX.out]] at h
         rw [h]
         exact ⟨(if kH d i=true then [] else jW d (8 - (i+1)))++qf (15 - (d+1)),by simp⟩
        obtain ⟨fn,tmps,assign,body,hyy,hR⟩:=HY.out pre (8*((d:Int) - (7 - (i:Int)))+(7 - (i:Int))) wr HIr.out HKr.out hsp
        have HR:=zAA hR;have HSP:=zAA hsp;have HS:=zAA hS
        clear hR hsp h7 h0 hS
        gi_wp2_with fail
        refine HR.out.mono ?_
        rintro e W3 (⟨rfl,hI3,hk3⟩|⟨rfl,hJx3⟩)
        ·have HI3:=zAA hI3;have HK3:=zAA hk3
         clear hI3 hk3 hyy
         by_cases hst:((7 - (i:Int))==0)=true
         ·have HST:=zAA (HS.out.trans hst)
          gi_wp2_with fail
          refine ⟨⟨d+1,pre++[8*((d:Int) - (7 - (i:Int)))+(7 - (i:Int))],by simp,by omega,zAA ?_,HI3,HK3⟩,?_⟩
          ·have h:=HF.out
           rw [eY d i hlt,HSK.out,HX.out,HST.out,show gS d i=((d:Int) - (7 - (i:Int))) by unfold gS;rw [HX.out]] at h
           rw [h];simp
          ·show 15 - ((d:Int)+1).toNat<15 - (d:Int).toNat
           omega
         ·have hst:((7 - (i:Int))==0)=false:=by simpa using hst
          have HST:=zAA (HS.out.trans hst)
          gi_wp2_with fail
          refine ⟨⟨i+1,pre++[8*((d:Int) - (7 - (i:Int)))+(7 - (i:Int))],by simp,by omega,zAA ?_,HI3,HK3⟩,?_⟩
          ·have h:=HF.out
           rw [eY d i hlt,HSK.out,HX.out,HST.out,show gS d i=((d:Int) - (7 - (i:Int))) by unfold gS;rw [HX.out]] at h
           rw [h];simp
          ·show 8 - ((i:Int)+1).toNat<8 - (i:Int).toNat
           omega
        ·gi_wp2_with fail
         rw [Exit.noGoto_ret]
         refine bodyPost_ret (results_none rfl _ _ _) rfl ?_
         exact ⟨⟨_,rfl⟩,.inr ⟨_,HSP.out,hJx3⟩⟩
     ·have hpar:((d:Int) % 2==1)=false:=by rw [beq_eq_false_iff_ne];omega
      have hpar0:((d:Int) % 2==0)=true:=by rw [beq_iff_eq];omega
      have hX:vC d i=(i:Int):=by unfold vC;rw [if_neg (by omega)]
      have hS:kH d i=((d:Int) - (i:Int)==0):=by unfold kH gS;rw [hX];simp [show d % 2=0 by omega]
      have HX:=zAA hX
      clear hX
      by_cases h7:7<((d:Int) - (i:Int))
      ·have d7:decide (7<((d:Int) - (i:Int)))=true:=decide_eq_true h7
       have HSK:=zAA (show fJ d i=true by unfold fJ gS;rw [HX.out,d7];rfl)
       clear h7 hS
       gi_wp2_with fail
       refine ⟨⟨i+1,pre,by simp,by omega,zAA (by have h:=HF.out;rw [eY d i hlt,HSK.out] at h;exact h),HIr,HKr⟩,?_⟩
       show 8 - ((i:Int)+1).toNat<8 - (i:Int).toNat
       omega
      ·have d7:decide (7<((d:Int) - (i:Int)))=false:=decide_eq_false h7
       by_cases h0:((d:Int) - (i:Int))<0
       ·have d0:decide (((d:Int) - (i:Int))<0)=true:=decide_eq_true h0
        have HSK:=zAA (show fJ d i=true by unfold fJ gS;rw [HX.out,d7,d0];rfl)
        clear h7 h0 hS
        gi_wp2_with fail
        refine ⟨⟨i+1,pre,by simp,by omega,zAA (by have h:=HF.out;rw [eY d i hlt,HSK.out] at h;exact h),HIr,HKr⟩,?_⟩
        show 8 - ((i:Int)+1).toNat<8 - (i:Int).toNat
        omega
       ·have d0:decide (((d:Int) - (i:Int))<0)=false:=decide_eq_false h0
        have HSK:=zAA (show fJ d i=false by unfold fJ gS;rw [HX.out,d7,d0];rfl)
        have hy0:0≤((d:Int) - (i:Int)):=by omega
        have hy7:((d:Int) - (i:Int))≤7:=by omega
        have hsp:pre++[8*((d:Int) - (i:Int))+(i:Int)]<+:jF:=by
         have h:=HF.out
         rw [eY d i hlt,HSK.out,HX.out,show gS d i=((d:Int) - (i:Int)) by unfold gS;rw [HX.out]] at h
         rw [h]
         exact ⟨(if kH d i=true then [] else jW d (8 - (i+1)))++qf (15 - (d+1)),by simp⟩
        obtain ⟨fn,tmps,assign,body,hyy,hR⟩:=HY.out pre (8*((d:Int) - (i:Int))+(i:Int)) wr HIr.out HKr.out hsp
        have HR:=zAA hR;have HSP:=zAA hsp;have HS:=zAA hS
        clear hR hsp h7 h0 hS
        gi_wp2_with fail
        refine HR.out.mono ?_
        rintro e W3 (⟨rfl,hI3,hk3⟩|⟨rfl,hJx3⟩)
        ·have HI3:=zAA hI3;have HK3:=zAA hk3
         clear hI3 hk3 hyy
         by_cases hst:((d:Int) - (i:Int)==0)=true
         ·have HST:=zAA (HS.out.trans hst)
          gi_wp2_with fail
          refine ⟨⟨d+1,pre++[8*((d:Int) - (i:Int))+(i:Int)],by simp,by omega,zAA ?_,HI3,HK3⟩,?_⟩
          ·have h:=HF.out
           rw [eY d i hlt,HSK.out,HX.out,HST.out,show gS d i=((d:Int) - (i:Int)) by unfold gS;rw [HX.out]] at h
           rw [h];simp
          ·show 15 - ((d:Int)+1).toNat<15 - (d:Int).toNat
           omega
         ·have hst:((d:Int) - (i:Int)==0)=false:=by simpa using hst
          have HST:=zAA (HS.out.trans hst)
          gi_wp2_with fail
          refine ⟨⟨i+1,pre++[8*((d:Int) - (i:Int))+(i:Int)],by simp,by omega,zAA ?_,HI3,HK3⟩,?_⟩
          ·have h:=HF.out
           rw [eY d i hlt,HSK.out,HX.out,HST.out,show gS d i=((d:Int) - (i:Int)) by unfold gS;rw [HX.out]] at h
           rw [h];simp
          ·show 8 - ((i:Int)+1).toNat<8 - (i:Int).toNat
           omega
        ·gi_wp2_with fail
         rw [Exit.noGoto_ret]
         refine bodyPost_ret (results_none rfl _ _ _) rfl ?_
         exact ⟨⟨_,rfl⟩,.inr ⟨_,HSP.out,hJx3⟩⟩
    ·have hie:i=8:=by omega
     subst hie
     gi_wp2_with fail
     refine ⟨⟨d+1,pre,by simp,by omega,zAA (by have h:=HF.out;rw [show jW d (8 - 8)=[] from rfl] at h;simpa using h),HIr,HKr⟩,?_⟩
     show 15 - ((d:Int)+1).toNat<15 - (d:Int).toNat
     omega
  ·have hde:d=15:=by omega
   subst hde
   gi_wp2_with fail
   rw [Exit.noGoto_normal]
   refine bodyPost_end (results_none rfl _ _ _) rfl ?_
   have he:jF=pre0:=by have h:=HD.out;rw [show qf (15 - 15)=[] from rfl] at h;simpa using h
   exact ⟨⟨_,rfl⟩,.inl (by first|exact ⟨_,he.symm,HI0.out,HK1.out⟩|exact ⟨by rw [he];exact HI0.out,HK1.out⟩)⟩
def kI (pre:List Int):List Value:=pre.map aY++zAf (64 - pre.length) (aY 0)
theorem EV {pre:List Int} (h:pre.length≤64):(kI pre).length=64:=by simp [kI];omega
theorem EW {pre:List Int} (h:pre.length<64) (x:Int):(kI pre).set pre.length (aY x)=kI (pre++[x]):=by
 unfold kI
 obtain ⟨g,hg⟩:∃g,64 - pre.length=g+1:=⟨63 - pre.length,by omega⟩
 rw [hg,List.replicate_succ,List.set_append_right _ _ (by simp)]
 simp [show 64 - (pre.length+1)=g by omega]
def qF:Array Value:=(jF.map aY).toArray
theorem wI:qF.size=64:=by simp [qF,jX]
theorem AB:qF.all (·.oneCell')=true:=by
 rw [Array.all_eq_true]
 intro i hi
 simp [qF,aY,Value.oneCell']
theorem GO (k:Nat) (h:k<64):qF[k]? =some (.int .i64 (jF[k]'(by rw [jX];exact h))):=by
 simp [qF,jX,h,aY]
theorem jy (n:Int) (w:World):Calls Tryz.prog 250 #[.int .i64 n] w fun e w'=>e= .returned (.bool (decide (-127≤n)&&decide (n≤127)))∧w=w':=by
 cases a:decide (-127≤n) with
 |false=>
  simp only [zA6]
  go_enter Tryz.func250,Tryz.ntmps250
  go_wp2
  go_ret
  exact ⟨rfl,rfl⟩
 |true=>
  cases b:decide (n≤127) with
  |false=>
   simp only [Bool.and_false]
   go_enter Tryz.func250,Tryz.ntmps250
   go_wp2
   go_ret
   exact ⟨rfl,rfl⟩
  |true=>
   simp only [Bool.and_self]
   go_enter Tryz.func250,Tryz.ntmps250
   go_wp2
   go_ret
   exact ⟨rfl,rfl⟩
set_option maxRecDepth 100000 in
set_option maxHeartbeats 4000000 in
theorem zA (w:World):Calls Tryz.prog 249 #[] w fun e w'=>e= .returned (.agg qF)∧Below w.heap.size w w':=by
 obtain ⟨CS,hcs⟩:∃CS,CS=qF:=⟨_,rfl⟩
 rw [←hcs]
 have HCS:=zAA hcs
 clear hcs
 refine (callsIn_wide (n:=5)).1 ?_
 refine callsIn_of_wp_marks Tryz.func249 rfl trivial ?_ rfl
 simp only [Tryz.ntmps249,zAO,zAU,zAX,Array.replicate_succ,Array.replicate_zero,zAN,zAL,zAV,zAQ]
 refine wpIn_wide.2 ?_
 go_wp2_with (go_at_call 274;refine (Cu _).mono ?_;rintro e w' ⟨rfl,rfl⟩)
 refine (wpIn_wide (n:=5)).1 ?_
 refine tb (α:=Int) (enc:=fun x=> #[.int .i64 x]) (I:=cR w (fun (pre:List Int) (_:Unit)=>pre.length≤64) (fun pre _=>[(w.heap.size,272,(kI pre).toArray),(w.heap.size+1,3,#[.int .i64 (pre.length:Int)])]) (fun _ _=>[])) (I2:=cR w (fun (pre:List Int) (_:Unit)=>pre.length≤64) (fun pre _=>[(w.heap.size,272,(kI pre).toArray),(w.heap.size+1,3,#[.int .i64 (pre.length:Int)])]) (fun _ _=>[])) (S:=fun xs=>xs=jF) (Sp:=fun pre=>pre<+:jF)
  rfl (by decide) (gf:=286) (lb:= #[]) rfl trivial (enters_of Tryz.func286 (by kernel_rfl) rfl)
  (D6 4 (by decide) _) (fun _=>rfl)
  (fun _ _ _=>False)
  (fun pre _ _ W=>cR w (fun (pre:List Int) (_:Unit)=>pre.length≤64) (fun pre _=>[(w.heap.size,272,(kI pre).toArray),(w.heap.size+1,3,#[.int .i64 (pre.length:Int)])]) (fun _ _=>[]) pre W)
  (bq (by simp;omega) _ _ _) (bq (by simp;omega) _ _ _) (fun _ _ _ _ _ h _ _=>h) (fun x g=>bq (by simp;omega) _ _ _) ?start ?round ?done ?stop
 case start=>
  refine ⟨⟨(),by simp,?_,?_,aE _⟩⟩
  ·exact ((Below.refl _ _).alloc (zAB _) _).alloc (by simp) _
  ·refine aa.cons ?_ (aa.cons ?_ (ag _))
   ·exact (ab.new w 272 _).alloc _
   ·(repeat (first|(refine aD (ab.new _ _ _) ?_;simp [zAR];done)|refine ab.alloc ?_ _))
 case round=>
  apply Exists.intro
  refine And.intro ?_ ?_
  ·rintro lp pre x W hI hsp
   clear hsp
   gi_wp2
   obtain ⟨g0,_⟩:∃g0:Nat,g0=0:=⟨_,rfl⟩
   exact ⟨⟨g0,rfl,hI⟩,KeepsFrom.refl _ _⟩
  ·rintro lp pre x g W ⟨⟨_,hu,hc⟩⟩ hsp
   have hl:pre.length<64:=by have:=hsp.length_le;rw [jX] at this;simp at this;omega
   have hli:(pre.length:Int)<64:=by omega
   have hl0:¬((pre.length:Int)<0):=by omega
   have hw1:zAT.wrap ((pre.length:Int)+1)=(pre.length:Int)+1:=by rw [zAP];omega
   have b0:=hc.2.1.head
   have b1:=hc.2.1.tail.head
   dsimp only at b0 b1
   have x1:=b1.cell 0
   have f1:=b1.frozen 0
   obtain ⟨v0,x0⟩:∃v0,W.cell? ⟨w.heap.size,pre.length,none⟩=some v0:=by rw [b0.cell,zAE];exact ⟨_,zAH (by rw [EV hu];exact hl)⟩
   have f0:=b0.frozen pre.length
   have HC:=zAA hc;have HL:=zAA hl;have HSET:=zAA (EW hl x)
   clear hc b0 b1 hsp hu
   gi_wp2_with fail
   refine ⟨ak (ak (KeepsFrom.refl _ _) _ _) _ _,trivial,⟨⟨(),?_,?_⟩⟩⟩
   ·have:=HL.out;rw [zAK];simp;omega
   ·have h1:=iY HC.out (zAB _) pre.length (.int .i64 x) (by simp) (by simp)
    have h2:=iY (iB h1) (Nat.le_succ _) 0 (.int .i64 ((pre.length:Int)+1)) (by simp) (by simp)
    have h3:=iB h2
    rw [zAC,show (kI pre).set pre.length (Value.int .i64 x)=kI (pre++[x]) from HSET.out] at h3
    rw [zAK]
    exact h3
 case done=>
  rintro D xs W hD rfl ⟨⟨_,hu,hc⟩⟩ hK
  have hb:ab W w.heap.size 272 CS:=by
   rw [HCS.out]
   have h:=hc.2.1.head
   dsimp only at h
   rw [show kI jF=jF.map aY by simp [kI,jX]] at h
   exact h
  have hsz:CS.size=64:=by rw [HCS.out];exact wI
  have hone:CS.all (·.oneCell')=true:=by rw [HCS.out];exact AB
  have hinf:(Tryz.prog.info? 272).map (·.size)=some CS.size:=by rw [hsz];kernel_rfl
  have HB:=zAA hb;have HBe:=zAA hc.1;have HK:=zAA hK;have HI:=zAA hinf;have HO:=zAA hone
  clear hc hu hb hsz hone hinf hK
  gi_wp2_with fail
  go_wp2_with (first
   |(refine wpList_load_row rfl 272 _ rfl w.heap.size rfl 272 CS (0,0) _ HB.out Tryz.underlying272 rfl HI.out ?_)
   |(refine wpList_store_rowTo rfl 272 _ _ rfl rfl w.heap.size CS rfl rfl 272 CS HB.out HI.out rfl HO.out ?_))
  rw [setRow_self _ _ CS 272 (0,0) HB.out]
  have hb4:ab (W.putObj D (.deferred none)) w.heap.size 272 CS:=(cF (L:=[(w.heap.size,272,CS)]) (o':= .deferred none) (aa.cons HB.out (ag _)) HK.out rfl).head
  simp only [Act.put]
  exact ef HK.out (results_cell_row rfl _ _ w.heap.size 272 CS (0,0) _ rfl hb4 Tryz.underlying272 rfl HI.out) ⟨rfl,cq HBe.out (by simp at hD;omega)⟩
 case stop=>
  rintro D cd pre W hD hsp h hK
  exact h.elim
def bA (p:Int×Int):List Value:=[.int .i64 p.1,.int .i64 p.2]
theorem pG (p:Int×Int):(bA p).length=2:=rfl
theorem jU {w:World} {A:Option Addr} {l:List (Int×Int)} (h:Sl w A (av bA l)) (i:Nat) (hi:i<l.length):∃ad,A=some ad∧ad.block<w.heap.size∧w.cell? (ad.add (i*2))=some (.int .i64 l[i].1)∧w.cell? ⟨(ad.add (i*2)).block,(ad.add (i*2)).off+1,none⟩=some (.int .i64 l[i].2):=by
 have h0:=io pG l i hi 0 (by decide)
 have h1:=io pG l i hi 1 (by decide)
 rw [Nat.add_zero] at h0
 obtain ⟨ad,rfl,hl,c0⟩:=h _ _ (h0.trans rfl)
 obtain ⟨ad',e,_,c1⟩:=h _ _ (h1.trans rfl)
 cases e
 rw [←hO] at c1
 exact ⟨ad,rfl,hl,c0,c1⟩
def ni (k:Nat):Int:=jF.getD k 0
theorem tf (k:Nat) (h:k<64):0≤ni k∧ni k≤63:=by
 have hm:ni k∈jF:=by unfold ni;rw [zAY,zAH (by rw [jX];exact h)];exact List.getElem_mem _
 exact EN _ hm
theorem IR (k:Nat) (h:k<64):qF[k]? =some (.int .i64 (ni k)):=by
 rw [GO k h];unfold ni;rw [zAY,zAH (by rw [jX];exact h)];rfl
def nD:List Int→List (Int×Int)→Int→List Int
 |B,[],_=>B
 |B,p::l,a=>nD (B.set (ni (a+p.1).toNat).toNat p.2) l (a+p.1+1)
def jh:List Int:=zAf 64 0
def Bg (l:List (Int×Int)) (fr:Int):List Int:=nD jh l fr
theorem qT (p:Int×Int) (l:List (Int×Int)) (a:Int):ck (p::l) a=if p.2==0|| !(decide (-127≤p.2)&&decide (p.2≤127)) then 10 else if decide (p.1<0)||decide (63 - a<p.1) then 11 else ck l (a+p.1+1):=rfl
def Ai (l:List (Int×Int)) (fr:Int) (w:World) (e:Ending) (w':World):Prop:=∃v,e= .returned (.tuple #[v,.int .i64 (ck l fr)])∧Below w.heap.size w w'∧
 (ck l fr=0→∃b,v= .slice (some ⟨b,0,none⟩) 64 64∧ab w' b 272 ((Bg l fr).map aY).toArray)∧(ck l fr≠0→v= .slice none 0 0)
set_option maxRecDepth 100000 in
set_option maxHeartbeats 4000000 in
theorem zz (l:List (Int×Int)) (A:Option Addr) (n c:Nat) (fr:Int) (hfr:fr=0∨fr=1) (w:World) (hS:Sl w A (av bA l)) (hn:l.length=n) (hsz:n≤1099511627776):
  Calls Tryz.prog 215 #[.slice A n c,.int .i64 fr] w (Ai l fr w):=by
 obtain ⟨E,hE⟩:∃E,ck l fr=E:=⟨_,rfl⟩
 obtain ⟨BL,hBL⟩:∃B,Bg l fr=B:=⟨_,rfl⟩
 unfold Ai
 rw [hE,hBL]
 have HE:=zAA hE;have HBL:=zAA hBL;have HS:=zAA hS;have HN:=zAA hn
 clear hE hBL hS hn
 obtain ⟨CS,hcs⟩:∃CS,CS=qF:=⟨_,rfl⟩
 have CP:=zAA (fun W=>zA W)
 rw [←hcs] at CP
 have hsz2:CS.size=64:=by rw [hcs];exact wI
 have hinf:(Tryz.prog.info? 272).map (·.size)=some CS.size:=by rw [hsz2];kernel_rfl
 have HI:=zAA hinf
 have HO:=zAA (show CS.all (·.oneCell')=true by rw [hcs];exact AB)
 have HSZ:=zAA hsz2
 have HCS:=zAA hcs
 clear hsz2 hinf hcs
 have hz:ab (w.alloc (.cells (jh.map aY).toArray 272)) w.heap.size 272 (jh.map aY).toArray:=ab.new _ _ _
 have HZ:=zAA hz
 clear hz
 rcases hfr with rfl|rfl
 all_goals
  go_enter Tryz.func215,Tryz.ntmps215
  go_wp2_with (first
   |(go_at_call 249;refine (CP.out _).mono ?_;rintro e w2 ⟨rfl,hb2⟩;have HB2:=zAA hb2;have HZ2:=zAA (HZ.out.below hb2 HZ.out.lt);clear hb2)
   |(refine wpList_store_rowTo rfl 272 _ _ rfl rfl w2.heap.size CS rfl rfl 272 (jh.map aY).toArray (heap_alloc_new w2 _) HI.out (by rw [HSZ.out];rfl) HO.out ?_))
  have hW0:((w2.alloc (.cells #[.int .i64 0,.int .i64 0,.int .i64 0,.int .i64 0,.int .i64 0,.int .i64 0,.int .i64 0,.int .i64 0,.int .i64 0,.int .i64 0,.int .i64 0,.int .i64 0,.int .i64 0,.int .i64 0,.int .i64 0,.int .i64 0,.int .i64 0,.int .i64 0,.int .i64 0,.int .i64 0,.int .i64 0,.int .i64 0,.int .i64 0,.int .i64 0,.int .i64 0,.int .i64 0,.int .i64 0,.int .i64 0,.int .i64 0,.int .i64 0,.int .i64 0,.int .i64 0,.int .i64 0,.int .i64 0,.int .i64 0,.int .i64 0,.int .i64 0,.int .i64 0,.int .i64 0,.int .i64 0,.int .i64 0,.int .i64 0,.int .i64 0,.int .i64 0,.int .i64 0,.int .i64 0,.int .i64 0,.int .i64 0,.int .i64 0,.int .i64 0,.int .i64 0,.int .i64 0,.int .i64 0,.int .i64 0,.int .i64 0,.int .i64 0,.int .i64 0,.int .i64 0,.int .i64 0,.int .i64 0,.int .i64 0,.int .i64 0,.int .i64 0,.int .i64 0] 272)).setRow w2.heap.size CS).heap[w2.heap.size]? =some (.cells CS 272 (0,0)):=setRow_heap _ w2.heap.size (jh.map aY).toArray CS 272 (0,0) (heap_alloc_new w2 _)
  have hB0:Below w2.heap.size w2 ((w2.alloc (.cells #[.int .i64 0,.int .i64 0,.int .i64 0,.int .i64 0,.int .i64 0,.int .i64 0,.int .i64 0,.int .i64 0,.int .i64 0,.int .i64 0,.int .i64 0,.int .i64 0,.int .i64 0,.int .i64 0,.int .i64 0,.int .i64 0,.int .i64 0,.int .i64 0,.int .i64 0,.int .i64 0,.int .i64 0,.int .i64 0,.int .i64 0,.int .i64 0,.int .i64 0,.int .i64 0,.int .i64 0,.int .i64 0,.int .i64 0,.int .i64 0,.int .i64 0,.int .i64 0,.int .i64 0,.int .i64 0,.int .i64 0,.int .i64 0,.int .i64 0,.int .i64 0,.int .i64 0,.int .i64 0,.int .i64 0,.int .i64 0,.int .i64 0,.int .i64 0,.int .i64 0,.int .i64 0,.int .i64 0,.int .i64 0,.int .i64 0,.int .i64 0,.int .i64 0,.int .i64 0,.int .i64 0,.int .i64 0,.int .i64 0,.int .i64 0,.int .i64 0,.int .i64 0,.int .i64 0,.int .i64 0,.int .i64 0,.int .i64 0,.int .i64 0,.int .i64 0] 272)).setRow w2.heap.size CS):=oT ((Below.refl _ _).alloc (zAB _) _) (zAB _) CS
  have hZ0:=HZ2.out.below hB0 HZ2.out.lt
  have hT0:Below w.heap.size w ((w2.alloc (.cells #[.int .i64 0,.int .i64 0,.int .i64 0,.int .i64 0,.int .i64 0,.int .i64 0,.int .i64 0,.int .i64 0,.int .i64 0,.int .i64 0,.int .i64 0,.int .i64 0,.int .i64 0,.int .i64 0,.int .i64 0,.int .i64 0,.int .i64 0,.int .i64 0,.int .i64 0,.int .i64 0,.int .i64 0,.int .i64 0,.int .i64 0,.int .i64 0,.int .i64 0,.int .i64 0,.int .i64 0,.int .i64 0,.int .i64 0,.int .i64 0,.int .i64 0,.int .i64 0,.int .i64 0,.int .i64 0,.int .i64 0,.int .i64 0,.int .i64 0,.int .i64 0,.int .i64 0,.int .i64 0,.int .i64 0,.int .i64 0,.int .i64 0,.int .i64 0,.int .i64 0,.int .i64 0,.int .i64 0,.int .i64 0,.int .i64 0,.int .i64 0,.int .i64 0,.int .i64 0,.int .i64 0,.int .i64 0,.int .i64 0,.int .i64 0,.int .i64 0,.int .i64 0,.int .i64 0,.int .i64 0,.int .i64 0,.int .i64 0,.int .i64 0,.int .i64 0] 272)).setRow w2.heap.size CS):=((((Below.refl _ w).alloc (zAB _) (.cells (jh.map aY).toArray 272)).trans (HB2.out.mono (by simp)))).trans (hB0.mono (by have:=HB2.out.size;simp at this;omega))
  generalize ((w2.alloc (.cells #[.int .i64 0,.int .i64 0,.int .i64 0,.int .i64 0,.int .i64 0,.int .i64 0,.int .i64 0,.int .i64 0,.int .i64 0,.int .i64 0,.int .i64 0,.int .i64 0,.int .i64 0,.int .i64 0,.int .i64 0,.int .i64 0,.int .i64 0,.int .i64 0,.int .i64 0,.int .i64 0,.int .i64 0,.int .i64 0,.int .i64 0,.int .i64 0,.int .i64 0,.int .i64 0,.int .i64 0,.int .i64 0,.int .i64 0,.int .i64 0,.int .i64 0,.int .i64 0,.int .i64 0,.int .i64 0,.int .i64 0,.int .i64 0,.int .i64 0,.int .i64 0,.int .i64 0,.int .i64 0,.int .i64 0,.int .i64 0,.int .i64 0,.int .i64 0,.int .i64 0,.int .i64 0,.int .i64 0,.int .i64 0,.int .i64 0,.int .i64 0,.int .i64 0,.int .i64 0,.int .i64 0,.int .i64 0,.int .i64 0,.int .i64 0,.int .i64 0,.int .i64 0,.int .i64 0,.int .i64 0,.int .i64 0,.int .i64 0,.int .i64 0,.int .i64 0] 272)).setRow w2.heap.size CS)=W0 at hW0 hB0 hZ0 hT0⊢
  have hlt2:w.heap.size<w2.heap.size:=HZ2.out.lt
  have HC0:Hid (ay w [(w.heap.size,272,(jh.map aY).toArray),(w2.heap.size,272,CS)] [] W0):=zAA ⟨hT0,aa.cons hZ0 (aa.cons hW0 (ag _)),aE _⟩
  have HLT2:=zAA hlt2
  clear hW0 hB0 hZ0 hT0 HZ2 HB2 CP HZ hlt2
  generalize w2.heap.size=b8 at HC0 HLT2⊢
  go_loopg [7,21] n (fun g v7 v21=>fun wr=>∃(j a:Nat) (B:List Int),j+g=n∧v7= .int .i64 (a:Int)∧v21= .int .i64 (j:Int)∧a≤64∧B.length=64∧Hid (ck (l.drop j) (a:Int)=E)∧Hid (nD B (l.drop j) (a:Int)=BL)∧Hid (ay w [(w.heap.size,272,(B.map aY).toArray),(b8,272,CS)] [] wr))
  case atStart=>exact ⟨0,_,jh,by omega,rfl,rfl,by decide,by decide,HE,HBL,HC0⟩
  case round=>
   obtain ⟨j,a,B,hj,rfl,rfl,ha,hBl,HP,HQ,HC⟩:=hrel
   cases gk with
   |zero=>
    have hjn:j=n:=by omega
    have hlt:¬((j:Int)<(n:Int)):=by omega
    have hp:=HP.out
    have hq:=HQ.out
    rw [List.drop_eq_nil_of_le (by rw [HN.out];omega)] at hp hq
    have HP2:=zAA (show (0:Int)=E from hp)
    have HQ2:=zAA (show B=BL from hq)
    clear hp hq
    go_wp2_with fail
    go_ret2
    refine ⟨_,by rw [←HP2.out];rfl,HC.out.1,fun _=>⟨w.heap.size,rfl,by rw [←HQ2.out];exact HC.out.2.1.head⟩,fun h=>absurd HP2.out.symm h⟩
   |succ g=>
    have hlt:((j:Int)<(n:Int)):=by omega
    have hjl:j<l.length:=by rw [HN.out];omega
    obtain ⟨ad,rfl,hab,c0,c1⟩:=jU (HS.out.below HC.out.1) j hjl
    have hp:=HP.out
    have hq:=HQ.out
    rw [List.drop_eq_getElem_cons hjl] at hp hq
    obtain ⟨⟨p1,p2⟩,hpe⟩:∃p,l[j]=p:=⟨_,rfl⟩
    rw [hpe] at c0 c1 hp hq
    rw [qT] at hp
    dsimp only at c0 c1 hp
    have hq:nD (B.set (ni ((a:Int)+p1).toNat).toNat p2) (l.drop (j+1)) ((a:Int)+p1+1)=BL:=hq
    have HPP:=zAA hp;have HQQ:=zAA hq;have HBl:=zAA hBl
    have hw1:zAT.wrap ((j:Int)+1)=(j:Int)+1:=by rw [zAP];omega
    clear hp hq hpe hjl hBl
    cases hz:(p2==0) with
    |true=>
     have HEE:=zAA (show (10:Int)=E by have h:=HPP.out;rw [hz] at h;exact h)
     go_wp2_with (go_at_call 250;refine (jy _ _).mono ?_;rintro e w' ⟨rfl,rfl⟩)
     go_ret2
     exact ⟨_,by rw [←HEE.out];rfl,HC.out.1.alloc HC.out.1.size _,fun h=>absurd (HEE.out.trans h) (by decide),fun _=>rfl⟩
    |false=>
     cases hl:(decide (-127≤p2)&&decide (p2≤127)) with
     |false=>
      have HEE:=zAA (show (10:Int)=E by have h:=HPP.out;rw [hz,hl] at h;exact h)
      go_wp2_with (go_at_call 250;refine (jy _ _).mono ?_;rintro e w' ⟨rfl,rfl⟩)
      go_ret2
      exact ⟨_,by rw [←HEE.out];rfl,HC.out.1.alloc HC.out.1.size _,fun h=>absurd (HEE.out.trans h) (by decide),fun _=>rfl⟩
     |true=>
      by_cases hr0:p1<0
      ·have d0:decide (p1<0)=true:=decide_eq_true hr0
       have HEE:=zAA (show (11:Int)=E by have h:=HPP.out;rw [hz,hl,d0] at h;exact h)
       clear hr0
       go_wp2_with (go_at_call 250;refine (jy _ _).mono ?_;rintro e w' ⟨rfl,rfl⟩)
       go_ret2
       exact ⟨_,by rw [←HEE.out];rfl,HC.out.1.alloc HC.out.1.size _,fun h=>absurd (HEE.out.trans h) (by decide),fun _=>rfl⟩
      ·have d0:decide (p1<0)=false:=decide_eq_false hr0
       by_cases hr1:63 - (a:Int)<p1
       ·have d1:decide (63 - (a:Int)<p1)=true:=decide_eq_true hr1
        have HEE:=zAA (show (11:Int)=E by have h:=HPP.out;rw [hz,hl,d0,d1] at h;exact h)
        clear hr0 hr1
        go_wp2_with (go_at_call 250;refine (jy _ _).mono ?_;rintro e w' ⟨rfl,rfl⟩)
        go_ret2
        exact ⟨_,by rw [←HEE.out];rfl,HC.out.1.alloc HC.out.1.size _,fun h=>absurd (HEE.out.trans h) (by decide),fun _=>rfl⟩
       ·have d1:decide (63 - (a:Int)<p1)=false:=decide_eq_false hr1
        have HEE:=zAA (show ck (l.drop (j+1)) ((a:Int)+p1+1)=E by have h:=HPP.out;rw [hz,hl,d0,d1] at h;exact h)
        obtain ⟨r,rfl⟩:=Int.eq_ofNat_of_zero_le (by omega:0≤p1)
        obtain ⟨q,hqd⟩:∃q,q=a+r:=⟨_,rfl⟩
        have hq63:q≤63:=by omega
        obtain ⟨z,hze⟩:∃z:Nat,ni q=(z:Int):=⟨(ni q).toNat,by have:=tf q (by omega);omega⟩
        have hz63:z≤63:=by have:=tf q (by omega);omega
        have hqi:(a:Int)+(r:Int)=(q:Int):=by omega
        have HQ3:=zAA (show nD (B.set z p2) (l.drop (j+1)) ((q:Int)+1)=BL by have h:=HQQ.out;rw [hqi,zA9,hze,zA9] at h;exact h)
        rw [hqi] at HEE
        have HCA:=zAA (ao HC.out (.cells #[.int .i64 (r:Int),.int .i64 p2] 189))
        have x8:(wr.alloc (.cells #[.int .i64 (r:Int),.int .i64 p2] 189)).cell? ⟨b8,q,none⟩=some (.int .i64 (z:Int)):=by
         have h:=HCA.out.2.1.tail.head
         dsimp only at h
         rw [h.cell,HCS.out,IR q (by omega),hze]
        have xp:=(ab.new wr 189 #[.int .i64 (r:Int),.int .i64 p2]).cell 1
        have fz:=HCA.out.2.1.head.frozen z
        obtain ⟨vz,xz⟩:∃vz,(wr.alloc (.cells #[.int .i64 (r:Int),.int .i64 p2] 189)).cell? ⟨w.heap.size,z,none⟩=some vz:=by
         have h:=HCA.out.2.1.head
         dsimp only at h
         rw [h.cell,zAE]
         exact ⟨_,zAH (by rw [List.length_map,HBl.out];omega)⟩
        have hqn:¬((q:Int)<0):=by omega
        have hq64:(q:Int)<64:=by omega
        have hzn:¬((z:Int)<0):=by omega
        have hz64:(z:Int)<64:=by omega
        have hw2:zAT.wrap ((q:Int)+1)=(q:Int)+1:=by rw [zAP];omega
        have hw3:zAT.wrap ((a:Int)+(r:Int))=(q:Int):=by rw [hqi,zAP];omega
        have hne:b8≠w.heap.size:=by have:=HLT2.out;omega
        have HQD:=zAA hqd
        clear hr0 hr1 hze hqd HPP HQQ
        go_wp2_with (go_at_call 250;refine (jy _ _).mono ?_;rintro e w' ⟨rfl,rfl⟩)
        refine ai (fun w'=>w'.cell? ⟨b8,q,none⟩=some (.int .i64 (z:Int))∧w'.cell? ⟨wr.heap.size,1,none⟩=some (.int .i64 p2)) 5 (.take 0 (.take 1 (.take 2 (.take 3 (.take 4 .done))))) (by kernel_rfl) (by kernel_rfl) (by simp only [aR.out,Array.getD_eq_getD_getElem?,zAE,zAJ,zAI,zA2];rfl) (by simp only [zA7,zA8];rfl) (⟨x8,xp⟩) (fun PE hPE=>?_)
        iterate 5
         refine ah (v:=?_) rfl (by rfl) ?_ ?_
         rotate_left
         ·intro _ hSw;(try dsimp only at hSw);obtain ⟨s0,s1⟩:=hSw;go_simp;(try with_reducible rfl)
         simp only [zAC,zAG,zAF]
        refine hPE _ _ ?_
        clear hPE PE
        simp only [zAM,zAW]
        go_wp2_with fail
        refine ⟨rfl,?_⟩
        go_wp2_with fail
        go_roundg g
        case measure=>omega
        case rel=>
         refine ⟨j+1,q+1,B.set z p2,by omega,by simp,by simp,by omega,by rw [List.length_set];exact HBl.out,HEE,HQ3,zAA ?_⟩
         have h:=bM (iY HCA.out (zAB _) z (.int .i64 p2) (by simpa using hne) (by simp))
         rw [zAC,show ((B.map aY).set z (Value.int .i64 p2))=(B.set z p2).map aY by rw [List.map_set];rfl] at h
         exact h
def rs (dc:Int) (A:Option Addr) (n c:Nat) (intra:Bool):Value:= .agg #[.int .i64 dc,.slice A n c,.bool intra]
def AC (dc:Int) (n:Nat) (intra:Bool):Int:=
 if intra&&(decide (dc<1)||decide (255<dc)||dc==128) then 10 else if !intra&&(dc !=0||n==0) then 2 else 0
theorem GF (x:bB) (intra:Bool):cK x intra=if AC x.dc x.l.length intra==0 then ck x.l (eH intra) else AC x.dc x.l.length intra:=by
 have hl:(x.l==[])=(x.l.length==0):=by cases x.l<;>rfl
 unfold cK AC
 rw [hl]
 split
 ·rfl
 ·split
  ·rfl
  ·rfl
theorem yP (dc:Int) (A:Option Addr) (n c:Nat) (intra:Bool) (w:World):Calls Tryz.prog 216 #[rs dc A n c intra] w fun e w'=>e= .returned (.int .i64 (eH intra))∧Below w.heap.size w w':=by
 unfold rs
 cases intra with
 |false=>
  go_enter Tryz.func216,Tryz.ntmps216
  go_wp2
  go_ret
  exact ⟨rfl,(Below.refl _ _).alloc (zAB _) _⟩
 |true=>
  go_enter Tryz.func216,Tryz.ntmps216
  go_wp2
  go_ret
  exact ⟨rfl,(Below.refl _ _).alloc (zAB _) _⟩
theorem E5 (dc:Int) (A:Option Addr) (n c:Nat) (intra:Bool) (w:World):Calls Tryz.prog 176 #[rs dc A n c intra] w fun e w'=>e= .returned (.int .i64 (AC dc n intra))∧Below w.heap.size w w':=by
 unfold rs AC
 cases intra with
 |true=>
  rw [zAg,Bool.not_true,zA6]
  cases d1:decide (dc<1) with
  |true=>
   rw [zA0,zA0,if_pos rfl]
   go_enter Tryz.func176,Tryz.ntmps176
   go_wp2
   go_ret
   exact ⟨rfl,(Below.refl _ _).alloc (zAB _) _⟩
  |false=>
   cases d2:decide (255<dc) with
   |true=>
    rw [zAS,zA0,if_pos rfl]
    go_enter Tryz.func176,Tryz.ntmps176
    go_wp2
    go_ret
    exact ⟨rfl,(Below.refl _ _).alloc (zAB _) _⟩
   |false=>
    cases d3:(dc==128) with
    |true=>
     rw [zAS,zAS,if_pos rfl]
     go_enter Tryz.func176,Tryz.ntmps176
     go_wp2
     go_ret
     exact ⟨rfl,(Below.refl _ _).alloc (zAB _) _⟩
    |false=>
     rw [zAS,zAS,if_neg (by decide),if_neg (by decide)]
     go_enter Tryz.func176,Tryz.ntmps176
     go_wp2
     go_ret
     exact ⟨rfl,(Below.refl _ _).alloc (zAB _) _⟩
 |false=>
  rw [zA6,Bool.not_false,zAg,if_neg (by decide)]
  cases d1:(dc !=0) with
  |true=>
   rw [zA0,if_pos rfl]
   go_enter Tryz.func176,Tryz.ntmps176
   go_wp2
   go_ret
   exact ⟨rfl,(Below.refl _ _).alloc (zAB _) _⟩
  |false=>
   rw [zAS]
   rcases Nat.eq_zero_or_pos n with rfl|hn
   ·rw [if_pos (show ((0:Nat)==0)=true from rfl)]
    go_enter Tryz.func176,Tryz.ntmps176
    go_wp2
    go_ret
    exact ⟨rfl,(Below.refl _ _).alloc (zAB _) _⟩
   ·have d2:(n==0)=false:=by simp;omega
    have d3:((n:Int)==0)=false:=by simp;omega
    rw [d2,if_neg (by decide)]
    go_enter Tryz.func176,Tryz.ntmps176
    go_wp2
    go_ret
    exact ⟨rfl,(Below.refl _ _).alloc (zAB _) _⟩
set_option maxRecDepth 100000 in
theorem yQ (dc:Int) (l:List (Int×Int)) (A:Option Addr) (n c:Nat) (intra:Bool) (w:World) (hS:Sl w A (av bA l)) (hn:l.length=n) (hsz:n≤1099511627776):Calls Tryz.prog 177 #[rs dc A n c intra] w fun e w'=>e= .returned (.int .i64 (ck l (eH intra)))∧Below w.heap.size w w':=by
 have hfr:eH intra=0∨eH intra=1:=by cases intra;exact .inl rfl;exact .inr rfl
 have C1:=zAA (fun W=>yP dc A n c intra W)
 have C2:=zAA (fun W hW=>zz l A n c (eH intra) hfr W hW hn hsz)
 have HS:=zAA hS
 unfold rs at C1⊢
 generalize eH intra=fr at*
 obtain ⟨sp,hsp⟩:∃sp,ck l fr=sp:=⟨_,rfl⟩
 rw [hsp]
 clear hS hfr hn hsz
 go_enter Tryz.func177,Tryz.ntmps177
 go_wp2_with fail
 have hb0:ab (w.alloc (.cells #[.int .i64 dc,.slice A n c,.bool intra] 197)).drew w.heap.size 197 #[.int .i64 dc,.slice A n c,.bool intra]:=(ab.new w _ _).drew1
 have hB0:Below w.heap.size w (w.alloc (.cells #[.int .i64 dc,.slice A n c,.bool intra] 197)).drew:=((Below.refl w.heap.size w).alloc (zAB _) _).drew
 have y0:=hb0.cell 0;have y1:=hb0.cell 1;have y2:=hb0.cell 2
 have HL:=zAA hb0;have HB:=zAA hB0
 have HS0:=zAA (HS.out.below hB0)
 clear hb0 hB0
 refine ai (fun w'=>w'.cell? ⟨w.heap.size,0,none⟩=some (.int .i64 dc)∧w'.cell? ⟨w.heap.size,1,none⟩=some (.slice A n c)∧w'.cell? ⟨w.heap.size,2,none⟩=some (.bool intra)) 10 (.take 0 (.take 1 (.take 2 (.take 3 (.step 4 (.step 5 (.take 6 (.take 7 (.take 8 (.step 9 .done)))))))))) (by kernel_rfl) (by kernel_rfl) (by simp only [aR.out,Array.getD_eq_getD_getElem?,zAE,zAJ,zAI,zA2];rfl) (by simp only [zA7,zA8];rfl) (⟨y0,y1,y2⟩) (fun PE hPE=>?_)
 iterate 4
  refine ah (v:=?_) rfl (by rfl) ?_ ?_
  rotate_left
  ·intro _ hSw;(try dsimp only at hSw);obtain ⟨s0,s1,s2⟩:=hSw;go_simp;(try with_reducible rfl)
  simp only [zAC,zAG,zAF]
 refine aV (f:=216) rfl (by rfl) (by first|(go_simp;done)|(go_simp;rfl)) (C1.out _) ?_
 rintro e w2 ⟨rfl,hb2⟩
 have hL2:=HL.out.below hb2 HL.out.lt
 have HBb:=zAA (HB.out.trans (hb2.mono HB.out.size))
 refine ⟨_,rfl,_,fun _ h=>h,⟨hL2.cell 0,hL2.cell 1,hL2.cell 2⟩,?_⟩
 simp only [zAC,zAG,zAF]
 refine aV (f:=215) rfl (by rfl) (by first|(go_simp;done)|(go_simp;rfl)) (C2.out _ (HS0.out.below hb2)) ?_
 rintro e w3 ⟨v,rfl,hb3,_,_⟩
 rw [hsp]
 have hL3:=hL2.below hb3 hL2.lt
 have HBc:=zAA (HBb.out.trans (hb3.mono HBb.out.size))
 refine ⟨_,rfl,_,fun _ h=>h,⟨hL3.cell 0,hL3.cell 1,hL3.cell 2⟩,?_⟩
 simp only [zAC,zAG,zAF]
 iterate 3
  refine ah (v:=?_) rfl (by rfl) ?_ ?_
  rotate_left
  ·intro _ hSw;(try dsimp only at hSw);go_simp;(try with_reducible rfl)
  simp only [zAC,zAG,zAF]
 refine aw (v:=?_) (w':=?_) rfl (by rfl) ?_ ?_ ?_
 rotate_left 2
 ·go_simp;(try (constructor<;>with_reducible rfl))
 ·exact ⟨hL3.cell 0,hL3.cell 1,hL3.cell 2⟩
 simp only [zAC,zAG,zAF]
 refine hPE _ _ ?_
 clear hPE PE
 simp only [zAM,zAW]
 clear hb2 hb3 hL2 hL3 y0 y1 y2
 go_wp2_with fail
 refine ⟨rfl,?_⟩
 go_wp2_with fail
 go_ret
 exact ⟨rfl,HBc.out⟩
set_option maxRecDepth 100000 in
theorem qD (x:bB) (A:Option Addr) (n c:Nat) (intra:Bool) (w:World) (hS:Sl w A (av bA x.l)) (hn:x.l.length=n) (hsz:n≤1099511627776):Calls Tryz.prog 130 #[.agg #[.int .i64 x.dc,.slice A n c],.bool intra] w fun e w'=>e= .returned (.int .i64 (cK x intra))∧Below w.heap.size w w':=by
 have C1:=zAA (fun W=>E5 x.dc A n c intra W)
 have C2:=zAA (fun W hW=>yQ x.dc x.l A n c intra W hW hn hsz)
 have HS:=zAA hS
 rw [GF,hn]
 clear hS hn hsz
 obtain ⟨dc,l⟩:=x
 dsimp only at*
 generalize AC dc n intra=dp at*
 generalize ck l (eH intra)=sp at*
 unfold rs at C1 C2
 have i0:∀W:World,(Instr.index 199 (.agg #[.func (.func 176) #[.agg #[.int .i64 dc,.slice A n c,.bool intra]] #[],.func (.func 177) #[.agg #[.int .i64 dc,.slice A n c,.bool intra]] #[]]) (.int .i64 0)).run Tryz.prog W= .ok (.func (.func 176) #[.agg #[.int .i64 dc,.slice A n c,.bool intra]] #[]) W:=fun _=>by kernel_rfl
 have i1:∀W:World,(Instr.index 199 (.agg #[.func (.func 176) #[.agg #[.int .i64 dc,.slice A n c,.bool intra]] #[],.func (.func 177) #[.agg #[.int .i64 dc,.slice A n c,.bool intra]] #[]]) (.int .i64 1)).run Tryz.prog W= .ok (.func (.func 177) #[.agg #[.int .i64 dc,.slice A n c,.bool intra]] #[]) W:=fun _=>by kernel_rfl
 go_enter Tryz.func130,Tryz.ntmps130
 go_wp2_with fail
 go_loopg [17] 2 (fun g i=>fun wr=>∃j:Nat,j+g=2∧i= .int .i64 (j:Int)∧Hid ((1≤j→dp=0)∧(2≤j→sp=0)∧Below w.heap.size w wr))
 case atStart=>exact ⟨0,by omega,rfl,zAA ⟨by omega,by omega,((Below.refl _ _).alloc (zAB _) _).alloc (by simp) _⟩⟩
 case round=>
  obtain ⟨j,hj,rfl,HJ⟩:=hrel
  have hj4:j=0∨j=1∨j=2:=by omega
  rcases hj4 with rfl|rfl|rfl
  ·cases hd:(dp==0) with
   |true=>
    have HD:=zAA (show dp=0 by simpa using hd)
    have hd2:(dp !=0)=false:=by rw [bne,hd];rfl
    go_wp2_with (go_at_call 176;refine (C1.out _).mono ?_;rintro e w2 ⟨rfl,hb2⟩;have HB2:=zAA hb2;clear hb2)
    go_roundg 1
    case measure=>omega
    case rel=>exact ⟨1,by omega,rfl,zAA ⟨fun _=>HD.out,by omega,HJ.out.2.2.trans (HB2.out.mono HJ.out.2.2.size)⟩⟩
   |false=>
    have hd2:(dp !=0)=true:=by rw [bne,hd];rfl
    go_wp2_with (go_at_call 176;refine (C1.out _).mono ?_;rintro e w2 ⟨rfl,hb2⟩;have HB2:=zAA hb2;clear hb2)
    go_ret
    exact ⟨rfl,HJ.out.2.2.trans (HB2.out.mono HJ.out.2.2.size)⟩
  ·have hdp:=HJ.out.1 (by omega)
   subst hdp
   have HS2:=zAA (HS.out.below HJ.out.2.2)
   cases hd:(sp==0) with
   |true=>
    have HD:=zAA (show sp=0 by simpa using hd)
    have hd2:(sp !=0)=false:=by rw [bne,hd];rfl
    go_wp2_with (go_at_call 177;refine (C2.out _ HS2.out).mono ?_;rintro e w2 ⟨rfl,hb2⟩;have HB2:=zAA hb2;clear hb2)
    go_roundg 0
    case measure=>omega
    case rel=>exact ⟨2,by omega,rfl,zAA ⟨fun _=>trivial,fun _=>HD.out,HJ.out.2.2.trans (HB2.out.mono HJ.out.2.2.size)⟩⟩
   |false=>
    have hd2:(sp !=0)=true:=by rw [bne,hd];rfl
    go_wp2_with (go_at_call 177;refine (C2.out _ HS2.out).mono ?_;rintro e w2 ⟨rfl,hb2⟩;have HB2:=zAA hb2;clear hb2)
    go_ret
    exact ⟨rfl,HJ.out.2.2.trans (HB2.out.mono HJ.out.2.2.size)⟩
  ·have hdp:=HJ.out.1 (by omega)
   have hsp:=HJ.out.2.1 (by omega)
   subst hdp hsp
   go_wp2_with fail
   go_ret
   exact ⟨rfl,HJ.out.2.2⟩
def IA (k:Int) (pre:List Nat) (_:Unit):Prop:=∀j∈pre,(j:Int)+1≠k
def wi (h:Nat) (k:Int):List aI:=[(h,3,#[.int .i64 k]),(h+1,110,FU.toArray),(h+2,26,#[.int .i64 0])]
def kP (k:Int):List Value:=if gY k then qq k else FU
def mK (k:Int):Int:=if gY k then 0 else 18
theorem D0 (k:Int):∃a b c d e,kP k=[.bool a,.bool b,.bool c,.bool d,.bool e]:=by
 unfold kP
 split
 ·exact ⟨_,_,_,_,_,rfl⟩
 ·exact ⟨_,_,_,_,_,rfl⟩
set_option maxRecDepth 100000 in
set_option maxHeartbeats 4000000 in
theorem nw (k:Int) (w:World):Calls Tryz.prog 106 #[.int .i64 k] w fun e w'=>e= .returned (.tuple #[.agg (kP k).toArray,.int .i64 (mK k)])∧Below w.heap.size w w':=by
 refine (callsIn_wide (n:=5)).1 ?_
 refine callsIn_of_wp_marks Tryz.func106 rfl trivial ?_ rfl
 simp only [Tryz.ntmps106,zAO,zA1,zAU,zAZ,zAX,Array.replicate_succ,Array.replicate_zero,zAN,zAL,zAV,zAQ]
 refine wpIn_wide.2 ?_
 go_wp2_with (go_at_call 156;refine (xg _).mono ?_;rintro e w' ⟨rfl,rfl⟩)
 simp only [Nat.add_assoc,zAZ]
 refine (wpIn_wide (n:=5)).1 ?_
 refine tb (α:=Nat) (enc:=tB) (I:=cR w (IA k) (fun _ _=>wi w.heap.size k) (fun _ _=>[])) (I2:=cR w (IA k) (fun _ _=>wi w.heap.size k) (fun _ _=>[])) (S:=fun xs=>xs=zAD 10) (Sp:=fun pre=>pre<+:zAD 10)
  rfl (by decide) (gf:=199) (lb:= #[]) rfl trivial (enters_of Tryz.func199 (by kernel_rfl) rfl)
  (xf 4 (by decide) _ gC) (fun _=>rfl)
  (fun cd _ W=>mY w [(w.heap.size+1,110,(kP k).toArray),(w.heap.size+2,26,#[.int .i64 (mK k)])] cd W)
  (fun pre x g W=>cR w (IA k) (fun _ _=>(g,184,(fB x).toArray)::wi w.heap.size k) (fun _ _=>[]) pre W)
  (bq (by simp;omega) _ _ _) (bq (by simp;omega) _ _ _) (fun cd=>ik (by simp;omega) _ _) (fun x g=>bq (by simp;omega) _ _ _) ?start ?round ?done ?stop
 case start=>
  refine ⟨⟨(),(fun j hj=>by cases hj),?_,?_,aE _⟩⟩
  ·exact (((Below.refl _ _).alloc (zAB _) _).alloc (by simp) _).alloc (by simp;omega) _
  ·unfold wi
   refine aa.cons ?_ (aa.cons ?_ (aa.cons ?_ (ag _)))
   all_goals (repeat (first|(refine aD (ab.new _ _ _) ?_;simp [zAR];done)|refine ab.alloc ?_ _))
 case round=>
  apply Exists.intro
  refine And.intro ?_ ?_
  ·rintro lp pre x W ⟨⟨u,hu,hc⟩⟩ hsp
   have HU:=zAA hu;have HC:=zAA hc
   clear hu hc
   rw [AD]
   gi_wp2
   obtain ⟨g0,hg0⟩:∃g0,W.heap.size=g0:=⟨_,rfl⟩
   have hcc:=dO (ao HC.out (.cells (fB x).toArray 184)) (aD (ab.new W 184 (fB x).toArray) hg0)
   rw [hg0]
   exact ⟨⟨g0,rfl,⟨u,HU.out,hcc⟩⟩,ce (KeepsFrom.refl _ _) _⟩
  ·rintro lp pre x g W ⟨⟨u,hu,hc⟩⟩ hsp
   obtain ⟨hpr,hx,hxl⟩:=uP hsp
   obtain ⟨B0,hc0⟩:ab W g 184 (fB x).toArray∧aa (wi w.heap.size k) W:=⟨hc.2.1.head,hc.2.1.tail⟩
   unfold wi at hc0
   have x0:=hc0.head.cell 0
   have d1:W.cell? ⟨g,1,none⟩=some (.bool (pI ((x:Int)+1))):=by rw [B0.cell];rfl
   have d2:W.cell? ⟨g,2,none⟩=some (.bool (pQ ((x:Int)+1))):=by rw [B0.cell];rfl
   have d3:W.cell? ⟨g,3,none⟩=some (.bool (pV ((x:Int)+1))):=by rw [B0.cell];rfl
   have d4:W.cell? ⟨g,4,none⟩=some (.bool (pF ((x:Int)+1))):=by rw [B0.cell];rfl
   have d5:W.cell? ⟨g,5,none⟩=some (.bool (pC ((x:Int)+1))):=by rw [B0.cell];rfl
   have b1:=hc0.tail.head
   have b2:=hc0.tail.tail.head
   dsimp only at b1 b2
   have e0:W.cell? ⟨w.heap.size+1,0,none⟩=some (.bool false):=by rw [b1.cell];rfl
   have e1:W.cell? ⟨w.heap.size+1,1,none⟩=some (.bool false):=by rw [b1.cell];rfl
   have e2:W.cell? ⟨w.heap.size+1,2,none⟩=some (.bool false):=by rw [b1.cell];rfl
   have e3:W.cell? ⟨w.heap.size+1,3,none⟩=some (.bool false):=by rw [b1.cell];rfl
   have e4:W.cell? ⟨w.heap.size+1,4,none⟩=some (.bool false):=by rw [b1.cell];rfl
   have f0:=b1.frozen 0
   have f1:=b1.frozen 1
   have f2:=b1.frozen 2
   have f3:=b1.frozen 3
   have f4:=b1.frozen 4
   have h0:=b2.cell 0
   have h1:=b2.frozen 0
   have HC:=zAA hc;have HU:=zAA hu;have HB1:=zAA b1;have HB2:=zAA b2;have HXL:=zAA hxl;have HX:=zAA hx
   clear hc hu hc0 b1 b2 B0 hpr hx hxl hsp
   by_cases hk:(x:Int)+1=k
   ·have hkb:((x:Int)+1==k)=true:=by simpa using hk
    have HKE:=zAA hk
    clear hk
    gi_wp2_with fail
    have hin:gY k=true:=by have:=HXL.out;have:=HKE.out;have:=HX.out;simp [gY];omega
    have hc:=HC.out
    refine ⟨?_,rfl,?_,?_,aE _⟩
    ·exact ak (ak (ak (ak (ak (ak (KeepsFrom.refl _ _) _ _) _ _) _ _) _ _) _ _) _ _
    ·exact (((((hc.1.setCell (p:=⟨w.heap.size+1,0,none⟩) (by show w.heap.size≤_;simp) _).setCell (p:=⟨w.heap.size+1,1,none⟩) (by show w.heap.size≤_;simp) _).setCell (p:=⟨w.heap.size+1,2,none⟩) (by show w.heap.size≤_;simp) _).setCell (p:=⟨w.heap.size+1,3,none⟩) (by show w.heap.size≤_;simp) _).setCell (p:=⟨w.heap.size+1,4,none⟩) (by show w.heap.size≤_;simp) _).setCell (p:=⟨w.heap.size+2,0,none⟩) (by show w.heap.size≤_;simp) _
    ·unfold kP mK
     rw [if_pos hin,if_pos hin,←HKE.out]
     refine aa.cons ?_ (aa.cons ?_ (ag _))
     ·exact (((((HB1.out.set_ 0 _).set_ 1 _).set_ 2 _).set_ 3 _).set_ 4 _).far (p:=⟨w.heap.size+2,0,none⟩) (by simp) _
     ·exact (((((HB2.out.far (p:=⟨w.heap.size+1,0,none⟩) (by simp) _).far (p:=⟨w.heap.size+1,1,none⟩) (by simp) _).far (p:=⟨w.heap.size+1,2,none⟩) (by simp) _).far (p:=⟨w.heap.size+1,3,none⟩) (by simp) _).far (p:=⟨w.heap.size+1,4,none⟩) (by simp) _).set_ 0 _
   ·have hkb:((x:Int)+1==k)=false:=by simpa using hk
    have HKE:=zAA hk
    clear hk
    gi_wp2_with fail
    refine ⟨KeepsFrom.refl _ _,trivial,⟨(),?_,ar HC.out⟩⟩
    intro j hj
    rcases List.mem_append.1 hj with hj|hj
    ·exact HU.out j hj
    ·rw [List.mem_singleton] at hj;rw [hj];exact HKE.out
 case done=>
  rintro D xs W hD rfl ⟨u,hu,hc⟩ hK
  have hin:gY k=false:=by
   cases h:gY k with
   |false=>rfl
   |true=>
    simp [gY] at h
    exact absurd (by omega) (hu (k - 1).toNat (List.mem_range.2 (by omega)))
  have hcs:=hc.2.1
  unfold wi at hcs
  have b1:=hcs.tail.head
  have b2:=hcs.tail.tail.head
  dsimp only at b1 b2
  have e0:W.cell? ⟨w.heap.size+1,0,none⟩=some (.bool false):=by rw [b1.cell];rfl
  have e1:W.cell? ⟨w.heap.size+1,1,none⟩=some (.bool false):=by rw [b1.cell];rfl
  have e2:W.cell? ⟨w.heap.size+1,2,none⟩=some (.bool false):=by rw [b1.cell];rfl
  have e3:W.cell? ⟨w.heap.size+1,3,none⟩=some (.bool false):=by rw [b1.cell];rfl
  have e4:W.cell? ⟨w.heap.size+1,4,none⟩=some (.bool false):=by rw [b1.cell];rfl
  have f0:=b1.frozen 0
  have f1:=b1.frozen 1
  have f2:=b1.frozen 2
  have f3:=b1.frozen 3
  have f4:=b1.frozen 4
  have h0:=b2.cell 0
  have h1:=b2.frozen 0
  have HIN:=zAA hin;have HK:=zAA hK;have HB1:=zAA b1;have HB2:=zAA b2;have HBe:=zAA hc.1
  clear hin hK b1 b2 hcs hc hu
  gi_wp2_with fail
  go_wp2_with fail
  have hDp:D≠w.heap.size+1∧D≠w.heap.size+2:=by simp at hD;omega
  generalize hW2:((((((W.setCell ⟨w.heap.size+1,0,none⟩ (.bool false)).setCell ⟨w.heap.size+1,1,none⟩ (.bool false)).setCell ⟨w.heap.size+1,2,none⟩ (.bool false)).setCell ⟨w.heap.size+1,3,none⟩ (.bool false)).setCell ⟨w.heap.size+1,4,none⟩ (.bool false)).setCell ⟨w.heap.size+2,0,none⟩ (.int .i64 18))=W2
  have hK2:W2.heap[D]? =some (.deferred (some [])):=by
   rw [←hW2,Below.heap_setCell _ ⟨w.heap.size+2,0,none⟩ _ D hDp.2,Below.heap_setCell _ ⟨w.heap.size+1,4,none⟩ _ D hDp.1,Below.heap_setCell _ ⟨w.heap.size+1,3,none⟩ _ D hDp.1,Below.heap_setCell _ ⟨w.heap.size+1,2,none⟩ _ D hDp.1,Below.heap_setCell _ ⟨w.heap.size+1,1,none⟩ _ D hDp.1,Below.heap_setCell _ ⟨w.heap.size+1,0,none⟩ _ D hDp.1]
   exact HK.out
  have hc2:aa [(w.heap.size+1,110,(kP k).toArray),(w.heap.size+2,26,#[.int .i64 (mK k)])] W2:=by
   rw [←hW2]
   unfold kP mK
   rw [if_neg (by rw [HIN.out];decide),if_neg (by rw [HIN.out];decide)]
   refine aa.cons ?_ (aa.cons ?_ (ag _))
   ·exact (((((HB1.out.set_ 0 _).set_ 1 _).set_ 2 _).set_ 3 _).set_ 4 _).far (p:=⟨w.heap.size+2,0,none⟩) (by simp) _
   ·exact (((((HB2.out.far (p:=⟨w.heap.size+1,0,none⟩) (by simp) _).far (p:=⟨w.heap.size+1,1,none⟩) (by simp) _).far (p:=⟨w.heap.size+1,2,none⟩) (by simp) _).far (p:=⟨w.heap.size+1,3,none⟩) (by simp) _).far (p:=⟨w.heap.size+1,4,none⟩) (by simp) _).set_ 0 _
  have hb2:Below w.heap.size w W2:=by
   rw [←hW2]
   exact (((((HBe.out.setCell (p:=⟨w.heap.size+1,0,none⟩) (by show w.heap.size≤_;simp) _).setCell (p:=⟨w.heap.size+1,1,none⟩) (by show w.heap.size≤_;simp) _).setCell (p:=⟨w.heap.size+1,2,none⟩) (by show w.heap.size≤_;simp) _).setCell (p:=⟨w.heap.size+1,3,none⟩) (by show w.heap.size≤_;simp) _).setCell (p:=⟨w.heap.size+1,4,none⟩) (by show w.heap.size≤_;simp) _).setCell (p:=⟨w.heap.size+2,0,none⟩) (by show w.heap.size≤_;simp) _
  clear hW2
  have hc4:=cF (o':= .deferred none) hc2 hK2 rfl
  have hb4:=cq (o:= .deferred none) hb2 (D:=D) (by simp at hD;omega)
  obtain ⟨a,b,c,d,e,hv⟩:=D0 k
  rw [hv] at hc4⊢
  have q0:=hc4.head.cell 0
  have q1:=hc4.head.cell 1
  have q2:=hc4.head.cell 2
  have q3:=hc4.head.cell 3
  have q4:=hc4.head.cell 4
  have q5:=hc4.tail.head.cell 0
  simp only [zAE,zAJ,zAI] at q0 q1 q2 q3 q4 q5
  refine ef hK2 (v:= .tuple #[.agg #[.bool a,.bool b,.bool c,.bool d,.bool e],.int .i64 (mK k)]) ?_ ?_
  ·simp [results,Tryz.results106,go_sem,q0,q1,q2,q3,q4,q5]
  ·exact ⟨rfl,hb4⟩
 case stop=>
  rintro D cd pre W hD hsp ⟨rfl,hbel,hcs,_⟩ hK
  have HBel:=zAA hbel;have HCS:=zAA hcs;have HK:=zAA hK
  clear hbel hcs hK hsp
  gi_wp2_with fail
  have hc4:=cF (o':= .deferred none) HCS.out HK.out rfl
  have hb4:=cq (o:= .deferred none) HBel.out (D:=D) (by simp at hD;omega)
  obtain ⟨a,b,c,d,e,hv⟩:=D0 k
  rw [hv] at hc4⊢
  have q0:=hc4.head.cell 0
  have q1:=hc4.head.cell 1
  have q2:=hc4.head.cell 2
  have q3:=hc4.head.cell 3
  have q4:=hc4.head.cell 4
  have q5:=hc4.tail.head.cell 0
  simp only [zAE,zAJ,zAI] at q0 q1 q2 q3 q4 q5
  refine ef HK.out (v:= .tuple #[.agg #[.bool a,.bool b,.bool c,.bool d,.bool e],.int .i64 (mK k)]) ?_ ?_
  ·simp [results,Tryz.results106,go_sem,q0,q1,q2,q3,q4,q5]
  ·exact ⟨rfl,hb4⟩
theorem Ej {w:World} {base T D many:Nat} {N:List Nd} {Dt:DataW Value} {o o':Obj} (h:ej w base T N Dt many) (hD:w.heap[D]? =some o) (hm:∀es c,o≠ .map es c) (hc:o.isCells=false):ej (w.putObj D o') base T N Dt many:=by
 obtain ⟨v,mb,h1,h2,h3,h4,h5⟩:=h
 have hg:=grownBy_putObj' w D o'
 have hr:∀r,some D=some r→∃o:Obj,w.heap[r]? =some o∧o.isCells=false:=fun r e=>by cases e;exact ⟨o,hD,hc⟩
 refine ⟨v,mb,df h1 hg hr,lq h2 hg hr,?_,h4,h5⟩
 obtain ⟨es,clock,hh,r⟩:=h3
 refine ⟨es,clock,(World.putObj_heap_other (fun e=>?_)).trans hh,r⟩
 rw [e,hD] at hh
 cases hh
 exact hm _ _ rfl
theorem oc (j:Nat) (h:j<10):aA.take (j+1)=aA.take j++[aA.getD j []]:=by revert j;decide+kernel
theorem od (j:Nat) (h:j<10):aM.take (j+1)=aM.take j++[(j:Int)+1]:=by revert j;decide+kernel
set_option maxRecDepth 100000 in
set_option maxHeartbeats 4000000 in
theorem uE (w:World):Calls Tryz.prog 157 #[] w (rf aA aM w):=by
 refine (callsIn_wide (n:=5)).1 ?_
 refine callsIn_of_wp_marks Tryz.func157 rfl trivial ?_ rfl
 simp only [Tryz.ntmps157,zAO,zAU,zAX,Array.replicate_succ,Array.replicate_zero,zAN,zAL,zAV,zAQ]
 refine wpIn_wide.2 ?_
 go_wp2_with (go_at_call 156;refine (xg _).mono ?_;rintro e w' ⟨rfl,rfl⟩)
 refine (wpIn_wide (n:=5)).1 ?_
 refine tb (α:=Nat) (enc:=tB) (I:=cR w (fun _ (v:Value×Value)=>Bi v.1∧Bi v.2) (fun _ v=>mT w.heap.size v.1 v.2) (fun pre v=>mU w.heap.size aA aM pre.length v.1 v.2)) (I2:=cR w (fun _ (v:Value×Value)=>Bi v.1∧Bi v.2) (fun _ v=>mT w.heap.size v.1 v.2) (fun pre v=>mU w.heap.size aA aM pre.length v.1 v.2)) (S:=fun xs=>xs=zAD 10) (Sp:=fun pre=>pre<+:zAD 10)
  rfl (by decide) (gf:=199) (lb:= #[]) rfl trivial (enters_of Tryz.func199 (by kernel_rfl) rfl)
  (xf 4 (by decide) _ gC) (fun _=>rfl)
  (fun _ _ _=>False)
  (fun pre x g W=>cR w (fun _ (v:Value×Value)=>Bi v.1∧Bi v.2) (fun _ v=>(g,184,(fB x).toArray)::mT w.heap.size v.1 v.2) (fun pre v=>mU w.heap.size aA aM pre.length v.1 v.2) pre W)
  (bq (by simp;omega) _ _ _) (bq (by simp;omega) _ _ _) (fun _ _ _ _ _ h _ _=>h) (fun x g=>bq (by simp;omega) _ _ _) ?start ?round ?done ?stop
 case start=>
  refine ⟨⟨(.slice none 0 0,.slice none 0 0),⟨⟨_,_,_,rfl⟩,⟨_,_,_,rfl⟩⟩,?_,?_,?_⟩⟩
  ·exact ((Below.refl _ _).alloc (zAB _) _).alloc (by simp) _
  ·refine aa.cons ?_ (aa.cons ?_ (ag _))
   all_goals (repeat (first|(refine aD (ab.new _ _ _) ?_;simp [zAR];done)|refine ab.alloc ?_ _))
  ·exact ap.cons (zAb _ _ _ _) (ap.cons (zAb _ _ _ _) (aE _))
 case round=>
  apply Exists.intro
  refine And.intro ?_ ?_
  ·rintro lp pre x W ⟨⟨u,hu,hc⟩⟩ hsp
   have HU:=zAA hu;have HC:=zAA hc
   clear hu hc
   rw [AD]
   gi_wp2
   obtain ⟨g0,hg0⟩:∃g0,W.heap.size=g0:=⟨_,rfl⟩
   have hcc:=dO (ao HC.out (.cells (fB x).toArray 184)) (aD (ab.new W 184 (fB x).toArray) hg0)
   rw [hg0]
   exact ⟨⟨g0,rfl,⟨u,HU.out,hcc⟩⟩,ce (KeepsFrom.refl _ _) _⟩
  ·rintro lp pre x g W ⟨⟨⟨v1,v2⟩,⟨⟨A1,n1,c1,rfl⟩,⟨A2,n2,c2,rfl⟩⟩,hc⟩⟩ hsp
   obtain ⟨hpr,hx,hxl⟩:=uP hsp
   unfold mT mU at hc
   dsimp only at hc
   have HC:=zAA hc;have HXL:=zAA hxl;have HX:=zAA hx
   have hl10:pre.length≤9:=by omega
   clear hc hpr hx hxl hsp
   obtain ⟨sc,hsc⟩:∃sc,aA.getD x []=sc:=⟨_,rfl⟩
   gi_wp2_with fail
   refine fm (fun w'=>aa [(g,184,(fB x).toArray),(w.heap.size,138,#[.slice A1 n1 c1]),(w.heap.size+1,61,#[.slice A2 n2 c2])] w') 8 (.take 0 (.take 1 (.take 2 (.take 5 (.take 6 (.fork 3 (.fork 4 (.step 7 (.done)) 7 (.step 4 (.done))) 7 (.step 3 (.step 4 (.done))))))))) (by kernel_rfl) (by kernel_rfl) (by simp only [aR.out,Array.getD_eq_getD_getElem?,zAE,zAJ,zAI,zA2];rfl) (by simp only [zA7,zA8];rfl) (HC.out.2.1) (fun PE hPE=>?_)
   iterate 5
    refine ah (v:=?_) rfl (by rfl) ?_ ?_
    rotate_left
    ·intro _ hSw;(try dsimp only at hSw);have z1:=hSw.tail.head.cell 0;have z2:=hSw.tail.tail.head.cell 0;have z3:_=some (Value.string (bs (aA.getD x []))):=hSw.head.cell 0;go_simp;(try with_reducible rfl)
    simp only [zAC,zAG,zAF]
   have HW:=zAA (bM HC.out)
   refine ⟨?_,?_⟩
   ·refine aw (v:=?_) (w':=?_) rfl (by rfl) ?_ ?_ ?_
    rotate_left 2
    ·go_simp;(try (constructor<;>with_reducible rfl))
    ·exact (ao HW.out _).2.1
    refine ⟨?_,?_⟩
    ·refine jg lc rfl rfl rfl rfl (ao HW.out (.cells #[bE (aA.getD x [])] 9)) rfl (ab.new _ _ _) (m:=1) (news:=[bE (aA.getD x [])]) rfl (mS _) (by omega) ⟨zAB _,(ao HW.out (.cells #[bE (aA.getD x [])] 9)).1.size⟩ (by simp) (by simp) (fun v' W5 hc5 hb5 hk5=>⟨hc5.2.1,?_⟩)
     obtain ⟨A5,c5,e5,_⟩:=dg hc5.2.2.head
     dsimp only at e5
     subst e5
     refine aw (v:=?_) (w':=?_) rfl (by rfl) ?_ ?_ ?_
     rotate_left 2
     ·go_simp;(try (constructor<;>with_reducible rfl))
     ·exact hc5.2.1.alloc _
     have HCf:=zAA (ao hc5 (.cells #[aY ((x:Int)+1)] 3))
     have HB7:=zAA (ab.new W5 3 #[aY ((x:Int)+1)])
     have HKF:=zAA (fun B=>ce (di (ce (fb (KeepsFrom.refl B W)) (.cells #[bE (aA.getD x [])] 9)) (hk5 B)) (.cells #[aY ((x:Int)+1)] 3))
     refine hPE _ _ ?_
     clear hPE PE
     simp only [zAM,zAW]
     go_wp2_with (refine gW mF rfl rfl rfl (eV HCf.out) rfl HB7.out (m:=1) (news:=[aY ((x:Int)+1)]) rfl (ob _) (by omega) ⟨zAB _,HCf.out.1.size⟩ (by simp) (by simp) ?_;intro v2 W9 hc9 hb9 hk9;obtain ⟨A8,c8,e8,_⟩:=dg hc9.2.2.head;dsimp only at e8;subst e8;have HC9:=zAA (ar hc9);have HK9:=zAA (fun B=>di (HKF.out B) (hk9 B));have y1:=hc9.2.1.tail.head.cell 0;have y2:=hc9.2.1.tail.tail.head.cell 0;have yf1:=hc9.2.1.tail.head.frozen 0;have yf2:=hc9.2.1.tail.tail.head.frozen 0;clear hc9 hb9 hk9)
     refine ⟨rfl,?_⟩
     gi_wp2_with fail
     have hrd:=fun B=>oM HC9.out HK9.out B (by rw [HX.out];exact oc _ (by omega)) (by rw [HX.out];exact od _ (by omega)) rfl
     refine ⟨(hrd _).1,trivial,⟨⟨(.slice A5 (pre.length+1) c5,.slice A8 (pre.length+1) c8),⟨⟨_,_,_,rfl⟩,⟨_,_,_,rfl⟩⟩,?_⟩⟩⟩
     rw [zAK]
     exact (hrd 0).2
    ·refine aw (v:=?_) (w':=?_) rfl (by rfl) ?_ ?_ ?_
     rotate_left 2
     ·go_simp;(try (constructor<;>with_reducible rfl))
     ·exact ((ao HW.out (.cells #[bE (aA.getD x [])] 9)).2.1).alloc _
     refine jg lc rfl rfl rfl rfl (ao (ao HW.out (.cells #[bE (aA.getD x [])] 9)) (.cells #[aY ((x:Int)+1)] 3)) rfl ((ab.new _ _ _).alloc _) (m:=1) (news:=[bE (aA.getD x [])]) rfl (mS _) (by omega) ⟨zAB _,(ao (ao HW.out (.cells #[bE (aA.getD x [])] 9)) (.cells #[aY ((x:Int)+1)] 3)).1.size⟩ (by simp) (by simp) (fun v' W5 hc5 hb5 hk5=>⟨hc5.2.1,?_⟩)
     obtain ⟨A5,c5,e5,_⟩:=dg hc5.2.2.head
     dsimp only at e5
     subst e5
     have HCf:=zAA hc5
     have HB7:=zAA (aD (g':=W.heap.size+1) (hb5 _ _ _ (ab.new ((zAe W).alloc (.cells #[bE (aA.getD x [])] 9)) 3 #[aY ((x:Int)+1)]) (by decide)) (zAR _ _))
     have HKF:=zAA (fun B=>di (ce (ce (fb (KeepsFrom.refl B W)) (.cells #[bE (aA.getD x [])] 9)) (.cells #[aY ((x:Int)+1)] 3)) (hk5 B))
     refine hPE _ _ ?_
     clear hPE PE
     simp only [zAM,zAW]
     go_wp2_with (refine gW mF rfl rfl rfl (eV HCf.out) rfl HB7.out (m:=1) (news:=[aY ((x:Int)+1)]) rfl (ob _) (by omega) ⟨zAB _,HCf.out.1.size⟩ (by simp) (by simp) ?_;intro v2 W9 hc9 hb9 hk9;obtain ⟨A8,c8,e8,_⟩:=dg hc9.2.2.head;dsimp only at e8;subst e8;have HC9:=zAA (ar hc9);have HK9:=zAA (fun B=>di (HKF.out B) (hk9 B));have y1:=hc9.2.1.tail.head.cell 0;have y2:=hc9.2.1.tail.tail.head.cell 0;have yf1:=hc9.2.1.tail.head.frozen 0;have yf2:=hc9.2.1.tail.tail.head.frozen 0;clear hc9 hb9 hk9)
     refine ⟨rfl,?_⟩
     gi_wp2_with fail
     have hrd:=fun B=>oM HC9.out HK9.out B (by rw [HX.out];exact oc _ (by omega)) (by rw [HX.out];exact od _ (by omega)) rfl
     refine ⟨(hrd _).1,trivial,⟨⟨(.slice A5 (pre.length+1) c5,.slice A8 (pre.length+1) c8),⟨⟨_,_,_,rfl⟩,⟨_,_,_,rfl⟩⟩,?_⟩⟩⟩
     rw [zAK]
     exact (hrd 0).2
   ·refine aw (v:=?_) (w':=?_) rfl (by rfl) ?_ ?_ ?_
    rotate_left 2
    ·go_simp;(try (constructor<;>with_reducible rfl))
    ·exact (ao HW.out _).2.1
    refine aw (v:=?_) (w':=?_) rfl (by rfl) ?_ ?_ ?_
    rotate_left 2
    ·go_simp;(try (constructor<;>with_reducible rfl))
    ·exact ((ao HW.out (.cells #[aY ((x:Int)+1)] 3)).2.1).alloc _
    refine jg lc rfl rfl rfl rfl (ao (ao HW.out (.cells #[aY ((x:Int)+1)] 3)) (.cells #[bE (aA.getD x [])] 9)) rfl (aD (ab.new ((zAe W).alloc (.cells #[aY ((x:Int)+1)] 3)) _ _) (zAR _ _)) (m:=1) (news:=[bE (aA.getD x [])]) rfl (mS _) (by omega) ⟨zAB _,(ao (ao HW.out (.cells #[aY ((x:Int)+1)] 3)) (.cells #[bE (aA.getD x [])] 9)).1.size⟩ (by simp) (by simp) (fun v' W5 hc5 hb5 hk5=>⟨hc5.2.1,?_⟩)
    obtain ⟨A5,c5,e5,_⟩:=dg hc5.2.2.head
    dsimp only at e5
    subst e5
    have HCf:=zAA hc5
    have HB7:=zAA (aD (g':=W.heap.size) (hb5 _ _ _ ((ab.new (zAe W) 3 #[aY ((x:Int)+1)]).alloc (.cells #[bE (aA.getD x [])] 9)) (by decide)) rfl)
    have HKF:=zAA (fun B=>di (ce (ce (fb (KeepsFrom.refl B W)) (.cells #[aY ((x:Int)+1)] 3)) (.cells #[bE (aA.getD x [])] 9)) (hk5 B))
    refine hPE _ _ ?_
    clear hPE PE
    simp only [zAM,zAW]
    go_wp2_with (refine gW mF rfl rfl rfl (eV HCf.out) rfl HB7.out (m:=1) (news:=[aY ((x:Int)+1)]) rfl (ob _) (by omega) ⟨zAB _,HCf.out.1.size⟩ (by simp) (by simp) ?_;intro v2 W9 hc9 hb9 hk9;obtain ⟨A8,c8,e8,_⟩:=dg hc9.2.2.head;dsimp only at e8;subst e8;have HC9:=zAA (ar hc9);have HK9:=zAA (fun B=>di (HKF.out B) (hk9 B));have y1:=hc9.2.1.tail.head.cell 0;have y2:=hc9.2.1.tail.tail.head.cell 0;have yf1:=hc9.2.1.tail.head.frozen 0;have yf2:=hc9.2.1.tail.tail.head.frozen 0;clear hc9 hb9 hk9)
    refine ⟨rfl,?_⟩
    gi_wp2_with fail
    have hrd:=fun B=>oM HC9.out HK9.out B (by rw [HX.out];exact oc _ (by omega)) (by rw [HX.out];exact od _ (by omega)) rfl
    refine ⟨(hrd _).1,trivial,⟨⟨(.slice A5 (pre.length+1) c5,.slice A8 (pre.length+1) c8),⟨⟨_,_,_,rfl⟩,⟨_,_,_,rfl⟩⟩,?_⟩⟩⟩
    rw [zAK]
    exact (hrd 0).2
 case done=>
  rintro D xs W hD hxs ⟨⟨⟨v1,v2⟩,_,hc⟩⟩ hK
  subst hxs
  unfold mT mU at hc
  dsimp only at hc
  rw [zAa,show aA.take 10=aA by kernel_rfl,show aM.take 10=aM by kernel_rfl] at hc
  obtain ⟨A,B,c,d,rfl,rfl,hA,hB,hb⟩:=Bj (W:=W) (cs:=aA) (ns:=aM) ⟨hc.1,ag _,hc.2.2⟩ (by decide) (by kernel_rfl)
  have CM:=zAA (pw oh A B c d W hA hB)
  have HB:=zAA hb
  have y1:=hc.2.1.head.cell 0
  have y2:=hc.2.1.tail.head.cell 0
  have HK:=zAA hK
  rw [gu] at CM y1 y2
  clear hc hA hB hb hK
  gi_wp2_with fail
  go_wp2_with (go_at_call 201;refine CM.out.mono ?_;rintro e w' ⟨T,rfl,hpt⟩;have HPT:=zAA hpt;clear hpt)
  have hK2:w'.heap[D]? =some (.deferred (some [])):=(HPT.out.2.block D (Array.getElem?_eq_some_iff.1 HK.out).1).trans HK.out
  refine ef hK2 (v:= .pointer (some ⟨T,0,none⟩)) (by simp [results,Tryz.results157,go_sem]) ?_
  have hs:=HB.out.size
  have hDl:=(Array.getElem?_eq_some_iff.1 HK.out).1
  refine ⟨W.heap.size,T,rfl,Ej HPT.out.1 hK2 (fun _ _ h=>by cases h) rfl,cq (HB.out.trans (HPT.out.2.mono hs)) (by simp at hD;omega)⟩
 case stop=>
  rintro D cd pre W hD hsp h hK
  exact h.elim
theorem Fs (A:Option Addr) (n c:Nat) (l:List UInt8) (i:Int) (w:World) (hA:Sl w A (l.map af)) (hn:l.length=n) (hsz:n≤2 ^ 47) (hi: -9223372036854775808≤i∧i≤9223372036854775807):
  Calls Tryz.prog 254 #[.slice A n c,.int .i64 i] w fun e w'=>e= .returned (.tuple #[.int .i64 (ac aA aM l i).1,.int .i64 (ac aA aM l i).2.1,.int .i64 (ac aA aM l i).2.2])∧Below w.heap.size w w':=by
 have HA:=zAA hA;have Hn:=zAA hn
 clear hA hn
 go_enter Tryz.func254,Tryz.ntmps254
 go_wp2_with (first
  |(go_at_call 157;refine (uE _).mono ?_;rintro e w1 ⟨base,T,rfl,hpt,hb1⟩;have HPT:=zAA hpt;have HB1:=zAA hb1;clear hpt hb1)
  |(go_at_call 275;refine (rp oh _ base T HPT.out A n c l i (HA.out.below HB1.out) Hn.out hsz hi).mono ?_;rintro e w2 ⟨rfl,hb2⟩;have HB2:=zAA hb2;clear hb2))
 go_ret3
 exact ⟨rfl,HB1.out.trans (HB2.out.mono HB1.out.size)⟩
theorem DN:aM=(zAD aA.length).map fun i:Nat=>1+(i:Int):=by
 unfold aM
 rw [gu]
 apply List.map_congr_left
 intro j _
 omega
theorem yI {k:Int} (h1: -1000000≤k) (h2:k≤1000000):(Lit.int .i64 k).wf=true:=by
 have e1:zAT.min= -9223372036854775808:=by kernel_rfl
 have e2:zAT.max=9223372036854775807:=by kernel_rfl
 simp [Lit.wf,e1,e2]
 omega
theorem BV {k:Int} (h:gY k=true):(dS aA aM k).getD []=eI k∧(dS aA aM k).isSome=true:=by
 simp only [gY,zAc,decide_eq_true_eq] at h
 rw [DN,ph]
 unfold eI dG
 refine ⟨rfl,?_⟩
 rw [if_neg (by omega),zAH (by rw [gu];omega)]
 rfl
theorem Ft (k:Int) (w:World) (h:gY k=true):Calls Tryz.prog 107 #[.int .i64 k] w fun e w'=>e= .returned (.tuple #[.string (bs (eI k)),.int .i64 0])∧Below w.heap.size w w':=by
 have hk:=BV h
 simp only [gY,zAc,decide_eq_true_eq] at h
 obtain ⟨h1,h2⟩:=h
 have CP:=zAA (fun W base T hT=>xS oh W base T hT k (yI (by omega) (by omega)))
 rw [hk.1,hk.2] at CP
 clear hk
 go_enter Tryz.func107,Tryz.ntmps107
 go_wp2_with (first
  |(go_at_call 157;refine (uE _).mono ?_;rintro e w1 ⟨base,T,rfl,hpt,hb1⟩;have HPT:=zAA hpt;have HB1:=zAA hb1;clear hpt hb1)
  |(go_at_call 158;refine (CP.out _ base T HPT.out).mono ?_;rintro e w2 ⟨rfl,hb2⟩;have HB2:=zAA hb2;clear hb2))
 go_ret2
 exact ⟨rfl,HB1.out.trans (HB2.out.mono HB1.out.size)⟩
end Go.Proofs.YthhijgcfbjcgiaaGreatDoor
