/- MPut -/
import Derived.Test.YthhijgcfbjcgiaaGreatDoorS34
import Derived.Test.YthhijgcfbjcgiaaGreatDoorS24
import Derived.Test.YthhijgcfbjcgiaaGreatDoorS28
namespace Go.Proofs.YthhijgcfbjcgiaaGreatDoor
open Go Go.RowKit
attribute [local go_sem] Oper.semAt_some
open Go.Lib renaming hid→zAA,join→zAW
open List renaming length_append→zAB,setIfInBounds_toArray→zAC,length_map→zAD,all_eq_true→zAE,append_nil→zAF,mem_of_getElem?→zAG,set_cons_succ→zAH,set_cons_zero→zAI,getElem?_map→zAJ,take_of_length_le→zAK,append_assoc→zAN,flatten_cons→zAO,take_add_one→zAP,getElem_mem→zAS,length_cons→zAT,map_cons→zAV,map_map→zAX,map_nil→zAY
open Nat renaming le_refl→zAL,le_trans→zAM,lt_or_ge→zAZ,zero_add→zA0
open Bool renaming and_eq_true→zAQ
open Go.IntKind renaming wrap_i64→zAR,i64→zA1
open Go.World renaming drew→zAU
theorem xe (ts:List (List UInt8)):zAW ts []=ts.flatten:=by
 cases ts with
 |nil=>rfl
 |cons t ts=>
  rw [Lib.join_cons]
  unfold Lib.joinTail
  simp
set_option maxRecDepth 100000 in
theorem pp (bk o c:Nat) (ts:List (List UInt8)) (w:World) (hcells:∀(j:Nat) t,ts[j]? =some t→w.cell? ⟨bk,o+j,none⟩=some (.string (bs t))) (hbk:bk<w.heap.size) (hN:ts.length≤1000) (hcap:ts.length≤c) (hlen:ts.flatten.length≤1000000):
  Calls Tryz.prog 109 #[.slice (some ⟨bk,o,none⟩) ts.length c] w fun e w'=>e= .returned (.string (bs ts.flatten))∧Below w.heap.size w w':=by
 have e1:((ts.map bs).map (·.data.toList))=ts:=by rw [zAX];exact (List.map_congr_left (fun t _=>eA t)).trans (List.map_id _)
 have C:=Tryz.strings_Join bk o c (ts.map bs) ⟨#[]⟩ w (fun j t h=>by
  rw [zAJ] at h
  obtain ⟨t',h1,rfl⟩:=Option.map_eq_some_iff.1 h
  exact hcells j t' h1) hbk (by rw [zAD];omega) (by rw [zAD];exact hcap) (by rw [e1];show (zAW ts []).length≤_;rw [xe];omega)
 rw [e1,zAD] at C
 have C:=zAA (show Calls Tryz.prog 160 #[.slice (some ⟨bk,o,none⟩) ts.length c,.string ⟨#[]⟩] w fun e w'=>e= .returned (.string (bs ts.flatten))∧Below w.heap.size w w' by
  have h:zAW ts (ByteArray.mk #[]).data.toList=ts.flatten:=xe ts
  rw [h] at C
  exact C)
 generalize ts.length=n at*
 generalize ts.flatten=t at*
 clear hcells hbk hN hcap hlen e1
 go_enter Tryz.func109,Tryz.ntmps109
 go_wp2_with (go_at_call 160;refine C.out.mono ?_;rintro e w2 ⟨rfl,hb2⟩;have HB2:=zAA hb2;clear hb2)
 go_ret
 exact ⟨rfl,HB2.out⟩
theorem Dz (d j:Nat) (h:j<5):(ax d 5).take (j+1)=(ax d 5).take j++[if d / 2 ^ (4 - j) % 2=0 then 48 else 49]:=by
 rw [zAP]
 congr 1
 have hh:(ax d 5)[j]? =some (if d / 2 ^ (4 - j) % 2=0 then 48 else 49):=by
  unfold ax
  rw [zAJ,List.getElem?_range h]
  rfl
 rw [hh]
 rfl
theorem uC (k:Int):(eI k).length≤24:=by
 unfold eI
 cases h:dG aA 1 k with
 |none=>simp
 |some c=>
  unfold dG at h
  split at h
  ·cases h
  ·have hm:=zAG h
   have ha:aA.all (fun c=>decide (c.length≤24))=true:=by kernel_rfl
   simpa using zAE.1 ha c hm
theorem Gq (k:Int):(cy k).length≤24:=by
 unfold cy
 cases h:dG aj (-16) k with
 |none=>simp
 |some c=>
  unfold dG at h
  split at h
  ·cases h
  ·have hm:=zAG h
   have ha:aj.all (fun c=>decide (c.length≤24))=true:=by kernel_rfl
   simpa using zAE.1 ha c hm
theorem oq (a b:Int):(fy a b).length≤24:=Gq _
theorem xE (k:Int):(i6 k).length≤24:=by
 unfold i6
 cases h:dG bH 1 k with
 |none=>simp
 |some c=>
  unfold dG at h
  split at h
  ·cases h
  ·have hm:=zAG h
   have ha:bH.all (fun c=>decide (c.length≤24))=true:=by kernel_rfl
   simpa using zAE.1 ha c hm
theorem um:∀(l:List (Int×Int)) (f:Bool),(dj l f).length≤21*l.length
 |[],_=>by simp [dj]
 |p::l,f=>by
  have h1:=kx p f
  have h2:=um l false
  show (cH p f++dj l false).length≤_
  rw [zAB,zAT]
  omega
theorem E6 {x:bB} {intra:Bool} (h:cK x intra=0):(bU x intra).length≤1400:=by
 obtain ⟨h1,_⟩:=tl h
 have hfr:0≤eH intra∧eH intra≤1:=by cases intra<;>decide
 obtain ⟨h2,_⟩:=mR x.l (eH intra) hfr.1 (by omega) h1
 have h3:=um x.l (!intra)
 have h4:bJ.length=2:=rfl
 unfold bU
 rw [zAB,zAB,h4]
 split
 ·simp [ax];omega
 ·simp;omega
theorem Fg {S2:List UInt8} {xs:List dF} {bI:Bool} (h1:S2.length≤101) (h2:∀p∈xs,(bU p.1 bI).length≤1400) (h3:xs.length≤64):([S2]++xs.map fun p=>bU p.1 bI).flatten.length≤1000000:=by
 have h:∀ys:List dF,(∀p∈ys,(bU p.1 bI).length≤1400)→(ys.map fun p=>bU p.1 bI).flatten.length≤1400*ys.length:=by
  intro ys
  induction ys with
  |nil=>intro _;simp
  |cons y ys ih=>
   intro hy
   have a:=hy y (by simp)
   have b:=ih (fun p hp=>hy p (by simp [hp]))
   rw [zAV,zAO,zAB,zAT]
   omega
 have h4:=h xs h2
 rw [List.flatten_append,zAB]
 simp only [zAO,List.flatten_nil,zAF]
 omega
theorem FK {w:World} {base n:Nat} {v:Value} {ts:List (List UInt8)} (h:w.ownsRow base 9 1 v n (ts.map bE)) (hn:n=ts.length) (h0:0<ts.length):∃g c,v= .slice (some ⟨g,0,none⟩) ts.length c∧ts.length≤c∧(∀(j:Nat) t,ts[j]? =some t→w.cell? ⟨g,0+j,none⟩=some (.string (bs t)))∧g<w.heap.size:=by
 subst hn
 rcases h.2 with ⟨rfl,h1⟩|⟨g,cap,cur,rfl,hbg,hh,h1,h2,h3,h4⟩
 ·omega
 ·refine ⟨g,cap,rfl,h1,fun j t hj=>?_,?_⟩
  ·have hl:j<ts.length:=by
    rcases zAZ j ts.length with h'|h'
    ·exact h'
    ·rw [List.getElem?_eq_none h'] at hj;cases hj
   rw [zA0,h.cellAt j (by omega),zAJ,hj]
   rfl
  ·rcases zAZ g w.heap.size with h'|h'
   ·exact h'
   ·rw [Array.getElem?_eq_none h'] at hh;cases hh
set_option maxRecDepth 100000 in
set_option maxHeartbeats 8000000 in
theorem DT (m:aU) (x:bD) (xs:List dF) (A:Option Addr) (c:Nat) (w:World) (hm:m.bl=xs.map (·.1)) (hA:jY w A xs) (hT:Tz w) (hs:Ts w):Calls Tryz.prog 63 #[fx m A xs.length c,eS x] w fun e w'=>e= .returned (.tuple #[.string (bs (su m x).1),.int .i64 (su m x).2])∧Below w.heap.size w w':=by
 have HA:=zAA hA;have HT:=zAA hT;have Hs:=zAA hs
 have hB1:Below w.heap.size w (w.alloc (.cells #[.int .i64 m.ad,.int .i64 m.kd,.int .i64 m.qu,.int .i64 m.x,.int .i64 m.y,.int .i64 m.pa,.slice A xs.length c] 55)):=(Below.refl _ _).alloc (zAL _) _
 have hB0:=hB1.alloc hB1.size (.cells #[.int .i64 x.ad,.bool x.had,.int .i64 x.x,.int .i64 x.y] 102)
 have hM0:=(ab.new w 55 #[.int .i64 m.ad,.int .i64 m.kd,.int .i64 m.qu,.int .i64 m.x,.int .i64 m.y,.int .i64 m.pa,.slice A xs.length c]).alloc (.cells #[.int .i64 x.ad,.bool x.had,.int .i64 x.x,.int .i64 x.y] 102)
 have hL0:ab _ (w.heap.size+1) 102 _:=aD (ab.new (w.alloc (.cells #[.int .i64 m.ad,.int .i64 m.kd,.int .i64 m.qu,.int .i64 m.x,.int .i64 m.y,.int .i64 m.pa,.slice A xs.length c] 55)) 102 #[.int .i64 x.ad,.bool x.had,.int .i64 x.x,.int .i64 x.y]) (by simp)
 have CK:=zAA (fun W hW=>qM m xs A c W hm hW)
 have CA:=zAA (fun W=>qN x m.ad W)
 have HMM:=zAA hm
 have hmp:su m x=if kQ m&&dm x m.ad then (dI m x,0) else ([],2):=rfl
 have HB0:=zAA hB0;have HM0:=zAA hM0;have HL0:=zAA hL0
 have HA0:=zAA (hA.below hB0 (zAL _))
 obtain ⟨OK,hok⟩:∃b,kQ m=b:=⟨_,rfl⟩
 obtain ⟨AH,hah⟩:∃b,dm x m.ad=b:=⟨_,rfl⟩
 rw [hok,hah] at hmp
 rw [hok] at CK
 rw [hah] at CA
 have HOK:=zAA hok;have HAH:=zAA hah
 clear hA hT hs hB0 hB1 hM0 hL0 hm hok hah
 obtain ⟨n,hn⟩:∃n,xs.length=n:=⟨_,rfl⟩
 rw [hn] at HM0 HB0 HL0 CK HA0⊢
 have HN:=zAA hn
 clear hn
 cases OK with
 |false=>
  rw [Bool.false_and,if_neg (by decide)] at hmp
  rw [hmp]
  clear hmp
  rw [if_neg (by decide)] at CK
  obtain ⟨ad,kd,qu,mx,my,pa,bl⟩:=m
  obtain ⟨la,lh,lx,ly⟩:=x
  unfold fx eS at*
  dsimp only at*
  have m0:=HM0.out.cell 0;have m1:=HM0.out.cell 1;have m2:=HM0.out.cell 2;have m3:=HM0.out.cell 3;have m4:=HM0.out.cell 4;have m5:=HM0.out.cell 5;have m6:=HM0.out.cell 6
  go_enter Tryz.func63,Tryz.ntmps63
  go_wp2_with (go_at_call 76;refine (CK.out _ HA0.out).mono ?_;rintro e w2 ⟨rfl,hb2⟩;have HB2:=zAA hb2;clear hb2)
  go_ret2
  exact ⟨rfl,HB0.out.trans (HB2.out.mono HB0.out.size)⟩
 |true=>
  rw [if_pos rfl] at CK
  cases AH with
  |false=>
   rw [Bool.and_false,if_neg (by decide)] at hmp
   rw [hmp]
   clear hmp
   obtain ⟨ad,kd,qu,mx,my,pa,bl⟩:=m
   obtain ⟨la,lh,lx,ly⟩:=x
   unfold fx eS at*
   dsimp only at*
   have m0:=HM0.out.cell 0;have m1:=HM0.out.cell 1;have m2:=HM0.out.cell 2;have m3:=HM0.out.cell 3;have m4:=HM0.out.cell 4;have m5:=HM0.out.cell 5;have m6:=HM0.out.cell 6
   have l0:=HL0.out.cell 0;have l1:=HL0.out.cell 1;have l2:=HL0.out.cell 2;have l3:=HL0.out.cell 3
   go_enter Tryz.func63,Tryz.ntmps63
   go_wp2_with (first|(go_at_call 76;refine (CK.out _ HA0.out).mono ?_;rintro e w2 ⟨rfl,hb2⟩;have HM2:=zAA (HM0.out.below hb2 HM0.out.lt);have HL2:=zAA (HL0.out.below hb2 HL0.out.lt);have HB2:=zAA hb2;clear hb2 m0 m1 m2 m3 m4 m5 m6 l0 l1 l2 l3;have m0:=HM2.out.cell 0;have l0:=HL2.out.cell 0;have l1:=HL2.out.cell 1;have l2:=HL2.out.cell 2;have l3:=HL2.out.cell 3)|(go_at_call 105;refine (CA.out _).mono ?_;rintro e w3 ⟨rfl,hb3⟩;have HB3:=zAA hb3;clear hb3))
   go_ret2
   exact ⟨rfl,(HB0.out.trans (HB2.out.mono HB0.out.size)).trans (HB3.out.mono (zAM HB0.out.size HB2.out.size))⟩
  |true=>
   rw [Bool.and_true,if_pos rfl] at hmp
   rw [hmp]
   clear hmp
   have hok:=HOK.out
   have hah:=HAH.out
   obtain ⟨ad,kd,qu,mx,my,pa,bl⟩:=m
   obtain ⟨la,lh,lx,ly⟩:=x
   unfold kQ at hok
   unfold dm at hah
   simp only [zAQ,decide_eq_true_eq] at hok hah
   obtain ⟨⟨⟨⟨⟨⟨⟨⟨⟨hk,had1⟩,had2⟩,hpx⟩,hpy⟩,hv⟩,hq⟩,hpat⟩,hlen⟩,hall⟩:=hok
   obtain ⟨⟨⟨⟨hla,hlt⟩,hlx⟩,hly⟩,hlh⟩:=hah
   have HIN:=zAA hk
   have CO:=zAA (fun W=>nw kd W)
   have CKP:=zAA (fun W=>Ft kd W hk)
   unfold kP mK at CO
   rw [hk,if_pos rfl,if_pos rfl] at CO
   unfold qq at CO
   unfold fx eS at*
   dsimp only at*
   have HV:=zAA hv;have HQ:=zAA hq;have HPAT:=zAA hpat;have HALL:=zAA hall;have HPX:=zAA hpx;have HPY:=zAA hpy;have HLX:=zAA hlx;have HLY:=zAA hly
   have CPR:=zAA (fun W=>mJ ⟨la,lh,lx,ly⟩ ad W hla hlt (by omega))
   dsimp only at CPR
   unfold eS at CPR
   obtain ⟨OUT,hout⟩:∃OUT,dI ⟨ad,kd,qu,mx,my,pa,bl⟩ ⟨la,lh,lx,ly⟩=OUT:=⟨_,rfl⟩
   rw [hout]
   unfold dI at hout
   dsimp only at hout
   have HOUT:=zAA hout
   clear hk hv hq hpat hlen hall hpx hpy hlx hly hlh hla hlt hout
   have m0:=HM0.out.cell 0;have m1:=HM0.out.cell 1;have m2:=HM0.out.cell 2;have m3:=HM0.out.cell 3;have m4:=HM0.out.cell 4;have m5:=HM0.out.cell 5;have m6:=HM0.out.cell 6
   have l0:=HL0.out.cell 0;have l1:=HL0.out.cell 1;have l2:=HL0.out.cell 2;have l3:=HL0.out.cell 3
   go_enter Tryz.func63,Tryz.ntmps63
   go_upto_region 3 with (first|(go_at_call 76;refine (CK.out _ HA0.out).mono ?_;rintro e w2 ⟨rfl,hb2⟩;have HM2:=zAA (HM0.out.below hb2 HM0.out.lt);have HL2:=zAA (HL0.out.below hb2 HL0.out.lt);have HB2:=zAA (HB0.out.trans (hb2.mono HB0.out.size));clear hb2 m0 m1 m2 m3 m4 m5 m6 l0 l1 l2 l3;have m0:=HM2.out.cell 0;have l0:=HL2.out.cell 0;have l1:=HL2.out.cell 1;have l2:=HL2.out.cell 2;have l3:=HL2.out.cell 3)|(go_at_call 105;refine (CA.out _).mono ?_;rintro e w3 ⟨rfl,hb3⟩;have HM3:=zAA (HM2.out.below hb3 HM2.out.lt);have HL3:=zAA (HL2.out.below hb3 HL2.out.lt);have HB3:=zAA (HB2.out.trans (hb3.mono HB2.out.size));clear hb3 m0 l0 l1 l2 l3;have m1:=HM3.out.cell 1))
   clear HM0 HL0 HB0 HA0 HM2 HL2 HB2 CK CA
   go_upto_region 5 with (first|(go_at_call 106;refine (CO.out _).mono ?_;rintro e w4 ⟨rfl,hb4⟩;have HM4:=zAA ((HM3.out.below hb4 HM3.out.lt).alloc (.cells #[.bool (pI kd),.bool (pQ kd),.bool (pV kd),.bool (pF kd),.bool (pC kd)] 110));have HL4:=zAA ((HL3.out.below hb4 HL3.out.lt).alloc (.cells #[.bool (pI kd),.bool (pQ kd),.bool (pV kd),.bool (pF kd),.bool (pC kd)] 110));have HB4:=zAA ((HB3.out.trans (hb4.mono HB3.out.size)).alloc (zAM HB3.out.size hb4.size) (.cells #[.bool (pI kd),.bool (pQ kd),.bool (pV kd),.bool (pF kd),.bool (pC kd)] 110));clear hb4 m1;have m1:=HM4.out.cell 1)|(go_at_call 107;refine (CKP.out _).mono ?_;rintro e w5 ⟨rfl,hb5⟩;have HB5:=zAA hb5;clear hb5))
   obtain ⟨g,hg⟩:∃g,w4.heap.size=g:=⟨_,rfl⟩
   have hc5:ay w [(w.heap.size,55,#[.int .i64 ad,.int .i64 kd,.int .i64 qu,.int .i64 mx,.int .i64 my,.int .i64 pa,.slice A n c]),(w.heap.size+1,102,#[.int .i64 la,.bool lh,.int .i64 lx,.int .i64 ly]),(g,110,#[.bool (pI kd),.bool (pQ kd),.bool (pV kd),.bool (pF kd),.bool (pC kd)])] [] w5:=
    bz ⟨HB4.out,aa.cons HM4.out (aa.cons HL4.out (aa.cons (aD (ab.new _ _ _) hg) (ag _))),aE _⟩ HB5.out
   simp only [hg]
   have HC5:=zAA hc5
   clear hc5 hg HM4 HL4 HB4 HB5 HM3 HL3 HB3 m1 CO CKP
   have m2:=HC5.out.2.1.head.cell 2
   have q1:=HC5.out.2.1.tail.tail.head.cell 1
   dsimp only at m2 q1
   go_upto_if 43 with fail
   obtain ⟨QS,hqs⟩:∃QS,(if pQ kd then ax qu.toNat 5 else [])=QS:=⟨_,rfl⟩
   rw [hqs] at HOUT
   have HQS:=zAA hqs
   clear hqs
   go_cut [8] (fun s wx=>w5=wx∧s= .string (bs (eI kd++QS)))
   case first=>
    have hqq:=HQ.out
    have hqs2:=HQS.out
    obtain ⟨bQ,hbq⟩:∃b,pQ kd=b:=⟨_,rfl⟩
    rw [hbq] at q1 hqq hqs2⊢
    have hkl:=uC kd
    obtain ⟨KP,hkp⟩:∃KP,eI kd=KP:=⟨_,rfl⟩
    rw [hkp] at hkl⊢
    have HKP:=zAA hkp
    clear hbq hkp
    cases bQ with
    |false=>
     rw [if_neg (by decide)] at hqs2
     have HQ2:=zAA hqs2
     clear hqq hqs2
     go_wp2_with fail
     go_meet
     case rel=>exact ⟨rfl,by rw [←HQ2.out,HKP.out,zAF]⟩
    |true=>
     rw [if_pos rfl] at hqs2
     simp only [if_true,zAQ,decide_eq_true_eq] at hqq
     obtain ⟨q,rfl⟩:∃q:Nat,qu=(q:Int):=⟨qu.toNat,by omega⟩
     rw [Int.toNat_natCast] at hqs2
     have HQ2:=zAA hqs2
     obtain ⟨hq1,hq2⟩:=hqq
     clear hqs2
     go_wp2_with fail
     go_loopg [8,10] 5 (fun gg v8 v=>fun wr=>∃j:Nat,j+gg=5∧v8= .string (bs (KP++(ax q 5).take j))∧v= .int .i64 (4 - (j:Int))∧w5=wr)
     case atStart=>exact ⟨0,by omega,by simp,rfl,rfl⟩
     case round=>
      obtain ⟨j,hj,rfl,rfl,rfl⟩:=hrel
      cases gk with
      |zero=>
       obtain rfl:j=5:=by omega
       have hlt:¬(0≤4 - ((5:Nat):Int)):=by omega
       go_wp2_with fail
       go_meet
       case rel=>exact ⟨rfl,by rw [←HQ2.out,HKP.out,zAK (by simp [ax])]⟩
      |succ gg=>
       have hlt:(0≤4 - (j:Int)):=by omega
       have hw1:zA1.wrap (4 - (j:Int) - 1)=4 - ((j:Int)+1):=by rw [zAR];omega
       have hcv0:∀W:World,(convert 21 9 (.int .i32 48)).run Tryz.prog W= .ok (.string (bs [48])) W:=fun W=>by kernel_rfl
       have hcv1:∀W:World,(convert 21 9 (.int .i32 49)).run Tryz.prog W= .ok (.string (bs [49])) W:=fun W=>by kernel_rfl
       have hl1:(KP++(ax q 5).take j).length≤30:=by rw [zAB,List.length_take];omega
       have HTK:=zAA (Dz q j (by omega))
       have hb:q / 2 ^ (4 - j) % 2=0∨q / 2 ^ (4 - j) % 2=1:=by omega
       rcases hb with hb|hb
       ·have h2:(((q / 2 ^ (4 - j) % 2:Nat)):Int)=0:=by rw [hb];rfl
        have hbz:(q:Int) / 2 ^ (4 - j) % 2=0:=by push_cast at h2;exact h2
        clear h2
        have HB:=zAA hb
        clear hb
        obtain ⟨KS,hks⟩:∃KS,KP++(ax q 5).take j=KS:=⟨_,rfl⟩
        rw [hks] at hl1⊢
        have HKS:=zAA hks
        clear hks
        go_wp2_with fail
        go_roundg gg
        case measure=>omega
        case rel=>exact ⟨j+1,by omega,by rw [HTK.out,HB.out,←zAN,HKS.out];rfl,by congr 1,rfl⟩
       ·have h2:(((q / 2 ^ (4 - j) % 2:Nat)):Int)=1:=by rw [hb];rfl
        have hbz:(q:Int) / 2 ^ (4 - j) % 2=1:=by push_cast at h2;exact h2
        clear h2
        have HB:=zAA hb
        clear hb
        obtain ⟨KS,hks⟩:∃KS,KP++(ax q 5).take j=KS:=⟨_,rfl⟩
        rw [hks] at hl1⊢
        have HKS:=zAA hks
        clear hks
        go_wp2_with fail
        go_roundg gg
        case measure=>omega
        case rel=>exact ⟨j+1,by omega,by rw [HTK.out,HB.out,←zAN,HKS.out];rfl,by congr 1,rfl⟩
   obtain ⟨rfl,rfl⟩:=hcut
   clear m2 q1
   have hsl:(eI kd++QS).length≤29:=by
    have h1:=uC kd
    have h2:QS.length≤5:=by rw [←HQS.out];split<;>simp [ax]
    rw [zAB];omega
   have q2:=HC5.out.2.1.tail.tail.head.cell 2
   dsimp only at q2
   go_upto_if 59 with fail
   obtain ⟨⟨p1,p2⟩,hpr⟩:∃p,dy ad (ad - la) lh lx ly=p:=⟨_,rfl⟩
   have hpp:aH p1=true∧aH p2=true:=by
    unfold dy at hpr
    split at hpr
    ·rw [←(Prod.mk.inj hpr).1,←(Prod.mk.inj hpr).2];exact ⟨rfl,rfl⟩
    ·rw [←(Prod.mk.inj hpr).1,←(Prod.mk.inj hpr).2];exact ⟨HLX.out,HLY.out⟩
   rw [hpr] at HOUT CPR
   dsimp only at HOUT CPR
   have MV1:=zAA (fun W=>qO p1 mx W hpp.1 HPX.out)
   have MV2:=zAA (fun W=>qO p2 my W hpp.2 HPY.out)
   obtain ⟨VS,hvs⟩:∃VS,(if pV kd then fy p1 mx++fy p2 my else [])=VS:=⟨_,rfl⟩
   rw [hvs] at HOUT
   have HVS:=zAA hvs
   obtain ⟨S0,hs0⟩:∃S0,eI kd++QS=S0:=⟨_,rfl⟩
   rw [hs0] at hsl HOUT⊢
   clear hvs hpr hpp hs0
   go_cut [8] (fun s wx=>s= .string (bs (S0++VS))∧Hid (ay w [(w.heap.size,55,#[.int .i64 ad,.int .i64 kd,.int .i64 qu,.int .i64 mx,.int .i64 my,.int .i64 pa,.slice A n c]),(w.heap.size+1,102,#[.int .i64 la,.bool lh,.int .i64 lx,.int .i64 ly]),(g,110,#[.bool (pI kd),.bool (pQ kd),.bool (pV kd),.bool (pF kd),.bool (pC kd)])] [] wx))
   case first=>
    have hvs2:=HVS.out
    obtain ⟨bV,hbv⟩:∃b,pV kd=b:=⟨_,rfl⟩
    rw [hbv] at q2 hvs2⊢
    have HBV:=zAA hbv
    clear hbv
    cases bV with
    |false=>
     rw [if_neg (by decide)] at hvs2
     have HV2:=zAA hvs2
     clear hvs2
     go_wp2_with fail
     go_meet
     case rel=>exact ⟨by rw [←HV2.out,zAF],HC5⟩
    |true=>
     rw [if_pos rfl] at hvs2
     have HV2:=zAA hvs2
     clear hvs2
     have m0:=HC5.out.2.1.head.cell 0
     have l0:=HC5.out.2.1.tail.head.cell 0;have l1:=HC5.out.2.1.tail.head.cell 1;have l2:=HC5.out.2.1.tail.head.cell 2;have l3:=HC5.out.2.1.tail.head.cell 3
     dsimp only at m0 l0 l1 l2 l3
     go_upto_region 12 with (go_at_call 108;refine (CPR.out _).mono ?_;rintro e w6 ⟨rfl,hb6⟩;have HC6:=zAA (bz HC5.out hb6);clear hb6)
     clear m0 l0 l1 l2 l3
     have hd6:=bM HC6.out
     have HD6:=zAA hd6
     have z3:=hd6.2.1.head.cell 3
     have z4:=hd6.2.1.head.cell 4
     clear hd6
     refine ai (fun w'=>w'=w6.drew) 9 (.take 0 (.take 1 (.take 2 (.take 3 (.take 5 (.take 6 (.take 7 (.step 4 (.step 8 .done))))))))) (by kernel_rfl) (by kernel_rfl) (by simp only [aR.out,Array.getD_eq_getD_getElem?,List.getElem?_toArray,List.getElem?_cons_zero,List.getElem?_cons_succ,Option.getD_some];rfl) (by simp only [zAV,zAY];rfl) (rfl) (fun PE hPE=>?_)
     iterate 7
      refine ah (v:=?_) rfl (by rfl) ?_ ?_
      rotate_left
      ·intro _ hSw;(try dsimp only at hSw);subst hSw;go_simp;(try with_reducible rfl)
      simp only [zAC,zAI,zAH]
     refine aV (f:=110) rfl (by rfl) (by first|(go_simp;done)|(go_simp;rfl)) (MV1.out _) ?_
     rintro e w7 ⟨rfl,rfl⟩
     refine ⟨_,rfl,_,fun _ h=>h,rfl,?_⟩
     simp only [zAC,zAI,zAH]
     refine aV (f:=110) rfl (by rfl) (by first|(go_simp;done)|(go_simp;rfl)) (MV2.out _) ?_
     rintro e w7 ⟨rfl,rfl⟩
     refine ⟨_,rfl,_,fun _ h=>h,rfl,?_⟩
     simp only [zAC,zAI,zAH]
     refine hPE _ _ ?_
     clear hPE PE
     simp only [List.drop_succ_cons,List.drop_zero]
     have hm1:=oq p1 mx
     have hm2:=oq p2 my
     have hfl:S0++(fy p1 mx++fy p2 my)=S0++VS:=by rw [←HV2.out]
     have HFL:=zAA hfl
     clear hfl
     generalize fy p1 mx=M1 at*
     generalize fy p2 my=M2 at*
     have CJ:=pp (zAU w6).heap.size 0 3 [S0,M1,M2] ((zAU w6).alloc (.cells #[.string (bs S0),.string (bs M1),.string (bs M2)] 9)) (fun j t h=>by
      have hb:=ab.new (zAU w6) 9 #[.string (bs S0),.string (bs M1),.string (bs M2)]
      rw [zA0,hb.cell j]
      match j,h with
      |0,h=>cases h;rfl
      |1,h=>cases h;rfl
      |2,h=>cases h;rfl
      |(j+3),h=>cases h) (by simp) (by simp) (by simp) (by simp;omega)
     have CJ:=zAA CJ
     have HC7:=zAA (ao (bM HC6.out) (.cells #[.string (bs S0),.string (bs M1),.string (bs M2)] 9))
     go_wp2_with (go_at_call 109;refine CJ.out.mono ?_;rintro e w8 ⟨rfl,hb8⟩;have HB8:=zAA hb8;clear hb8)
     refine ⟨rfl,?_⟩
     go_wp2_with fail
     go_meet
     case rel=>exact ⟨by rw [←HFL.out],zAA (bz HC7.out HB8.out)⟩
   obtain ⟨rfl,HC6⟩:=hcut
   clear q2 HC5
   have hsl:(S0++VS).length≤77:=by
    have h2:VS.length≤48:=by
     rw [←HVS.out]
     have:=oq p1 mx;have:=oq p2 my
     split
     ·rw [zAB];omega
     ·simp
    rw [zAB];omega
   have q4:=HC6.out.2.1.tail.tail.head.cell 4
   have m5:=HC6.out.2.1.head.cell 5
   dsimp only at q4 m5
   go_upto_if 79 with fail
   obtain ⟨PS,hps⟩:∃PS,(if pC kd then i6 pa else [])=PS:=⟨_,rfl⟩
   rw [hps] at HOUT
   have HPS:=zAA hps
   obtain ⟨S1,hs1⟩:∃S1,S0++VS=S1:=⟨_,rfl⟩
   rw [hs1] at hsl HOUT⊢
   clear hps hs1
   go_cut [8] (fun s wx=>s= .string (bs (S1++PS))∧Hid (ay w [(w.heap.size,55,#[.int .i64 ad,.int .i64 kd,.int .i64 qu,.int .i64 mx,.int .i64 my,.int .i64 pa,.slice A n c]),(w.heap.size+1,102,#[.int .i64 la,.bool lh,.int .i64 lx,.int .i64 ly]),(g,110,#[.bool (pI kd),.bool (pQ kd),.bool (pV kd),.bool (pF kd),.bool (pC kd)])] [] wx))
   case first=>
    have hps2:=HPS.out
    have hpa:=HPAT.out
    obtain ⟨bC,hbc⟩:∃b,pC kd=b:=⟨_,rfl⟩
    rw [hbc] at q4 hps2 hpa⊢
    have HBC:=zAA hbc
    clear hbc
    cases bC with
    |false=>
     rw [if_neg (by decide)] at hps2
     have HP2:=zAA hps2
     clear hps2 hpa
     go_wp2_with fail
     go_meet
     case rel=>exact ⟨by rw [←HP2.out,zAF],HC6⟩
    |true=>
     rw [if_pos rfl] at hps2
     have hp63:1≤pa∧pa≤63:=by
      split at hpa
      ·rw [beq_iff_eq] at hpa;omega
      ·simpa using hpa
     have HP2:=zAA hps2
     have CP:=zAA (fun W hW=>zq pa W hW hp63.1 hp63.2)
     have hpl:=xE pa
     generalize i6 pa=PP at*
     have HTS:=zAA (Hs.out.below HC6.out.1)
     clear hps2 hpa hp63
     go_wp2_with (go_at_call 111;refine (CP.out _ HTS.out).mono ?_;rintro e w6 ⟨rfl,hb6⟩;have HC7:=zAA (bz HC6.out hb6);clear hb6)
     go_meet
     case rel=>exact ⟨by rw [←HP2.out],HC7⟩
   obtain ⟨rfl,HC7⟩:=hcut
   clear q4 m5 HC6
   have hsl:(S1++PS).length≤101:=by
    have h2:PS.length≤24:=by
     rw [←HPS.out]
     split
     ·exact xE pa
     ·simp
    rw [zAB];omega
   obtain ⟨S2,hs2⟩:∃S2,S1++PS=S2:=⟨_,rfl⟩
   rw [hs2] at hsl HOUT⊢
   clear hs2
   have m6:=HC7.out.2.1.head.cell 6
   dsimp only at m6
   go_wp2_with fail
   have hx64:=HA.out.len
   rw [HN.out] at hx64
   have HBL:Hid (∀p∈xs,cK p.1 (pI kd)=0):=zAA (fun p hp=>by
    have h:=HALL.out
    have h2:=HMM.out
    rw [h2,List.all_map,zAE] at h
    simpa using h p hp)
   have HOUT:Hid (S2++xs.flatMap (fun p=>bU p.1 (pI kd))=OUT):=zAA (by
    have h:=HOUT.out
    have h2:=HMM.out
    rw [h2,List.flatMap_map] at h
    exact h)
   have HPL:Hid (∀p∈xs,(bU p.1 (pI kd)).length≤1400):=zAA (fun p hp=>E6 (HBL.out p hp))
   clear m6
   generalize pI kd=bI at*
   go_loopg [15,92] n (fun gg v15 v92=>fun wr=>∃(j:Nat) (v:Value),j+gg=n∧v15=v∧v92= .int .i64 (j:Int)∧Hid (ay w [(w.heap.size,55,#[.int .i64 ad,.int .i64 kd,.int .i64 qu,.int .i64 mx,.int .i64 my,.int .i64 pa,.slice A n c]),(w.heap.size+1,102,#[.int .i64 la,.bool lh,.int .i64 lx,.int .i64 ly]),(g,110,#[.bool bI,.bool (pQ kd),.bool (pV kd),.bool (pF kd),.bool (pC kd)])] [⟨w.heap.size,9,1,v,j,((xs.take j).map fun p=>bE (bU p.1 bI))⟩] wr))
   case atStart=>exact ⟨0,.slice none 0 0,by omega,rfl,rfl,zAA (by rw [List.take_zero,zAY];exact iR HC7.out _ _ _)⟩
   case round=>
    obtain ⟨j,v,hj,rfl,rfl,HC⟩:=hrel
    cases gk with
    |zero=>
     have hjn:j=n:=by omega
     subst hjn
     have hlt:¬((j:Int)<(j:Int)):=by omega
     have hrow:=HC.out.2.2.head
     dsimp only at hrow
     rw [zAK (by rw [HN.out];omega)] at hrow
     obtain ⟨A5,c5,e5,hs5⟩:=dg hrow
     subst e5
     have hown:=World.ownsRow_lit (base:=w.heap.size) (e:=9) (size:=1) wr #[.string (bs S2)] 1 HC.out.1.size (by decide) rfl
     have hsl5:=hs5.below ((Below.refl _ _).alloc (zAL _) (.cells #[.string (bs S2)] 9))
     have HOW:=zAA hown;have HSL5:=zAA hsl5
     have HB5:=zAA (HC.out.1.alloc HC.out.1.size (.cells #[.string (bs S2)] 9))
     have HFL:Hid (([S2]++xs.map fun p=>bU p.1 bI).flatten=OUT):=zAA (by rw [←HOUT.out];simp [List.flatMap])
     have HLF:Hid (([S2]++xs.map fun p=>bU p.1 bI).flatten.length≤1000000):=zAA (Fg hsl HPL.out (by rw [HN.out];omega))
     have HLX:Hid ((xs.map fun p=>bU p.1 bI).length=j):=zAA (by rw [zAD,HN.out])
     have hmm:(xs.map fun p=>bE (bU p.1 bI))=(xs.map fun p=>bU p.1 bI).map bE:=by rw [zAX];rfl
     rw [hmm] at HSL5
     have HXX:=zAA hx64
     clear hrow hs5 hown hsl5 hmm hx64
     generalize (xs.map fun p=>bU p.1 bI)=TS at*
     go_wp2_with (first|(at_builtin;refine dK lc rfl rfl (m:=j) (news:=TS.map bE) rfl HOW.out rfl (by rw [zAD,HLX.out,Nat.mul_one]) HSL5.out (by intro u hu;obtain ⟨b,_,rfl⟩:=List.mem_map.1 hu;rfl) (by have:=HXX.out;omega) (zAM HC.out.1.size (by simp)) ?_;intro v1 W1 ho1 hg1 _;obtain ⟨g1,c1,e1,hcap1,hcells1,hlt1⟩:=FK (ts:=[S2]++TS) ho1 (by have:=HLX.out;simp;omega) (by simp);subst e1;have HB1:=zAA (HB5.out.grown hg1 HB5.out.size (fun k hk=>(HOW.out.lt k hk).1));have CJ:=zAA (pp g1 0 c1 ([S2]++TS) W1 hcells1 hlt1 (by have:=HLX.out;have:=HXX.out;simp;omega) hcap1 HLF.out);clear ho1 hg1 hcap1 hcells1 hlt1)|(go_at_call 109;refine CJ.out.mono ?_;rintro e w8 ⟨rfl,hb8⟩;have HB8:=zAA hb8;clear hb8))
     go_ret2
     refine ⟨?_,HB1.out.trans (HB8.out.mono HB1.out.size)⟩
     rw [←HFL.out]
     rfl
    |succ gg=>
     have hlt:((j:Int)<(n:Int)):=by omega
     have hjl:j<xs.length:=by rw [HN.out];omega
     obtain ⟨A5,c5,e5,_⟩:=dg HC.out.2.2.head
     dsimp only at e5
     subst e5
     obtain ⟨ad5,rfl,_,c0,c1⟩:=oI (HA.out.row.below HC.out.1) j hjl
     have hbl:=(HA.out.bl _ (zAS hjl)).below (HC.out.1.alloc HC.out.1.size (.cells #[.int .i64 xs[j].1.dc,.slice xs[j].2.1 xs[j].1.l.length xs[j].2.2] 93))
     have hTZ:=HT.out.below (HC.out.1.alloc HC.out.1.size (.cells #[.int .i64 xs[j].1.dc,.slice xs[j].2.1 xs[j].1.l.length xs[j].2.2] 93))
     have hTS:=Hs.out.below (HC.out.1.alloc HC.out.1.size (.cells #[.int .i64 xs[j].1.dc,.slice xs[j].2.1 xs[j].1.l.length xs[j].2.2] 93))
     have CB:=zAA (Do xs[j].1 xs[j].2.1 xs[j].1.l.length xs[j].2.2 bI _ hbl rfl (HBL.out _ (zAS hjl)) hTZ hTS)
     have HCa:=zAA (ao HC.out (.cells #[.int .i64 xs[j].1.dc,.slice xs[j].2.1 xs[j].1.l.length xs[j].2.2] 93))
     have q0:=HCa.out.2.1.tail.tail.head.cell 0
     dsimp only at q0
     have HTK:=zAA (zAP (l:=xs) (i:=j))
     have HGJ:=zAA (List.getElem?_eq_getElem hjl)
     obtain ⟨⟨⟨dcj,lj⟩,Aj,cj⟩,hpe⟩:∃p,xs[j]=p:=⟨_,rfl⟩
     rw [hpe] at c0 c1 CB HCa q0 HGJ
     dsimp only at c0 c1 CB HCa q0
     obtain ⟨BPJ,hbpj⟩:∃B,bU ⟨dcj,lj⟩ bI=B:=⟨_,rfl⟩
     rw [hbpj] at CB
     have HBPJ:=zAA hbpj
     clear hbpj
     have hw1:zA1.wrap ((j:Int)+1)=(j:Int)+1:=by rw [zAR];omega
     have HJ:=zAA hj
     obtain ⟨nj,hnj⟩:∃nj,lj.length=nj:=⟨_,rfl⟩
     rw [hnj] at c1 CB HCa q0
     clear hnj
     clear hpe hbl hTZ hTS hj hjl
     go_wp2_with (first|(go_at_call 112;refine CB.out.mono ?_;rintro e w6 ⟨rfl,hb6⟩;have HC6:=zAA (bz HCa.out hb6);clear hb6 q0)|(at_builtin;refine iV lc rfl rfl 1 [bE BPJ] rfl HC6.out rfl rfl (mS _) (by have:=HJ.out;omega) ⟨zAL _,HC6.out.1.size⟩ (by simp) (by simp) ?_;intro v1 W1 hc1;have HC1:=zAA hc1;clear hc1))
     go_roundg gg
     case measure=>omega
     case rel=>
      refine ⟨j+1,v1,by have:=HJ.out;omega,rfl,rfl,zAA ?_⟩
      rw [HTK.out,HGJ.out,List.map_append]
      show ay _ _ [⟨_,_,_,_,_,_++[bE (bU ⟨dcj,lj⟩ bI)]⟩] _
      rw [HBPJ.out]
      exact HC1.out
end Go.Proofs.YthhijgcfbjcgiaaGreatDoor
