/- Pfx -/
import Derived.Test.YthhijgcfbjcgiaaGreatDoorS07
import Derived.Test.YthhijgcfbjcgiaaGreatDoorS11
import Derived.Test.YthhijgcfbjcgiaaGreatDoorS05
import Derived.WalkMore
import Derived.Deep.LoopGhost
import Derived.Maps.OwnSet
namespace Go.Proofs.YthhijgcfbjcgiaaGreatDoor
open Go Go.RowKit Go.Maps
attribute [local go_sem] Oper.semAt_some
open Go.Lib renaming hid→zAA
open Bool renaming or_eq_true→zAB,and_eq_true→zAN,not_eq_true→zAO
open List renaming setIfInBounds_toArray→zAC,getElem?_cons_succ→zAE,getElem?_cons_zero→zAF,getElem?_toArray→zAG,getElem_set_self→zAH,map_cons→zAI,drop_succ_cons→zAJ,map_nil→zAK,set_cons_succ→zAL,set_cons_zero→zAM,all_eq_true→zAP,getElem_mem→zAQ,length_set→zAS,drop_zero→zAT
open Nat renaming le_trans→zAD,add_zero→zAU
open Option renaming getD_some→zAR
open Go.IntKind renaming u8→zAV
def ej (w:World) (base T:Nat) (N:List Nd) (D:DataW Value) (many:Nat):Prop:=
 ∃v mb,ab w T 232 #[v,.map (some mb),.int .i64 (many:Int)]∧w.ownsRow base 260 4 v N.length (av nz N)∧w.ownsMap Tryz.prog 3 gB mb many D∧base≤mb∧base≤T
theorem IU:eG Tryz.prog 229 260 4 32:= .mk' (z:= .agg #[.int .i64 0,.int .i64 0,.bool false,.int .i64 0]) (by kernel_rfl) (by kernel_rfl) rfl (by decide) (by decide)
theorem ox {w:World} {P:Program} {k:TypeId} {b n g:Nat} {D:DataW Value} {t:TypeId} {cs:Array Value} (h:w.ownsMap P k gB b n D) (hb:ab w g t cs):b≠g:=fun e=>by
 subst e
 obtain ⟨es,clock,hh,_⟩:=h
 unfold ab at hb
 rw [hb] at hh;cases hh
theorem D9 {w w':World} {P:Program} {k:TypeId} {b n:Nat} {D:DataW Value} (h:w.ownsMap P k gB b n D) (hb:Below w.heap.size w w'):w'.ownsMap P k gB b n D:=by
 have hl:=h.lt
 obtain ⟨es,clock,hh,r⟩:=h
 exact ⟨es,clock,(hb.block b hl).trans hh,r⟩
theorem ej.later {w w':World} {base T:Nat} {N:List Nd} {D:DataW Value} {many:Nat} (h:ej w base T N D many) (hb:Below w.heap.size w w'):ej w' base T N D many:=by
 obtain ⟨v,mb,h1,h2,h3,h4,h5⟩:=h
 exact ⟨v,mb,h1.below hb h1.lt,cG h2 hb (Nat.le_refl _),D9 h3 hb,h4,h5⟩
theorem qQ (w:World) (base T:Nat) (N:List Nd) (D:DataW Value) (many:Nat) (h:ej w base T N D many) (hm:many≠0):Calls Tryz.prog 202 #[.pointer (some ⟨T,0,none⟩)] w fun e w'=>e= .returned (.bool false)∧w=w':=by
 obtain ⟨v,mb,h1,_⟩:=h
 have c2:=h1.cell 2
 have hm:((many:Int)==0)=false:=beq_eq_false_iff_ne.2 (by omega)
 clear h1
 go_enter Tryz.func202,Tryz.ntmps202
 go_wp2
 go_ret
 exact ⟨rfl,rfl⟩
theorem zv (c:List UInt8) (hc:dr c=true) (w:World):Calls Tryz.prog 238 #[.string (bs c)] w fun e w'=>e= .returned (.bool true)∧w=w':=by
 simp only [dr,zAN,decide_eq_true_eq] at hc
 obtain ⟨⟨h1,h2⟩,h3⟩:=hc
 have H1:=zAA h1
 have hl1:(1:Int)≤(c.length:Int):=by omega
 have hl2:(c.length:Int)≤24:=by omega
 clear h1
 go_enter Tryz.func238,Tryz.ntmps238
 go_wp2_with fail
 go_loopg [6] c.length (fun g i=>fun wr=>∃(j:Nat),j+g=c.length∧i= .int .i64 (j:Int)∧w=wr)
 case atStart=>exact ⟨0,by omega,rfl,rfl⟩
 case round=>
  obtain ⟨j,hj,rfl,rfl⟩:=hrel
  cases gk with
  |zero=>
   obtain rfl:j=c.length:=by omega
   have hlt:¬((c.length:Int)<(c.length:Int)):=by omega
   have e1:decide ((1:Int)≤(c.length:Int))=true:=by simp;omega
   have e2:decide ((c.length:Int)≤24)=true:=by simp;omega
   go_wp2_with fail
   go_ret
   exact ⟨rfl,rfl⟩
  |succ g=>
   have hlt:((j:Int)<(c.length:Int)):=by omega
   have hjl:j<c.length:=by omega
   have hm:=zAP.1 H1.out c[j] (zAQ hjl)
   simp only [zAB,beq_iff_eq] at hm
   rcases hm with hm|hm
   ·have q1:((c[j].toNat:Int) !=48)=false:=by rw [hm];rfl
    clear hm
    go_wp2_with fail
    go_roundg g
    case measure=>omega
    case rel=>exact ⟨j+1,by omega,rfl,rfl⟩
   ·have q1:((c[j].toNat:Int) !=48)=true:=by rw [hm];rfl
    have q3:((c[j].toNat:Int) !=49)=false:=by rw [hm];rfl
    clear hm
    go_wp2_with fail
    go_roundg g
    case measure=>omega
    case rel=>exact ⟨j+1,by omega,rfl,rfl⟩
theorem xQ (c:List UInt8) (hc:dr c=true) (w:World):Calls Tryz.prog 237 #[.string (bs c)] w fun e w'=>e= .returned (.bool false)∧w=w':=by
 have H:=zAA (fun w=>zv c hc w)
 clear hc
 go_enter Tryz.func237,Tryz.ntmps237
 go_wp2_with (go_at_call 238;refine (H.out _).mono ?_;rintro e w' ⟨rfl,rfl⟩)
 go_ret
 exact ⟨rfl,rfl⟩
theorem ej.only {w w':World} {base T:Nat} {N:List Nd} {D:DataW Value} {many:Nat} (h:ej w base T N D many) (hb:w.grownBy w' none):ej w' base T N D many:=
 h.later ⟨hb.os,hb.tape,hb.output,hb.size,fun k hk=>hb.block k hk (by simp)⟩
theorem CY {N:List Nd} {k:Nat} {c:UInt8} {s:List UInt8} {R:List Nd×Nat} (h:kp N k (c::s)=some R):(N.getD k bT).leaf=false∧k<N.length∧N.length<10000∧kp (uw N k c).1 (uw N k c).2 s=some R:=by
 rw [kp] at h
 split at h
 ·cases h
 ·rename_i hc
  simp only [zAB,decide_eq_true_eq,not_or,zAO] at hc
  exact ⟨hc.1.1,by omega,by omega,h⟩
theorem EL {N:List Nd} {k:Nat} {R:List Nd×Nat} (h:kp N k []=some R):k<N.length∧N.length<10000∧R=(N,k):=by
 rw [kp] at h
 split at h
 ·cases h
 ·rename_i hc
  simp only [zAB,decide_eq_true_eq,not_or] at hc
  exact ⟨by omega,by omega,by injection h with h;exact h.symm⟩
theorem kD {N:List Nd} {k:Nat} (h:k<N.length):N.getD k bT=N[k]:=by simp [List.getD,h]
structure Ka (W:World) (base T g cap n k:Nat) (x:Nd) (mb many:Nat):Prop where
 c0:W.cell? ⟨T,0,none⟩=some (.slice (some ⟨g,0,none⟩) n cap)
 c1:W.cell? ⟨T,1,none⟩=some (.map (some mb))
 c2:W.cell? ⟨T,2,none⟩=some (.int .i64 (many:Int))
 n0:W.cell? ⟨g,k*4,none⟩=some (.int .i64 x.a)
 n1:W.cell? ⟨g,k*4+1,none⟩=some (.int .i64 x.b)
 n2:W.cell? ⟨g,k*4+2,none⟩=some (.bool x.leaf)
 n3:W.cell? ⟨g,k*4+3,none⟩=some (.int .i64 x.num)
theorem mX {W:World} {base T:Nat} {N:List Nd} {D:DataW Value} {many k:Nat} (h:ej W base T N D many) (hk:k<N.length):
  ∃g cap mb,base≤g∧g<W.heap.size∧N.length≤cap∧cap≤maxLen∧Ka W base T g cap N.length k N[k] mb many∧ab W T 232 #[.slice (some ⟨g,0,none⟩) N.length cap,.map (some mb),.int .i64 (many:Int)]∧
   W.ownsRow base 260 4 (.slice (some ⟨g,0,none⟩) N.length cap) N.length (av nz N)∧W.ownsMap Tryz.prog 3 gB mb many D∧base≤mb∧base≤T:=by
 obtain ⟨v,mb,h1,h2,h3,h4,h5⟩:=h
 obtain ⟨g,cap,rfl,hc1,hc2,hbg⟩:=lH h2 (by omega)
 have hlt:=(h2.lt g rfl).2
 refine ⟨g,cap,mb,hbg,hlt,hc1,hc2,⟨by rw [h1.cell];rfl,by rw [h1.cell];rfl,by rw [h1.cell];rfl,?_,?_,?_,?_⟩,h1,h2,h3,h4,h5⟩
 ·have:=jR gU h2 k hk 0 (by decide);rw [zAU] at this;rw [this];rfl
 ·rw [jR gU h2 k hk 1 (by decide)];rfl
 ·rw [jR gU h2 k hk 2 (by decide)];rfl
 ·rw [jR gU h2 k hk 3 (by decide)];rfl
theorem mI {D:DataW Value} {f:Int→Option (List UInt8)} (hD:j9 D f) {num:Int} {v:Value} {ps:List MemPlace} (h:gB v=some (D.atKey (.int .i64 num) (.held (fu [])),ps)):v=fu ((f num).getD []):=by
 have e:D.atKey (i5 num) (.held (fu []))= .held (fu ((f num).getD [])):=by rw [(hD.2 num).2];cases f num<;>rfl
 have h2:gB v=some (D.atKey (i5 num) (.held (fu [])),ps):=h
 rw [e] at h2
 unfold gB at h2
 injection h2 with h2
 injection h2 with h2 _
 injection h2
theorem AI (id:Int) (hw:(Lit.int .i64 id).wf=true):keyOf Tryz.prog 3 (.int .i64 id)=some (.int .i64 id):=Maps.keyOf_int_mk (Tryz.underlying3) hw
theorem kz:Keyed Tryz.prog 3:=int_keyed Tryz.underlying3
theorem EX {c:UInt8} (h:c=48∨c=49):zAV.wrap ((c.toNat:Int) - 48)=if c=48 then 0 else 1:=by
 rcases h with rfl|rfl<;>rfl
theorem ll {w:World} {P:Program} {k:TypeId} {b n base e size m:Nat} {D:DataW Value} {v:Value} {xs:List Value} (h:w.ownsMap P k gB b n D) (hr:w.ownsRow base e size v m xs):some b≠v.ownBlock:=by
 obtain ⟨es,clock,hh,_⟩:=h
 rcases hr.2 with ⟨rfl,_⟩|⟨g,cap,cur,rfl,_,h2,_⟩
 ·simp [Value.ownBlock]
 ·intro he
  have:b=g:=by simpa [Value.ownBlock] using he
  subst this
  rw [hh] at h2;cases h2
theorem BK (W:World):(Op.equalIn 10000 258 (Value.agg #[.int .i64 0,.int .i64 0]) (Value.agg #[.int .i64 0,.int .i64 0])).run Tryz.prog W= .ok true W:=by kernel_rfl
theorem Bx {w w':World} {b g:Nat} {t:TypeId} {cs:Array Value} (h:ab w g t cs) (ht:w.mapTurned w' b):ab w' g t cs:=by
 refine h.grown ht.grown (fun e=>?_)
 cases e
 obtain ⟨es,clock,es',clock',hb,_⟩:=ht
 unfold ab at h
 rw [h] at hb;cases hb
theorem ab.drew1 {w:World} {g:Nat} {t:TypeId} {cs:Array Value} (h:ab w g t cs):ab w.drew g t cs:=h
theorem FJ {w:World} {base e size n:Nat} {v:Value} {xs:List Value} (h:w.ownsRow base e size v n xs):w.drew.ownsRow base e size v n xs:=h
theorem Hl:∀u∈nz bT,u.oneCell'=true:=by
 intro u hu
 simp only [nz,bT,List.mem_cons,List.not_mem_nil,or_false] at hu
 rcases hu with rfl|rfl|rfl|rfl<;>rfl
set_option maxRecDepth 100000 in
set_option maxHeartbeats 2000000 in
theorem Cp (w:World) (base T:Nat) (N:List Nd) (D:DataW Value) (f:Int→Option (List UInt8)) (many:Nat) (s:List UInt8) (num:Int) (M:List Nd) (hs:dr s=true) (hp:xR N s num=some M) (hm:many<300)
  (hw:ej w base T N D many) (hD:j9 D f) (hnum:(Lit.int .i64 num).wf=true) (hbase:base≤w.heap.size):
  Calls Tryz.prog 239 #[.pointer (some ⟨T,0,none⟩),.string (bs s),.int .i64 num] w fun e w'=>e= .returned (.bool true)∧ej w' base T M (nL D num s) (many+1)∧Below base w w':=by
 simp only [dr,zAN,decide_eq_true_eq] at hs
 obtain ⟨⟨hs1,hs2⟩,hs3⟩:=hs
 obtain ⟨R,hR,hpM⟩:∃R,kp N 0 s=some R∧(if (R.1.getD R.2 bT).leaf||(R.1.getD R.2 bT).a !=0||(R.1.getD R.2 bT).b !=0 then none else some (R.1.set R.2 ⟨0,0,true,num⟩))=some M:=by
  unfold xR at hp
  cases h:kp N 0 s with
  |none=>rw [h] at hp;cases hp
  |some R=>rw [h] at hp;exact ⟨R,rfl,hp⟩
 have HS1:=zAA hs1
 have HR:=zAA hR
 have HM:=zAA hpM
 have HW:=zAA hw
 have HD:=zAA hD
 have HNUM:=zAA (AI num hnum)
 have HB:=zAA hbase
 clear hs1 hR hpM hw hp hD hnum
 go_enter Tryz.func239,Tryz.ntmps239
 go_wp2_with fail
 go_loopg [7,14] s.length (fun g at_ i=>fun wr=>∃(j k:Nat) (N':List Nd),j+g=s.length∧at_= .int .i64 (k:Int)∧i= .int .i64 (j:Int)∧Hid (kp N' k (s.drop j)=some R)∧Hid (ej wr base T N' D many)∧Hid (Below base w wr))
 case atStart=>exact ⟨0,0,N,by omega,rfl,rfl,HR,HW,zAA (Below.refl _ _)⟩
 case round=>
  obtain ⟨j,k,N',hj,rfl,rfl,HRr,HT,HBl⟩:=hrel
  cases gk with
  |succ g=>
   have hjl:j<s.length:=by omega
   have hji:(j:Int)<(s.length:Int):=by omega
   have hdrop:s.drop j=s[j]::s.drop (j+1):=List.drop_eq_getElem_cons hjl
   have hw1:=HRr.out
   rw [hdrop] at hw1
   obtain ⟨hleaf,hk,hN,hw2⟩:=CY hw1
   rw [kD hk] at hleaf
   obtain ⟨gb,cap,mb,hbg,hlt,hc1,hc2,hA,hBt,hRow,hMap,hbm,hbT⟩:=mX HT.out hk
   obtain ⟨c0,c1,c2,n0,n1,n2,n3⟩:=hA
   have hcap:N'.length≤cap∧cap≤maxLen:=⟨hc1,hc2⟩
   have hRsz:Hid (base≤wr.heap.size):=zAA (zAD HB.out HBl.out.size)
   have hcc:=zAP.1 HS1.out s[j] (zAQ hjl)
   simp only [zAB,beq_iff_eq] at hcc
   obtain ⟨xi,hxi⟩:∃xi:Nat,xi=if s[j]=48 then 0 else 1:=⟨_,rfl⟩
   have hx2:(xi:Int)<2:=by rw [hxi];split<;>simp
   have hwr:zAV.wrap ((s[j].toNat:Int) - 48)=(xi:Int):=by rw [EX hcc,hxi];split<;>rfl
   rw [hleaf] at n2
   have nx:wr.cell? ⟨gb,k*4+xi,none⟩=some (.int .i64 (N'[k].to s[j]:Nat)):=by
    rw [hxi];unfold Nd.to
    by_cases hc:s[j]=48
    ·rw [if_pos hc,if_pos hc,zAU];exact n0
    ·rw [if_neg hc,if_neg hc];exact n1
   have hki:¬(k:Int)<0:=by omega
   have hkn:(k:Int)<(N'.length:Int):=by omega
   have HW2:=zAA hw2
   have HRow:=zAA hRow;have HMap:=zAA hMap;have HBt:=zAA hBt
   clear hw1 hw2 hdrop hleaf hRow hMap hBt n0 n1 n3 hcc hc1 hc2
   obtain ⟨tt,htt⟩:∃tt,N'[k].to s[j]=tt:=⟨_,rfl⟩
   rw [htt] at nx
   by_cases h0:tt=0
   ·subst h0
    have HG:=zAA (show uw N' k s[j]=((N'++[bT]).set k (N'[k].link s[j] N'.length),N'.length) by unfold uw;rw [kD hk,htt,if_pos rfl])
    have hneT:=bg HRow.out HBt.out (by decide)
    have HX:=zAA hxi
    have HK:=zAA hk
    have HC:=zAA hcap
    have HHj:=zAA (show j+(g+1)=s.length from hj)
    clear hxi htt hcap hj
    have hsz:=hRsz.out
    go_wp2_with (first|(at_builtin;refine dK IU rfl rfl rfl (HRow.out.alloc _) rfl (m:=1) (news:=nz bT) rfl (ab.sl (ab.new wr 260 _) 0) Hl (by omega) (by simp;omega) ?_;intro v1 w1 ho1 hg1 hb1;obtain ⟨g1,cap1,rfl,hcap1,hcap2,hbg1⟩:=lH ho1 (by omega);have hbt1:=(HBt.out.alloc _).grown hg1 hneT;have y0:=hbt1.cell 0;have yf:=hbt1.frozen 0;have HBT1:=zAA hbt1;have hne1:g1≠T:=(fun e=>bg ho1 hbt1 (by decide) (by rw [e];rfl));have HO1:=zAA ho1;have HG1:=zAA hg1;clear ho1 hg1 hb1 hbt1;unfold maxLen at hcap2))
    have hbt2:=HBT1.out.set_ 0 (.slice (some ⟨g1,0,none⟩) (N'.length+1) cap1)
    have hro2:=fc HO1.out ⟨T,0,none⟩ (.slice (some ⟨g1,0,none⟩) (N'.length+1) cap1) (by show some g1≠some T;exact fun e=>hne1 (by injection e))
    rw [show nz bT=av nz [bT] from (gG bT).symm,←im] at hro2
    have hbl2:Below base w (w1.setCell ⟨T,0,none⟩ (.slice (some ⟨g1,0,none⟩) (N'.length+1) cap1)):=((HBl.out.alloc hRsz.out _).grown HG1.out (by have:=hRsz.out;simp;omega) (fun k hk=>(HRow.out.lt k hk).1)).setCell (p:=⟨T,0,none⟩) hbT _
    have hmp2:=((HMap.out.alloc (.cells #[.int .i64 0,.int .i64 0,.bool false,.int .i64 0] 260)).kept HG1.out (ll HMap.out HRow.out)).setCell (a:=⟨T,0,none⟩) (ox (((HMap.out.alloc (.cells #[.int .i64 0,.int .i64 0,.bool false,.int .i64 0] 260)).kept HG1.out (ll HMap.out HRow.out))) HBT1.out) (.slice (some ⟨g1,0,none⟩) (N'.length+1) cap1)
    have HBT2:=zAA hbt2;have HRO2:=zAA hro2;have HBL2:=zAA hbl2;have HMP2:=zAA hmp2
    clear hbt2 hro2 hbl2 hmp2 y0 yf c0 c1 c2 nx n2
    generalize w1.setCell ⟨T,0,none⟩ (.slice (some ⟨g1,0,none⟩) (N'.length+1) cap1)=w2 at HBT2 HRO2 HBL2 HMP2⊢
    have y0:w2.cell? ⟨T,0,none⟩=some (.slice (some ⟨g1,0,none⟩) (N'.length+1) cap1):=by rw [HBT2.out.cell];rfl
    have yn:w2.frozen? ⟨g1,k*4+xi,none⟩=false:=HRO2.out.frozenAt _
    obtain ⟨u,hu⟩:∃u,w2.cell? ⟨g1,k*4+xi,none⟩=some u:=by
     have hl:(N'++[bT]).length=N'.length+1:=by simp
     have h1:=jR (n:=N'.length+1) gU HRO2.out k (by rw [hl];omega) xi (by omega)
     rw [h1]
     exact ⟨_,List.getElem?_eq_getElem (by rw [gU];omega)⟩
    have hki2:(k:Int)<(N'.length:Int)+1:=by omega
    refine eK (fun w'=>w'.cell? ⟨T,0,none⟩=some (.slice (some ⟨g1,0,none⟩) (N'.length+1) cap1)) 14 [(0,true),(1,true),(2,true),(3,true),(4,true),(5,true),(6,true),(7,true),(8,true),(9,true),(10,true),(11,true),(12,true),(13,true)] (by kernel_rfl) (by kernel_rfl) (fun _ _ d _ _ h=>by cases d<;>exact h) (by decide) (by simp only [zAI,zAK,Array.getD_eq_getD_getElem?,zAG,zAF,zAE,zAR];rfl) (by simp only [zAI,zAK];rfl) (y0) (fun PE hPE=>?_)
    iterate 14
     refine jd (v:=?_) rfl (by rfl) ?_ ?_
     rotate_left
     ·intro _ hSw;(try dsimp only at hSw);go_simp;(try with_reducible rfl)
     simp only [zAC,zAM,zAL]
    (refine hPE _ _ ?_;simp only [zAJ,zAT];clear hPE PE)
    go_wp2_with fail
    go_roundg g
    case measure=>omega
    case rel=>
     have hl:(N'++[bT]).length=N'.length+1:=by simp
     have hkl:k<(N'++[bT]).length:=by rw [hl];omega
     have hek:(N'++[bT])[k]=N'[k]:=List.getElem_append_left hk
     have hrow3:=tM (n:=N'.length+1) gU HRO2.out k hkl xi (by omega) (.int .i64 (N'.length:Int)) (N'[k].link s[j] N'.length) (by
      rw [hek,HX.out];unfold Nd.link
      by_cases hc:s[j]=48
      ·rw [if_pos hc,if_pos hc];rfl
      ·rw [if_neg hc,if_neg hc];rfl)
     have h1:=HW2.out
     rw [HG.out] at h1
     have hl3:((N'++[bT]).set k (N'[k].link s[j] N'.length)).length=N'.length+1:=by simp
     refine ⟨j+1,N'.length,(N'++[bT]).set k (N'[k].link s[j] N'.length),by have:=HHj.out;omega,rfl,rfl,zAA h1,zAA ⟨.slice (some ⟨g1,0,none⟩) (N'.length+1) cap1,mb,HBT2.out.far (p:=⟨g1,k*4+xi,none⟩) (Ne.symm hne1) _,by rw [hl3];exact hrow3,HMP2.out.setCell (a:=⟨g1,k*4+xi,none⟩) (by have:=ll HMP2.out HRO2.out;intro e;exact this (by rw [e];rfl)) _,hbm,hbT⟩,zAA (HBL2.out.setCell (p:=⟨g1,k*4+xi,none⟩) hbg1 _).drew⟩
   ·have h0b:((tt:Int)==0)=false:=beq_eq_false_iff_ne.2 (by omega)
    have HG:=zAA (show uw N' k s[j]=(N',tt) by unfold uw;rw [kD hk,htt,if_neg h0])
    clear hxi htt h0
    go_wp2_with fail
    go_roundg g
    case measure=>omega
    case rel=>
     have h1:=HW2.out
     rw [HG.out] at h1
     exact ⟨j+1,tt,N',by omega,rfl,rfl,zAA h1,HT,HBl⟩
  |zero=>
   have hjj:j=s.length:=by omega
   subst hjj
   have hw1:=HRr.out
   rw [List.drop_length] at hw1
   obtain ⟨hk,hN,hRe⟩:=EL hw1
   have hm1:=HM.out
   rw [hRe] at hm1
   simp only [kD hk] at hm1
   split at hm1
   ·cases hm1
   rename_i hc
   simp only [zAB,not_or,zAO,bne_eq_false_iff_eq] at hc
   obtain ⟨⟨hleaf,ha0⟩,hb0⟩:=hc
   injection hm1 with hm1
   obtain ⟨gb,cap,mb,hbg,hlt,hc1,hc2,hA,hBt,hRow,hMap,hbm,hbT⟩:=mX HT.out hk
   obtain ⟨c0,c1,c2,n0,n1,n2,n3⟩:=hA
   rw [hleaf] at n2
   rw [ha0] at n0
   rw [hb0] at n1
   have hki:¬(k:Int)<0:=by omega
   have hkn:(k:Int)<(N'.length:Int):=by omega
   have hji:¬(s.length:Int)<(s.length:Int):=by omega
   have heq:=BK wr
   have hneT:gb≠T:=fun e=>bg hRow hBt (by decide) (by rw [e];rfl)
   have f2:wr.frozen? ⟨gb,k*4+2,none⟩=false:=hRow.frozenAt _
   have hmb:some mb≠some gb:=ll hMap hRow
   have hbt2:=hBt.far (p:=⟨gb,k*4+2,none⟩) (Ne.symm hneT) (.bool true)
   have hro2:=tM gU hRow k hk 2 (by decide) (.bool true) ⟨0,0,true,N'[k].num⟩ (by simp [nz,ha0,hb0])
   have hmp2:=hMap.setCell (a:=⟨gb,k*4+2,none⟩) (fun e=>hmb (by rw [e])) (.bool true)
   have hbl2:=HBl.out.setCell (p:=⟨gb,k*4+2,none⟩) hbg (.bool true)
   have HBT2:=zAA hbt2;have HRO2:=zAA hro2;have HMP2:=zAA hmp2;have HBL2:=zAA hbl2;have HM1:=zAA hm1
   clear hbt2 hro2 hmp2 hbl2 hRow hMap hBt hm1 hw1 hRe hleaf ha0 hb0 hj hc1 hc2
   go_wp2_with fail
   refine tS (fun w'=>w'.cell? ⟨T,0,none⟩=some (.slice (some ⟨gb,0,none⟩) N'.length cap)) 14 (.take 0 (.take 1 (.take 2 (.take 3 (.take 4 (.take 5 (.take 6 (.take 7 (.take 8 (.take 9 (.take 10 (.take 11 (.take 12 (.step 13 .done))))))))))))))
    (by kernel_rfl) (by kernel_rfl) (fun _ _ d _ _ h=>by cases d<;>exact h) (by simp only [aR.out,Array.getD_eq_getD_getElem?,zAG,zAF,zAE,zAR];rfl) (by simp only [zAI,zAK];rfl) c0 (fun PE hPE=>?_)
   iterate 13
    refine ah (v:=?_) rfl (by rfl) ?_ ?_
    rotate_left
    ·intro _ hSw;(try dsimp only at hSw);go_simp;(try with_reducible rfl)
    simp only [zAC,zAM,zAL]
   refine bG _ (w':=?_) rfl (by rfl) ?_ ?_ ?_
   rotate_left 1
   ·go_simp;(first|(with_reducible rfl)|(constructor<;>with_reducible rfl)|skip)
   ·show (wr.setCell ⟨gb,k*4+2,none⟩ (.bool true)).cell? ⟨T,0,none⟩=_;rw [HBT2.out.cell];rfl
   (refine hPE _ _ ?_;simp only [zAJ,zAT];clear hPE PE)
   generalize wr.setCell ⟨gb,k*4+2,none⟩ (.bool true)=w2 at HBT2 HRO2 HMP2 HBL2⊢
   have hl2:(N'.set k ⟨0,0,true,N'[k].num⟩).length=N'.length:=zAS
   have z0:w2.cell? ⟨T,0,none⟩=some (.slice (some ⟨gb,0,none⟩) N'.length cap):=by rw [HBT2.out.cell];rfl
   have z1:w2.cell? ⟨T,1,none⟩=some (.map (some mb)):=by rw [HBT2.out.cell];rfl
   have z2:w2.cell? ⟨T,2,none⟩=some (.int .i64 (many:Int)):=by rw [HBT2.out.cell];rfl
   have z3:w2.cell? ⟨gb,k*4+3,none⟩=some (.int .i64 N'[k].num):=by
    rw [jR gU HRO2.out k (by rw [hl2];exact hk) 3 (by decide),zAH];rfl
   have y3:w2.frozen? ⟨gb,k*4+3,none⟩=false:=HRO2.out.frozenAt _
   have yT:w2.frozen? ⟨T,2,none⟩=false:=HBT2.out.frozen 2
   have hro3:=tM gU HRO2.out k (by rw [hl2];exact hk) 3 (by decide) (.int .i64 num) ⟨0,0,true,num⟩ (by rw [zAH];rfl)
   rw [List.set_set,HM1.out] at hro3
   have hML:M.length=N'.length:=by rw [←HM1.out,zAS]
   have HBT3:=zAA (HBT2.out.far (p:=⟨gb,k*4+3,none⟩) (Ne.symm hneT) (.int .i64 num))
   have HRO3:=zAA hro3
   have HMP3:=zAA (HMP2.out.setCell (a:=⟨gb,k*4+3,none⟩) (fun e=>hmb (by rw [e])) (.int .i64 num))
   have HBL3:=zAA (HBL2.out.setCell (p:=⟨gb,k*4+3,none⟩) hbg (.int .i64 num))
   have hwm:IntKind.i64.wrap ((many:Int)+1)=(many:Int)+1:=by rw [IntKind.wrap_i64];omega
   clear c0 c1 c2 n0 n1 n2 n3 f2 heq hro3
   have HML:=zAA hML
   have HMB:=zAA hmb
   clear hML hmb hl2
   by_cases hh:Maps.has D (.int .i64 num)=true
   ·have HADD:=zAA (show nL D num s=D by unfold nL;rw [if_pos (by exact hh)])
    have z2a:=(HBT3.out.alloc (.cells #[.string (bs ((f num).getD []))] 227)).cell 2
    have z1a:=(HBT3.out.alloc (.cells #[.string (bs ((f num).getD []))] 227)).cell 1
    have z2f:=(HBT3.out.alloc (.cells #[.string (bs ((f num).getD []))] 227)).frozen 2
    go_wp2_with (at_lookup;refine wpList_lookup_own_ok _ rfl _ _ 230 rfl 3 227 kz Tryz.underlying230 gB (z:=fu []) (Tryz.zeroValue227 _) (.held (fu [])) [] rfl mb _ _ rfl HMP3.out (.int .i64 num) (.int .i64 num) rfl HNUM.out ?_;intro v ps hv;obtain rfl:=mI HD.out hv;clear hv)
    go_ret
    refine ⟨rfl,?_,?_⟩
    ·refine ⟨_,mb,((HBT3.out.alloc _).set_ 2 (.int .i64 ((many:Int)+1))),?_,?_,hbm,hbT⟩
     ·rw [HML.out]
      exact fc (HRO3.out.alloc _) ⟨T,2,none⟩ _ (by show some gb≠some T;exact fun e=>hneT (by injection e))
     ·rw [HADD.out]
      exact ((HMP3.out.alloc _).setCell (a:=⟨T,2,none⟩) (ox HMP3.out HBT3.out) _).mono (Nat.le_succ _)
    ·exact ((HBL3.out.alloc (zAD HB.out HBL3.out.size) _).setCell (p:=⟨T,2,none⟩) hbT _).drew
   ·have hh:Maps.has D (.int .i64 num)=false:=by simpa using hh
    have HADD:=zAA (show nL D num s=D.put (i5 num) (.held (fu s)) by unfold nL;rw [if_neg (by rw [show Maps.has D (i5 num)=false from hh];simp)])
    have z2a:=(HBT3.out.alloc (.cells #[.string (bs ((f num).getD []))] 227)).cell 2
    have z1a:=(HBT3.out.alloc (.cells #[.string (bs ((f num).getD []))] 227)).cell 1
    have z2f:=(HBT3.out.alloc (.cells #[.string (bs ((f num).getD []))] 227)).frozen 2
    go_wp2_with (first
     |(at_lookup;refine wpList_lookup_own_ok _ rfl _ _ 230 rfl 3 227 kz Tryz.underlying230 gB (z:=fu []) (Tryz.zeroValue227 _) (.held (fu [])) [] rfl mb _ _ rfl HMP3.out (.int .i64 num) (.int .i64 num) rfl HNUM.out ?_;intro v ps hv;obtain rfl:=mI HD.out hv;clear hv)
     |(at_mapUpdate;refine wpList_mapUpdate_in _ rfl _ _ _ 230 rfl 3 227 kz Tryz.underlying230 gB mb many _ rfl (HMP3.out.alloc _) (by unfold maxLen;omega) (.int .i64 num) (fu s) (.int .i64 num) rfl rfl HNUM.out (.held (fu s)) [] rfl ?_;intro w5 hown5 hturn5;have hbt5:=Bx (HBT3.out.alloc _).drew1 hturn5;have u2:=hbt5.cell 2;have uf:=hbt5.frozen 2;have HBT5:=zAA hbt5;have HO5:=zAA hown5;have HU5:=zAA hturn5;clear hbt5 hown5 hturn5))
    go_ret
    have hg5:=HU5.out.grown
    refine ⟨rfl,?_,?_⟩
    ·refine ⟨_,mb,(HBT5.out.set_ 2 (.int .i64 ((many:Int)+1))),?_,?_,hbm,hbT⟩
     ·rw [HML.out]
      exact fc ((FJ (HRO3.out.alloc _)).kept hg5 (.inr (fun e=>HMB.out e.symm))) ⟨T,2,none⟩ _ (by show some gb≠some T;exact fun e=>hneT (by injection e))
     ·rw [HADD.out]
      exact HO5.out.setCell (a:=⟨T,2,none⟩) (ox HO5.out HBT5.out) _
    ·exact ((HBL3.out.alloc (zAD HB.out HBL3.out.size) _).drew.grown hg5 (by have:=zAD HB.out HBL3.out.size;simp at this⊢;omega) (fun r e=>by cases e;exact hbm)).setCell (p:=⟨T,2,none⟩) hbT _
end Go.Proofs.YthhijgcfbjcgiaaGreatDoor
