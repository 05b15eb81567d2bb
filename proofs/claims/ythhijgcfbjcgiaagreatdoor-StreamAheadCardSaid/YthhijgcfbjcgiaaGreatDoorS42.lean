/- Wr, PutS, One21, Kn21P, Known21 -/
import Derived.Test.YthhijgcfbjcgiaaGreatDoorS32
import Derived.Test.YthhijgcfbjcgiaaGreatDoorS39
import Derived.Test.YthhijgcfbjcgiaaGreatDoorS06
import Derived.Test.YthhijgcfbjcgiaaGreatDoorS35
import Derived.Test.YthhijgcfbjcgiaaGreatDoorS41
import Derived.Test.YthhijgcfbjcgiaaGreatDoorS37
import Derived.Test.YthhijgcfbjcgiaaGreatDoorS27
import Derived.Test.YthhijgcfbjcgiaaGreatDoorS38
import Derived.Test.YthhijgcfbjcgiaaGreatDoorS36
namespace Go.Proofs.YthhijgcfbjcgiaaGreatDoor
open Go Go.RowKit
attribute [local go_sem] Oper.semAt_some
open Go.Lib renaming hid→zAA
open List renaming length_append→zAB,append_assoc→zAC,length_map→zAD,append_nil→zAF,mem_singleton→zAG,take_of_length_le→zAH,mem_cons→zAI,cons_append→zAL,take_zero→zAM,drop_eq_getElem_cons→zAN,getElem_mem→zAO,mem_map→zAP,mem_nil_iff→zAQ,nil_append→zAR,take_append_drop→zAT,getElem_map→zAU,map_append→zAV
open Nat renaming le_refl→zAE,not_lt_zero→zAW
open Bool renaming and_eq_true→zAJ
open Go.IntKind renaming wrap_i64→zAK,i64→zAS
def gj:bD→List aU→bD
 |x,[]=>x
 |_,m::ms=>gj (ez m) ms
theorem uF:∀(ms:List aU) (x:bD) (m:aU),gj x (ms++[m])=ez m
 |[],_,_=>rfl
 |_::ms,_,m=>uF ms _ m
theorem sr:∀(ms:List aU) (x:bD) (m:aU),bN x (ms++[m])=bN x ms++(aN.getD (m.ad - (gj x ms).ad).toNat []++dI m (gj x ms))
 |[],x,m=>by rw [zAR,bN,bN,bN,zAF,zAR];rfl
 |a::ms,x,m=>by rw [zAL,bN,sr ms _ m,bN,gj];simp only [zAC]
theorem pm:∀(a b:List fK),bZ (a++b)=bZ a++bZ b
 |[],_=>rfl
 |g::a,b=>by rw [zAL,bZ,bZ,pm a b,zAC]
theorem uG:∀(a b:List aU) (x:bD),bN x (a++b)=bN x a++bN (gj x a) b
 |[],_,_=>rfl
 |m::a,b,x=>by rw [zAL,bN,bN,uG a b,gj,zAC,zAC]
theorem AY {f g:Int}:∀(ms:List aU) (x:bD) (j:Nat) (hj:j<ms.length),0≤x.ad→(∀ad,x.ad<ad→dm x ad=true)→dU f g x.ad ms=true→
  0≤(gj x (ms.take j)).ad∧(gj x (ms.take j)).ad<ms[j].ad∧ms[j].ad≤33∧su ms[j] (gj x (ms.take j))=(dI ms[j] (gj x (ms.take j)),0)
 |[],_,j,hj,_,_,_=>absurd hj (zAW _)
 |m::ms,x,0,_,h0,hx,h=>by
  obtain ⟨h1,h2,_,_⟩:=mO h
  have hm:=(iH _).1 h1
  simp only [zAM,gj,List.getElem_cons_zero]
  refine ⟨h0,h2,hm.a2,?_⟩
  unfold su
  rw [h1,hx _ h2]
  rfl
 |m::ms,x,j+1,hj,h0,hx,h=>by
  obtain ⟨h1,h2,_,h4⟩:=mO h
  have hm:=(iH _).1 h1
  simp only [List.take_succ_cons,gj,List.getElem_cons_succ]
  rw [←gL m] at h4
  exact AY ms (ez m) j (by simpa using hj) (by rw [gL];omega) (fun ad h=>tX hm (by rw [gL] at h;exact h)) h4
theorem FR {w0 W:World} {h k:Nat} {L:List UInt8} {t:TypeId} {cs:Array Value} (hp:dQ w0 h L W) (hk:ab W k t cs) (h1:t≠95) (h2:t≠5) (hw:w0.heap.size≤k) (i:Nat) (v:Value):dQ w0 h L (W.setCell ⟨k,i,none⟩ v):=by
 obtain ⟨u,hc⟩:=hp
 obtain ⟨hb,hcs,hr⟩:=hc
 exact ⟨u,hb.setCell (p:=⟨k,i,none⟩) hw v,aa.cons (hcs.head.far (p:=⟨k,i,none⟩) (aS hcs.head hk (Ne.symm h1)) v) (ag _),cg hr hk (by intro r hr;rw [zAG] at hr;subst hr;exact Ne.symm h2) i v⟩
theorem dQ.be {w0 W:World} {h:Nat} {L:List UInt8} (hp:dQ w0 h L W):Below w0.heap.size w0 W:=by
 obtain ⟨u,hc⟩:=hp
 exact hc.1
theorem dQ.pn {w0 W:World} {h:Nat} {L:List UInt8} (hp:dQ w0 h L W):∃cs,ab W h 95 cs:=by
 obtain ⟨u,hc⟩:=hp
 exact ⟨_,hc.2.1.head⟩
set_option maxRecDepth 100000 in
theorem vT (w0:World) (h hb:Nat) (L s:List UInt8) (er:Int) (hs:cN s) (hl:L.length+s.length≤16777216) (hh:w0.heap.size≤h) (w:World) (hp:dQ w0 h L w) (hbx:ab w hb 56 #[.pointer (some ⟨h,0,none⟩)]):
  Calls Tryz.prog 57 #[.string (bs s),.int .i64 er,.pointer (some ⟨hb,0,none⟩)] w fun e w'=>(∃u,e= .returned u)∧dQ w0 h (L++s) w'∧PB h w w':=by
 have z0:=hbx.cell 0
 (try dsimp only at z0)
 have C:=zAA (uN w0 h L s hs hl hh w hp)
 clear hp hbx hs hl
 go_enter Tryz.func57,Tryz.ntmps57
 go_wp2_with (go_at_call 58;refine C.out.mono ?_;rintro e w2 ⟨rfl,hp2,hpb⟩)
 exact bodyPost_end (results_none rfl _ _ _) rfl ⟨⟨_,rfl⟩,hp2,hpb⟩
structure kO (w0:World) (h b:Nat) (L:List UInt8) (W:World):Prop where
 pen:dQ w0 h L W
 bx:ab W b 56 #[.pointer (some ⟨h,0,none⟩)]
theorem kO.below {w0:World} {h b:Nat} {L:List UInt8} {W W':World} (k:kO w0 h b L W) (hb:Below W.heap.size W W'):kO w0 h b L W':=⟨k.pen.below hb,k.bx.below hb k.bx.lt⟩
theorem kO.ne {w0:World} {h b g:Nat} {L:List UInt8} {W:World} {t:TypeId} {cs:Array Value} (k:kO w0 h b L W) (hb:ab W g t cs) (ht:t≠95):g≠h:=by
 obtain ⟨cs2,hp⟩:=k.pen.pn
 exact aS hb hp ht
theorem kO.pb {w0:World} {h b:Nat} {L L':List UInt8} {W W':World} (k:kO w0 h b L W) (hp:dQ w0 h L' W') (hb:PB h W W'):kO w0 h b L' W':=⟨hp,hb.blk _ _ _ (k.ne k.bx (by decide)) (by decide) k.bx⟩
theorem kO.off {w0:World} {h b g:Nat} {L:List UInt8} {W:World} {t:TypeId} {cs:Array Value} (k:kO w0 h b L W) (hg:ab W g t cs) (h1:t≠95) (h2:t≠5) (h3:t≠56) (hw:w0.heap.size≤g) (i:Nat) (v:Value):kO w0 h b L (W.setCell ⟨g,i,none⟩ v):=
 ⟨FR k.pen hg h1 h2 hw i v,k.bx.far (p:=⟨g,i,none⟩) (aS k.bx hg (Ne.symm h3)) v⟩
structure o8 (w0:World) (h b g:Nat) (x:bD) (L:List UInt8) (W:World):Prop where
 wr:kO w0 h b L W
 la:ab W g 102 (oP x)
theorem o8.below {w0:World} {h b g:Nat} {x:bD} {L:List UInt8} {W W':World} (k:o8 w0 h b g x L W) (hb:Below W.heap.size W W'):o8 w0 h b g x L W':=⟨k.wr.below hb,k.la.below hb k.la.lt⟩
theorem o8.pb {w0:World} {h b g:Nat} {x:bD} {L L':List UInt8} {W W':World} (k:o8 w0 h b g x L W) (hp:dQ w0 h L' W') (hb:PB h W W'):o8 w0 h b g x L' W':=⟨k.wr.pb hp hb,hb.blk _ _ _ (k.wr.ne k.la (by decide)) (by decide) k.la⟩
theorem o8.last {w0:World} {h b g:Nat} {x:bD} {L:List UInt8} {W:World} (k:o8 w0 h b g x L W) (hw:w0.heap.size≤g) (y:bD):o8 w0 h b g y L ((((W.setCell ⟨g,0,none⟩ (.int .i64 y.ad)).setCell ⟨g,1,none⟩ (.bool y.had)).setCell ⟨g,2,none⟩ (.int .i64 y.x)).setCell ⟨g,3,none⟩ (.int .i64 y.y)):=by
 have l1:=k.la.set_ 0 (.int .i64 y.ad)
 have l2:=l1.set_ 1 (.bool y.had)
 have l3:=l2.set_ 2 (.int .i64 y.x)
 have l4:=l3.set_ 3 (.int .i64 y.y)
 have k1:=k.wr.off k.la (by decide) (by decide) (by decide) hw 0 (.int .i64 y.ad)
 have k2:=k1.off l1 (by decide) (by decide) (by decide) hw 1 (.bool y.had)
 have k3:=k2.off l2 (by decide) (by decide) (by decide) hw 2 (.int .i64 y.x)
 have k4:=k3.off l3 (by decide) (by decide) (by decide) hw 3 (.int .i64 y.y)
 refine ⟨k4,?_⟩
 unfold oP at*
 simpa using l4
theorem BT (gs:List fK) (j:Nat) (hj:j<gs.length):bZ gs=bZ (gs.take j)++(ic gs[j]++bZ (gs.drop (j+1))):=by
 have h:gs=gs.take j++gs[j]::gs.drop (j+1):=by rw [←zAN hj,zAT]
 conv=>lhs;rw [h]
 rw [pm,bZ]
theorem Cb (ms:List aU) (j:Nat) (hj:j<ms.length):bN b9 ms=bN b9 (ms.take j)++(aN.getD (ms[j].ad - (gj b9 (ms.take j)).ad).toNat []++(dI ms[j] (gj b9 (ms.take j))++bN (ez ms[j]) (ms.drop (j+1)))):=by
 have h:ms=ms.take j++ms[j]::ms.drop (j+1):=by rw [←zAN hj,zAT]
 conv=>lhs;rw [h]
 rw [uG,bN]
theorem qc {α:Type} (l:List α) (j:Nat) (hj:j<l.length):l.take (j+1)=l.take j++[l[j]]:=by
 rw [List.take_add_one,List.getElem?_eq_getElem hj];rfl
theorem wV {f:Int}:∀(ns:List Int) (gs:List fK) (j:Nat) (hj:j<gs.length),dT f ns gs=true→∃n,n∈ns∧jq f n gs[j]=true
 |_,[],j,hj,_=>absurd hj (zAW _)
 |[],_::_,_,_,h=>by cases h
 |n::ns,g::gs,0,_,h=>by
  rw [dT,zAJ] at h
  exact ⟨n,List.mem_cons_self ..,h.1⟩
 |n::ns,g::gs,j+1,hj,h=>by
  rw [dT,zAJ] at h
  obtain ⟨m,h1,h2⟩:=wV ns gs j (by simpa using hj) h.2
  exact ⟨m,List.mem_cons_of_mem _ h1,h2⟩
theorem Fp {f n:Int} (h:n∈aQ f):1≤n∧n≤15:=by
 unfold aQ at h
 split at h<;>simp only [zAI,zAQ,or_false] at h<;>omega
set_option maxRecDepth 100000 in
set_option maxHeartbeats 16000000 in
theorem yl (w0:World) (h:Nat) (L:List UInt8) (s:bh) (hs:ek w0 s) (hS:fL s) (hT:Tz w0) (hTs:Ts w0) (hok:bX s.s=true) (hl:L.length+(dC s.s).length≤16777216) (hh:w0.heap.size≤h) (w:World) (hp:dQ w0 h L w):
  Calls Tryz.prog 31 #[.pointer (some ⟨h,0,none⟩),eE s] w fun e w'=>(∃u,e= .returned u)∧dQ w0 h (L++dC s.s) w':=by
 obtain ⟨tm,ty,sp,sA,sc,gs,A,c⟩:=s
 obtain ⟨hsp,hrow,hgs⟩:=hs
 obtain ⟨hs1,hs2,hs3⟩:=hS
 dsimp only at hsp hrow hgs hs1 hs2 hs3
 unfold bh.s at hok hl⊢
 unfold eE
 dsimp only at hok hl⊢
 obtain ⟨hhd,hgr⟩:=nU hok
 dsimp only at hhd hgr
 unfold dC at hl⊢
 dsimp only at hl⊢
 have HROW:=zAA hrow;have HGS:=zAA hgs;have HS3:=zAA hs3;have HTZ:=zAA hT;have HTS:=zAA hTs;have HLL:=zAA hl;have HGR:=zAA hgr;have HH:=zAA hh
 have hfin:L++(dA 0++(jE ⟨tm,ty,sp⟩++bZ (gs.map (·.g))))=((L++dA 0)++jE ⟨tm,ty,sp⟩)++bZ (gs.map (·.g)):=by simp only [zAC]
 have hlen:((L++dA 0)++jE ⟨tm,ty,sp⟩).length+(bZ (gs.map (·.g))).length≤16777216:=by have:=hl;simp only [zAB] at this⊢;omega
 rw [hfin]
 obtain ⟨L1,hL1⟩:∃L1,(L++dA 0)++jE ⟨tm,ty,sp⟩=L1:=⟨_,rfl⟩
 rw [hL1] at hlen⊢
 have HL1:=zAA hL1;have HLEN:=zAA hlen
 clear hfin hlen hL1
 have C1:=zAA (fun W=>qI 0 (by decide) W)
 have C2:=zAA (fun W (hb:Below w0.heap.size w0 W)=>Hy tm ty sp sA sp.length sc W (hsp.below hb) rfl hhd)
 simp only [Int.natCast_zero] at C1
 obtain ⟨b,hb⟩:∃b,w.heap.size=b:=⟨_,rfl⟩
 have CW:=zAA (fun (M s:List UInt8) (er:Int) W (k:kO w0 h b M W) (hs:cN s) (hl:M.length+s.length≤16777216)=>vT w0 h b M s er hs hl hh W k.pen k.bx)
 have hk0:kO w0 h b L ((w.alloc (.cells #[.pointer (some ⟨h,0,none⟩)] 56)).alloc (.cells #[.int .i64 tm,.int .i64 ty,.slice sA sp.length sc,.slice A gs.length c] 35)):=⟨(hp.below ((Below.refl _ _).alloc (zAE _) _)).below ((Below.refl _ _).alloc (zAE _) _),(aD (ab.new _ _ _) hb).alloc _⟩
 have hsh0:ab ((w.alloc (.cells #[.pointer (some ⟨h,0,none⟩)] 56)).alloc (.cells #[.int .i64 tm,.int .i64 ty,.slice sA sp.length sc,.slice A gs.length c] 35)) (b+1) 35 #[.int .i64 tm,.int .i64 ty,.slice sA sp.length sc,.slice A gs.length c]:=aD (ab.new _ _ _) (by simp [hb])
 have HK0:=zAA hk0;have HSH0:=zAA hsh0
 have hmf:∀(fn:Fn) (first cap:Array Value) (w:World),(Instr.makeFunc fn first cap).run Tryz.prog w= .ok (.func fn first cap) w:=fun _ _ _ _=>rfl
 obtain ⟨k,hk⟩:∃k,sp.length=k:=⟨_,rfl⟩
 obtain ⟨n,hn⟩:∃n,gs.length=n:=⟨_,rfl⟩
 have HN:=zAA hn
 rw [hk,hn] at HK0 HSH0
 rw [hk] at C2
 rw [hk,hn]
 rw [hn] at hs2
 clear hsp hrow hgs hs1 hs3 hT hTs hok hl hh hhd hgr hk0 hsh0 hn hk hp
 go_enter Tryz.func31,Tryz.ntmps31
 go_wp2_with (go_at_call 59;refine (C1.out _).mono ?_;rintro e w1 ⟨rfl,rfl⟩)
 refine (CW.out L (dA 0) 0 _ HK0.out (nQ _) (by have:=HLL.out;simp only [zAB] at this;omega)).mono ?_
 rintro e w2 ⟨⟨u2,rfl⟩,hp2,hb2⟩
 have HK2:=zAA (HK0.out.pb hp2 hb2)
 have hsh2:=hb2.blk _ _ _ (HK0.out.ne HSH0.out (by decide)) (by decide) HSH0.out
 have HSH2:=zAA hsh2
 have y0:=hsh2.cell 0;have y1:=hsh2.cell 1;have y2:=hsh2.cell 2
 (try dsimp only at y0 y1 y2)
 clear hp2 hb2 hsh2 HK0 HSH0
 go_wp2_with (go_at_call 60;refine (C2.out _ HK2.out.pen.be).mono ?_;rintro e w3 ⟨rfl,hb3⟩;have HK3:=zAA (HK2.out.below hb3);have HSH3:=zAA (HSH2.out.below hb3 HSH2.out.lt);clear hb3)
 have hbh:cN (jE ⟨tm,ty,sp⟩):=(ec _ _).app ((ec _ _).app (lS _))
 refine (CW.out (L++dA 0) (jE ⟨tm,ty,sp⟩) 0 _ HK3.out hbh (by have:=HLL.out;simp only [zAB] at this⊢;omega)).mono ?_
 rintro e w4 ⟨⟨u4,rfl⟩,hp4,hb4⟩
 have HK4:=zAA (HK3.out.pb hp4 hb4)
 have hsh4:=hb4.blk _ _ _ (HK3.out.ne HSH3.out (by decide)) (by decide) HSH3.out
 have y3:=hsh4.cell 3
 (try dsimp only at y3)
 have hk4:=HK4.out
 rw [HL1.out] at hk4
 have HK5:=zAA hk4
 clear hp4 hb4 hsh4 hbh hk4 HK2 HK3 HK4 HSH2 HSH3 HLL C1 C2 y0 y1 y2
 go_wp2_with fail
 go_loopg [26] n (fun gk i=>fun wr=>∃(j:Nat),j+gk=n∧i= .int .i64 (j:Int)∧Hid (kO w0 h b (L1++bZ ((gs.map (·.g)).take j)) wr))
 case atStart=>exact ⟨0,by omega,rfl,zAA (by rw [zAM,bZ,zAF];exact HK5.out)⟩
 case round=>
  obtain ⟨j,hj,rfl,HK⟩:=hrel
  cases gk with
  |zero=>
   have hlt:¬((j:Int)<(n:Int)):=by omega
   have hk:=HK.out
   rw [zAH (by rw [zAD,HN.out];omega)] at hk
   have HKF:=zAA hk
   clear hk hj
   go_wp2_with fail
   exact bodyPost_end (results_none rfl _ _ _) rfl ⟨⟨_,rfl⟩,HKF.out.pen⟩
  |succ go=>
   have hlt:((j:Int)<(n:Int)):=by omega
   have hj0:¬((j:Int)<0):=by omega
   have hjl:j<gs.length:=by rw [HN.out];omega
   have hjm:j<(gs.map (·.g)).length:=by rw [zAD];exact hjl
   have hwj:zAS.wrap ((j:Int)+1)=(j:Int)+1:=by rw [zAK];omega
   obtain ⟨ad,rfl,_,c0,c1,c2,c3⟩:=mj (HROW.out.below HK.out.pen.be) j hjl
   have hmem:=zAO hjl
   obtain ⟨nm,hnm,hgb⟩:=wV _ _ j hjm HGR.out
   have hsp:=BT (gs.map (·.g)) j hjm
   have htk:=qc (gs.map (·.g)) j hjm
   rw [zAU] at hgb hsp htk
   obtain ⟨G,hG⟩:∃G,gs[j]=G:=⟨_,rfl⟩
   rw [hG] at hmem c0 c1 c2 c3 hgb hsp htk
   have hat:=HGS.out _ hmem
   have hsm:=HS3.out _ hmem
   obtain ⟨num,qu,gsp,gA,gc,ms,mA,mc⟩:=G
   rw [show (⟨num,qu,gsp,gA,gc,ms,mA,mc⟩:cV).g=⟨num,qu,gsp,ms.map (·.m)⟩ from rfl] at hgb hsp htk
   dsimp only at c0 c1 c2 c3 hgb hsp htk
   obtain ⟨hnum,hq1,hq2,hsp32,hrise⟩:=oa hgb
   dsimp only at hnum hq1 hq2 hsp32 hrise
   obtain ⟨hn1,hn15⟩:=Fp hnm
   subst hnum
   obtain ⟨N,rfl⟩:=Int.eq_ofNat_of_zero_le (by omega:0≤num)
   obtain ⟨hgsp,hmrow,hmat⟩:=hat
   obtain ⟨_,hms1,hms2⟩:=hsm
   dsimp only at hgsp hmrow hmat hms1 hms2
   have hlen1:(L1++bZ ((gs.map (·.g)).take j)).length+(ic ⟨(N:Int),qu,gsp,ms.map (·.m)⟩).length≤16777216:=by
    have:=HLEN.out
    rw [hsp] at this
    simp only [zAB] at this⊢
    omega
   have hnext:(L1++bZ ((gs.map (·.g)).take j))++ic ⟨(N:Int),qu,gsp,ms.map (·.m)⟩=L1++bZ ((gs.map (·.g)).take (j+1)):=by
    rw [htk,pm,bZ,bZ,zAF,zAC]
   generalize L1++bZ ((gs.map (·.g)).take j)=M at HK hlen1 hnext
   unfold ic at hlen1 hnext
   dsimp only at hlen1 hnext
   have HLEN1:=zAA hlen1;have HNX:=zAA hnext;have HJ:=zAA hj;have HMROW:=zAA hmrow;have HMAT:=zAA hmat;have HMS:=zAA hms2;have HRI:=zAA hrise
   have hk32:iW qu gsp.length=true:=by unfold iW;simp only [zAJ,decide_eq_true_eq];exact ⟨⟨hq1,hq2⟩,hsp32⟩
   have CG:=zAA (fun W (h:Below w0.heap.size w0 W)=>y7 N qu gsp gA gsp.length gc W (hgsp.below h) rfl (by omega) (by omega) hk32)
   have hbits:cN (dA (N:Int)++(ax qu.toNat 5++dw gsp)):=(nQ _).app ((ec _ _).app (lS _))
   have hl2:M.length+(dA (N:Int)++(ax qu.toNat 5++dw gsp)).length≤16777216:=by simp only [zAB] at hlen1⊢;omega
   have CW2:=zAA (fun W (k:kO w0 h b M W)=>CW.out M _ 0 W k hbits hl2)
   have hba:=(Below.refl _ wr).alloc (zAE _) (.cells #[.int .i64 (N:Int),.int .i64 qu,.slice gA gsp.length gc,.slice mA ms.length mc] 51)
   obtain ⟨gk6,hgk6⟩:∃g,wr.heap.size=g:=⟨_,rfl⟩
   have hg0:ab (wr.alloc (.cells #[.int .i64 (N:Int),.int .i64 qu,.slice gA gsp.length gc,.slice mA ms.length mc] 51)) gk6 51 #[.int .i64 (N:Int),.int .i64 qu,.slice gA gsp.length gc,.slice mA ms.length mc]:=aD (ab.new _ _ _) hgk6
   have HKA:=zAA (HK.out.below hba);have HG0:=zAA hg0
   obtain ⟨sk,hsk⟩:∃k,gsp.length=k:=⟨_,rfl⟩
   obtain ⟨mn,hmn⟩:∃k,ms.length=k:=⟨_,rfl⟩
   have HMN:=zAA hmn
   rw [hsk] at c2 CG
   rw [hmn] at c3 hms1
   rw [hsk,hmn] at HKA HG0
   obtain ⟨txt,htxt⟩:∃t,dA (N:Int)++(ax qu.toNat 5++dw gsp)=t:=⟨_,rfl⟩
   rw [htxt] at CG CW2
   have HTXT:=zAA htxt
   clear hmem hnm hgb hsp htk hG hjl hjm hrise hgsp hmrow hmat hms2 hn1 hn15 hlen1 hnext hj hbits hl2 hba hg0 hsk hmn hq1 hq2 hsp32 hk32 htxt HK
   go_wp2_with (go_at_call 61;refine (CG.out _ HKA.out.pen.be).mono ?_;rintro e w5 ⟨rfl,rfl⟩)
   refine (CW2.out _ HKA.out).mono ?_
   rintro e w6 ⟨⟨u6,rfl⟩,hp6,hb6⟩
   have HK6:=zAA (HKA.out.pb hp6 hb6)
   have hg6:=hb6.blk _ _ _ (HKA.out.ne HG0.out (by decide)) (by decide) HG0.out
   have HG6:=zAA hg6
   have hb07:=(Below.refl _ w6).alloc (zAE _) (.cells #[.int .i64 0,.bool false,.int .i64 0,.int .i64 0] 102)
   have hg7:=hg6.below hb07 hg6.lt
   have z3:=hg7.cell 3
   (try dsimp only at z3)
   obtain ⟨gl,hgl⟩:∃g,w6.heap.size=g:=⟨_,rfl⟩
   have hm7:o8 w0 h b gl b9 (M++txt) (w6.alloc (.cells #[.int .i64 0,.bool false,.int .i64 0,.int .i64 0] 102)):=⟨HK6.out.below hb07,aD (ab.new _ _ _) hgl⟩
   have HM7:=zAA hm7
   have HGL:Hid (w0.heap.size≤gl):=zAA (by rw [←hgl];exact HK6.out.pen.be.size)
   clear hp6 hb6 hg6 hb07 hg7 hm7 HKA HG0 CG CW2
   go_wp2_with fail
   generalize w6.alloc (.cells #[.int .i64 0,.bool false,.int .i64 0,.int .i64 0] 102)=w7 at HM7 z3⊢
   clear hgl HK6 HG6 z3 c0 c1 c2 c3
   have HLEN2:Hid ((M++txt).length+(bN b9 (ms.map (·.m))).length≤16777216):=zAA (by have:=HLEN1.out;rw [←HTXT.out];simp only [zAB] at this⊢;omega)
   have HNX2:Hid ((M++txt)++bN b9 (ms.map (·.m))=L1++bZ ((gs.map (·.g)).take (j+1))):=zAA (by rw [←HNX.out,←HTXT.out];simp only [zAC])
   generalize M++txt=M2 at HLEN2 HNX2 HM7
   clear HLEN1 HNX HTXT
   go_loopg [44] mn (fun gk i=>fun wr=>∃(j:Nat),j+gk=mn∧i= .int .i64 (j:Int)∧Hid (o8 w0 h b gl (gj b9 ((ms.map (·.m)).take j)) (M2++bN b9 ((ms.map (·.m)).take j)) wr))
   case atStart=>exact ⟨0,by omega,rfl,zAA (by rw [zAM,bN,zAF];exact HM7.out)⟩
   case round=>
    obtain ⟨j2,hj2,rfl,HKI⟩:=hrel
    cases gk with
    |zero=>
     have hlt2:¬((j2:Int)<(mn:Int)):=by omega
     have hk:=HKI.out
     rw [zAH (by rw [zAD,HMN.out];omega),HNX2.out] at hk
     have HKF:=zAA hk.wr
     clear hk hj2
     go_wp2_with fail
     go_roundg go
     case measure=>omega
     case rel=>exact ⟨j+1,by have:=HJ.out;omega,rfl,HKF⟩
    |succ gi=>
     have hlt2:((j2:Int)<(mn:Int)):=by omega
     have hj20:¬((j2:Int)<0):=by omega
     have hjl2:j2<ms.length:=by rw [HMN.out];omega
     have hjm2:j2<(ms.map (·.m)).length:=by rw [zAD];exact hjl2
     have hwj2:zAS.wrap ((j2:Int)+1)=(j2:Int)+1:=by rw [zAK];omega
     have hbe:=HKI.out.wr.pen.be
     obtain ⟨am,rfl,_,d0,d1,d2,d3,d4,d5,d6⟩:=mo (HMROW.out.below hbe) j2 hjl2
     have hmem:=zAO hjl2
     have hra:=AY (ms.map (·.m)) b9 j2 hjm2 (by decide) (fun ad h=>qA h) HRI.out
     have hspl:=Cb (ms.map (·.m)) j2 hjm2
     have htk2:=qc (ms.map (·.m)) j2 hjm2
     rw [zAU] at hra hspl htk2
     obtain ⟨⟨m,xs,Am,cm⟩,hm⟩:∃m,ms[j2]=m:=⟨_,rfl⟩
     rw [hm] at hmem hra hspl htk2 d0 d1 d2 d3 d4 d5 d6
     dsimp only at hra hspl htk2 d0 d1 d2 d3 d4 d5 d6
     have hmat2:=(HMAT.out _ hmem).below hbe
     have hms3:=HMS.out _ hmem
     have hk:=HKI.out
     have hxn:gj b9 ((ms.map (·.m)).take (j2+1))=ez m:=by rw [htk2];exact uF _ _ _
     have hmn2:bN b9 ((ms.map (·.m)).take (j2+1))=bN b9 ((ms.map (·.m)).take j2)++(aN.getD (m.ad - (gj b9 ((ms.map (·.m)).take j2)).ad).toNat []++dI m (gj b9 ((ms.map (·.m)).take j2))):=by rw [htk2];exact sr _ _ _
     obtain ⟨x,hx⟩:∃x,gj b9 ((ms.map (·.m)).take j2)=x:=⟨_,rfl⟩
     rw [hx] at hra hspl hk hmn2
     have hl3:(M2++bN b9 ((ms.map (·.m)).take j2)).length+(aN.getD (m.ad - x.ad).toNat []).length+(dI m x).length≤16777216:=by
      have:=HLEN2.out
      rw [hspl] at this
      simp only [zAB] at this⊢
      omega
     obtain ⟨M3,hM3⟩:∃M3,M2++bN b9 ((ms.map (·.m)).take j2)=M3:=⟨_,rfl⟩
     have hmn3:M2++bN b9 ((ms.map (·.m)).take (j2+1))=(M3++aN.getD (m.ad - x.ad).toNat [])++dI m x:=by rw [hmn2,←hM3];simp only [zAC]
     rw [hM3] at hk hl3
     obtain ⟨hx0,hxm,hm33,hput⟩:=hra
     have hpd:pL (m.ad - x.ad)=(aN.getD (m.ad - x.ad).toNat [],0):=by unfold pL;rw [if_neg (by omega)]
     have hbc:cN (aN.getD (m.ad - x.ad).toNat []):=wC _
     have CA:=zAA (fun W (hT:Tz W)=>yM (m.ad - x.ad) W hT (by omega))
     rw [hpd] at CA
     dsimp only at CA
     have hwd:zAS.wrap (m.ad - x.ad)=m.ad - x.ad:=by rw [zAK];omega
     generalize aN.getD (m.ad - x.ad).toNat []=cd at*
     have hxs:m.bl=xs.map (·.1):=hmat2.e
     have CM:=zAA (fun W (hb:Below w0.heap.size w0 W) (hT:Tz W) (hs:Ts W)=>DT m x xs Am cm W hxs (((HMAT.out _ hmem).below hb).bks hms3) hT hs)
     rw [hput] at CM
     have CF:=zAA (fun W=>qL m Am xs.length cm W)
     unfold fx eS at CM
     unfold fx at CF
     dsimp only at CM
     have hbm:cN (dI m x):=ug m x
     have HXN:=zAA hxn;have HMN3:=zAA hmn3;have HL3:=zAA hl3;have HBC:=zAA hbc;have HBM:=zAA hbm;have HWD:=zAA hwd;have HJ2:=zAA hj2
     have HK1:=zAA hk
     obtain ⟨xl,hxl⟩:∃n,xs.length=n:=⟨_,rfl⟩
     rw [hxl] at CM CF d6
     have hba:=(Below.refl _ wr).alloc (zAE _) (.cells #[.int .i64 m.ad,.int .i64 m.kd,.int .i64 m.qu,.int .i64 m.x,.int .i64 m.y,.int .i64 m.pa,.slice Am xl cm] 55)
     obtain ⟨g9,hg9⟩:∃g,wr.heap.size=g:=⟨_,rfl⟩
     have hb9:ab (wr.alloc (.cells #[.int .i64 m.ad,.int .i64 m.kd,.int .i64 m.qu,.int .i64 m.x,.int .i64 m.y,.int .i64 m.pa,.slice Am xl cm] 55)) g9 55 #[.int .i64 m.ad,.int .i64 m.kd,.int .i64 m.qu,.int .i64 m.x,.int .i64 m.y,.int .i64 m.pa,.slice Am xl cm]:=aD (ab.new _ _ _) hg9
     have HB9:=zAA hb9
     have hka:=hk.below hba
     have HKA2:=zAA hka
     have hla:=hka.la
     unfold oP at hla
     have l0:=hla.cell 0
     (try dsimp only at l0)
     clear hbe hmem hspl htk2 hm hmat2 hms3 hk hxn hmn2 hx hl3 hM3 hmn3 hx0 hxm hm33 hput hpd hbc hxs hbm hxl hba hb9 hka hla hjl2 hjm2 hj2 HKI
     go_wp2_with (go_at_call 62;refine (CA.out _ (HTZ.out.below HKA2.out.wr.pen.be)).mono ?_;rintro e w8 ⟨rfl,hb8⟩;have HK8:=zAA (HKA2.out.below hb8);have HB8:=zAA (HB9.out.below hb8 HB9.out.lt);clear hb8)
     refine (CW.out M3 cd 0 _ HK8.out.wr HBC.out (by have:=HL3.out;omega)).mono ?_
     rintro e w9 ⟨⟨u9,rfl⟩,hp9,hb9⟩
     have HK9:=zAA (HK8.out.pb hp9 hb9)
     have hm9:=hb9.blk _ _ _ (HK8.out.wr.ne HB8.out (by decide)) (by decide) HB8.out
     have HM9:=zAA hm9
     have e0:=hm9.cell 0;have e1:=hm9.cell 1;have e2:=hm9.cell 2;have e3:=hm9.cell 3;have e4:=hm9.cell 4;have e5:=hm9.cell 5;have e6:=hm9.cell 6
     have hla9:=HK9.out.la
     unfold oP at hla9
     have f0:=hla9.cell 0;have f1:=hla9.cell 1;have f2:=hla9.cell 2;have f3:=hla9.cell 3
     (try dsimp only at e0 e1 e2 e3 e4 e5 e6 f0 f1 f2 f3)
     clear hp9 hb9 hm9 hla9 HK8 HB8 HKA2 HB9 CA l0 d0 d1 d2 d3 d4 d5 d6
     go_wp2_with (go_at_call 63;refine (CM.out _ HK9.out.wr.pen.be (HTZ.out.below HK9.out.wr.pen.be) (HTS.out.below HK9.out.wr.pen.be)).mono ?_;rintro e wa ⟨rfl,hba⟩;have HKa:=zAA (HK9.out.below hba);have HMa:=zAA (HM9.out.below hba HM9.out.lt);clear hba)
     refine (CW.out (M3++cd) (dI m x) 0 _ HKa.out.wr HBM.out (by have:=HL3.out;rw [zAB];omega)).mono ?_
     rintro e wb ⟨⟨ub,rfl⟩,hpb,hbb⟩
     have HKb:=zAA (HKa.out.pb hpb hbb)
     have hmb:=hbb.blk _ _ _ (HKa.out.wr.ne HMa.out (by decide)) (by decide) HMa.out
     clear e0 e1 e2 e3 e4 e5 e6 f0 f1 f2 f3
     have e0:=hmb.cell 0;have e1:=hmb.cell 1;have e2:=hmb.cell 2;have e3:=hmb.cell 3;have e4:=hmb.cell 4;have e5:=hmb.cell 5;have e6:=hmb.cell 6
     (try dsimp only at e0 e1 e2 e3 e4 e5 e6)
     clear hpb hbb hmb HKa HMa HK9 HM9 CM
     unfold eS at CF
     go_wp2_with (go_at_call 64;refine (CF.out _).mono ?_;rintro e wc ⟨rfl,hbc⟩;have HKc:=zAA (HKb.out.below hbc);have hlc:=HKc.out.la;unfold oP at hlc;have f0:=hlc.cell 0;have f1:=hlc.cell 1;have f2:=hlc.cell 2;have f3:=hlc.cell 3;have g0:=hlc.frozen 0;have g1:=hlc.frozen 1;have g2:=hlc.frozen 2;have g3:=hlc.frozen 3;(try dsimp only at f0 f1 f2 f3 g0 g1 g2 g3);clear hbc hlc)
     go_roundg gi
     case measure=>omega
     case rel=>exact ⟨j2+1,by have:=HJ2.out;omega,rfl,zAA (by rw [HXN.out,HMN3.out];exact HKc.out.last HGL.out (ez m))⟩
def GD (ss:List bh) (w:World) (e:Ending) (w':World):Prop:=∃v er,e= .returned (.tuple #[v,.int .i64 er])∧Below w.heap.size w w'∧
 ((er=0∧ss.length≤100∧(∀s∈ss,bX s.s=true)∧∃A c,v= .slice A (fi (ss.map (·.s))).length c∧w'.ownsRow w.heap.size 5 1 v (fi (ss.map (·.s))).length ((fi (ss.map (·.s))).map af))∨
  (er=2∧ss.length≤100∧(∃s∈ss,bX s.s=false)∧v= .slice none 0 0)∨(er=4∧100<ss.length∧v= .slice none 0 0))
theorem oH:∀(a b:List cS),bu (a++b)=bu a++bu b
 |[],_=>rfl
 |g::a,b=>by rw [zAL,bu,bu,oH a b,zAC]
set_option maxRecDepth 100000 in
set_option maxHeartbeats 8000000 in
theorem sR (ss:List bh) (A:Option Addr) (n c:Nat) (w:World) (hn:ss.length=n) (hat:dR w A ss) (hS:∀s∈ss,fL s) (hT:Tz w) (hTs:Ts w) (hl:∀j,(∀s∈ss.take j,bX s.s=true)→(bu ((ss.take j).map (·.s))).length≤16777216) (hsz:n≤2 ^ 40):
  Calls Tryz.prog 12 #[.slice A n c] w (GD ss w):=by
 have HN:=zAA hn
 cases h100:decide ((100:Int)<(n:Int)) with
 |true=>
  have h1:100<n:=by simp at h100;omega
  have HH:=zAA h1
  clear hn hat hS hT hTs hl h1
  go_enter Tryz.func12,Tryz.ntmps12
  go_wp2_with fail
  go_ret2
  exact ⟨_,_,rfl,Below.refl _ _,.inr (.inr ⟨rfl,by rw [HN.out];exact HH.out,rfl⟩)⟩
 |false=>
 have h1:n≤100:=by simp at h100;omega
 have HH:=zAA h1;have HAT:=zAA hat;have HS:=zAA hS;have HT:=zAA hT;have HTS:=zAA hTs;have HL:=zAA hl
 have C1:=zAA (qC w)
 obtain ⟨hh,hhh⟩:∃hh,w.heap.size=hh:=⟨_,rfl⟩
 have HHH:=zAA hhh
 rw [hhh] at C1
 clear hn hat hS hT hTs hl h1
 go_enter Tryz.func12,Tryz.ntmps12
 go_wp2_with (go_at_call 30;refine C1.out.mono ?_;rintro e w2 ⟨rfl,hp2⟩;have HP2:=zAA hp2;clear hp2)
 clear hhh
 go_loopg [14] n (fun gk i=>fun wr=>∃(j:Nat),j+gk=n∧i= .int .i64 (j:Int)∧Hid (dQ w hh (bu ((ss.take j).map (·.s))) wr)∧Hid (∀s∈ss.take j,bX s.s=true))
 case atStart=>exact ⟨0,by omega,rfl,HP2,zAA (fun s hs=>by rw [zAM] at hs;cases hs)⟩
 case round=>
  obtain ⟨j,hj,rfl,HP,HQ⟩:=hrel
  cases gk with
  |zero=>
   have hlt:¬((j:Int)<(n:Int)):=by omega
   have htk:ss.take j=ss:=zAH (by rw [HN.out];omega)
   have hb:=HL.out j HQ.out
   rw [htk] at HP HQ hb
   have CB:=zAA (sF w hh _ hb wr HP.out)
   clear hj htk hb
   go_wp2_with (go_at_call 32;refine CB.out.mono ?_;rintro e w3 ⟨⟨A',c',rfl,ho⟩,hb3⟩;have HO:=zAA ho;have HB3:=zAA hb3;clear ho hb3)
   go_ret2
   refine ⟨_,_,rfl,HP.out.be.trans (HB3.out.mono HP.out.be.size),.inl ⟨rfl,by rw [HN.out];exact HH.out,HQ.out,A',c',rfl,cO HO.out HP.out.be.size⟩⟩
  |succ go=>
   have hlt:((j:Int)<(n:Int)):=by omega
   have hj0:¬((j:Int)<0):=by omega
   have hjl:j<ss.length:=by rw [HN.out];omega
   have hwj:zAS.wrap ((j:Int)+1)=(j:Int)+1:=by rw [zAK];omega
   obtain ⟨ad,rfl,_,c0,c1,c2,c3⟩:=iU (HAT.out.row.below HP.out.be) j hjl
   have hmem:=zAO hjl
   have htk:=qc ss j hjl
   obtain ⟨S,hSS⟩:∃S,ss[j]=S:=⟨_,rfl⟩
   rw [hSS] at hmem htk c0 c1 c2 c3
   have hsa:=HAT.out.sh _ hmem
   have hsb:=HS.out _ hmem
   have CK:=zAA (fun W (hb:Below w.heap.size w W)=>fj S W (hsa.below hb) hsb)
   have CW:=zAA (fun (L:List UInt8) W (hok:bX S.s=true) (hl:L.length+(dC S.s).length≤16777216) (hp:dQ w hh L W)=>yl w hh L S hsa hsb HT.out HTS.out hok hl (Nat.le_of_eq HHH.out) W hp)
   have hnext:bX S.s=true→(∀s∈ss.take (j+1),bX s.s=true):=fun hok s hs=>by
    rw [htk] at hs
    rcases List.mem_append.1 hs with hs|hs
    ·exact HQ.out s hs
    ·rw [zAG] at hs;subst hs;exact hok
   have hsum:bu ((ss.take (j+1)).map (·.s))=bu ((ss.take j).map (·.s))++dC S.s:=by
    rw [htk,zAV,oH,List.map_singleton,bu,bu,zAF]
   have hlen:bX S.s=true→(bu ((ss.take j).map (·.s))).length+(dC S.s).length≤16777216:=fun hok=>by
    have:=HL.out (j+1) (hnext hok)
    rw [hsum,zAB] at this
    exact this
   have HNX:=zAA hnext;have HSUM:=zAA hsum;have HLEN:=zAA hlen;have HJ:=zAA hj;have HMEM:=zAA hmem
   obtain ⟨gg,hgg⟩:∃g,wr.heap.size=g:=⟨_,rfl⟩
   have hba:=(Below.refl _ wr).alloc (zAE _) (.cells #[.int .i64 S.tm,.int .i64 S.ty,.slice S.sA S.sp.length S.sc,.slice S.A S.gs.length S.c] 35)
   have hb9:ab (wr.alloc (.cells #[.int .i64 S.tm,.int .i64 S.ty,.slice S.sA S.sp.length S.sc,.slice S.A S.gs.length S.c] 35)) gg 35 #[.int .i64 S.tm,.int .i64 S.ty,.slice S.sA S.sp.length S.sc,.slice S.A S.gs.length S.c]:=aD (ab.new _ _ _) hgg
   have HPA:=zAA (HP.out.below hba);have HB9:=zAA hb9
   unfold eE at CK CW
   clear hmem htk hSS hsa hsb hnext hsum hlen hj hjl hba hb9 HP
   cases hok:bX S.s with
   |false=>
    rw [hok] at CK
    simp only [Bool.false_eq_true,if_false] at CK
    have HOK:=zAA hok
    clear hok
    go_wp2_with (go_at_call 15;refine (CK.out _ HPA.out.be).mono ?_;rintro e w3 ⟨rfl,hb3⟩;have HB3:=zAA hb3;clear hb3)
    go_ret2
    exact ⟨_,_,rfl,HPA.out.be.trans (HB3.out.mono HPA.out.be.size),.inr (.inl ⟨rfl,by rw [HN.out];exact HH.out,⟨S,HMEM.out,HOK.out⟩,rfl⟩)⟩
   |true=>
    rw [hok] at CK
    simp only [if_true] at CK
    have HOK:=zAA hok
    clear hok
    go_wp2_with (first|(go_at_call 15;refine (CK.out _ HPA.out.be).mono ?_;rintro e w3 ⟨rfl,hb3⟩;have HP3:=zAA (HPA.out.below hb3);have hm3:=HB9.out.below hb3 HB9.out.lt;have d0:=hm3.cell 0;have d1:=hm3.cell 1;have d2:=hm3.cell 2;have d3:=hm3.cell 3;(try dsimp only at d0 d1 d2 d3);clear hb3 hm3)|(go_at_call 31;refine (CW.out _ _ HOK.out (HLEN.out HOK.out) HP3.out).mono ?_;rintro e w4 ⟨⟨u4,rfl⟩,hp4⟩;have HP4:=zAA hp4;clear hp4))
    go_roundg go
    case measure=>omega
    case rel=>exact ⟨j+1,by have:=HJ.out;omega,rfl,zAA (by rw [HSUM.out];exact HP4.out),zAA (HNX.out HOK.out)⟩
def nf:cS:=⟨⟨0,0,[]⟩,[⟨1,1,[],[⟨2,8,0,0,0,0,[]⟩]⟩,⟨3,1,[],[]⟩,⟨5,1,[],[]⟩]⟩
def jv (h:Nat):bh:=⟨0,0,[],none,0,[⟨1,1,[],none,0,[⟨⟨2,8,0,0,0,0,[]⟩,[],none,0⟩],some ⟨h,0,none⟩,1⟩,⟨3,1,[],none,0,[],none,0⟩,⟨5,1,[],none,0,[],none,0⟩],some ⟨h+1,0,none⟩,3⟩
theorem D3 (h:Nat):fL (jv h):=by
 refine ⟨by simp [jv],by simp [jv],fun g hg=>?_⟩
 simp only [jv,zAI,zAQ,or_false] at hg
 rcases hg with rfl|rfl|rfl
 ·refine ⟨by simp,by simp,fun m hm=>?_⟩
  simp only [zAG] at hm
  subst hm
  exact ⟨by simp,fun b hb=>by cases hb⟩
 ·exact ⟨by simp,by simp,fun m hm=>by cases hm⟩
 ·exact ⟨by simp,by simp,fun m hm=>by cases hm⟩
theorem gR (W:World) (A:Option Addr):Sl W A []:=fun i v h=>by simp at h
theorem Hm {W:World} {h:Nat} (h1:ab W h 55 (dz ⟨2,8,0,0,0,0,[]⟩ (.slice none 0 0))) (h2:ab W (h+1) 51 (av fN (jv h).gs).toArray):ek W (jv h):=by
 refine ⟨gR _ _,h2.sl 0,fun g hg=>?_⟩
 simp only [jv,zAI,zAQ,or_false] at hg
 rcases hg with rfl|rfl|rfl
 ·refine ⟨gR _ _,h1.sl 0,fun m hm=>?_⟩
  simp only [zAG] at hm
  subst hm
  exact ⟨rfl,gR _ _,fun b hb=>by cases hb⟩
 ·exact ⟨gR _ _,gR _ _,fun m hm=>by cases hm⟩
 ·exact ⟨gR _ _,gR _ _,fun m hm=>by cases hm⟩
def JX (w:World) (e:Ending) (w':World):Prop:=∃s:bh,e= .returned (eE s)∧s.s=nf∧ek w' s∧fL s∧Below w.heap.size w w'
theorem Ht (h:Nat) (tm ty:Int) (u v:Value) (tmps:Array Value) (W:World) (hb:ab W h 35 #[.int .i64 tm,.int .i64 ty,u,v]) (t2:tmps.getD 0 undef= .pointer (some ⟨h,0,none⟩)):
  (results Tryz.f24 tmps).run Tryz.prog W= .ok (.agg #[.int .i64 tm,.int .i64 ty,u,v]) W:=by
 have c0:=hb.cell 0;have c1:=hb.cell 1;have c2:=hb.cell 2;have c3:=hb.cell 3
 simp at c0 c1 c2 c3
 have t2':tmps[0]?.getD undef= .pointer (some ⟨h,0,none⟩):=by simpa using t2
 simp [results,Tryz.results24,t2',asAddr,c0,c1,c2,c3,go_sem]
set_option maxRecDepth 100000 in
theorem sj (w:World):Calls Tryz.prog 24 #[] w fun e w'=>∃h,e= .returned (eE (jv h))∧ek w' (jv h)∧Below w.heap.size w w':=by
 go_enter Tryz.func24,Tryz.ntmps24
 go_wp2_with fail
 have s1:∀o1,(w.alloc o1).heap.size=w.heap.size+1:=fun o1=>by simp
 have s2:∀o1 o2,((w.alloc o1).alloc o2).heap.size=w.heap.size+1+1:=fun o1 o2=>by simp
 have s3:∀o1 o2 o3,(((w.alloc o1).alloc o2).alloc o3).heap.size=w.heap.size+1+1+1:=fun o1 o2 o3=>by simp
 refine bodyPost_ret (Ht w.heap.size 0 0 (.slice none 0 0) (.slice (some ⟨w.heap.size+1+1+1,0,none⟩) 3 3) _ _ ((((ab.new w _ _).alloc _).alloc _).alloc _) rfl) rfl ⟨w.heap.size+1+1,rfl,Hm ?_ ?_,?_⟩
 ·exact (aD (ab.new _ _ _) (s2 _ _)).alloc _
 ·exact aD (ab.new _ _ _) (s3 _ _ _)
 ·exact ((((Below.refl _ w).alloc (zAE _) _).alloc (by rw [s1];omega) _).alloc (by rw [s2];omega) _).alloc (by rw [s3];omega) _
theorem kB (w:World):Calls Tryz.prog 24 #[] w (JX w):=
 (sj w).mono fun _ _ ⟨h,e,h1,h2⟩=>⟨jv h,e,rfl,h1,D3 h,h2⟩
def EQ (l:List UInt8) (w:World) (e:Ending) (w':World):Prop:=(∃A c,e= .returned (.slice A l.length c)∧w'.ownsRow w.heap.size 5 1 (.slice A l.length c) l.length (l.map af))∧Below w.heap.size w w'
set_option maxRecDepth 100000 in
theorem vM (s:List UInt8) (hs:cN s) (hl:s.length≤16777216) (w:World):Calls Tryz.prog 55 #[.string (bs s)] w (EQ (aO s) w):=by
 have C1:=zAA (qC w)
 have C2:=zAA (fun W hp=>FP w w.heap.size [] s hs (by simpa using hl) (zAE _) W hp)
 have C3:=zAA (fun W hp=>sF w w.heap.size s hl W hp)
 rw [zAR] at C2
 clear hs hl
 go_enter Tryz.func55,Tryz.ntmps55
 go_wp2_with (first|(go_at_call 30;refine C1.out.mono ?_;rintro e w2 ⟨rfl,hp2⟩;have HP2:=zAA hp2;clear hp2)|(go_at_call 58;refine (C2.out _ HP2.out).mono ?_;rintro e w3 ⟨rfl,hp3⟩;have HP3:=zAA hp3;clear hp3)|(go_at_call 32;refine (C3.out _ HP3.out).mono ?_;rintro e w4 ⟨⟨A',c',rfl,ho⟩,hb⟩;have HO:=zAA ho;have HB:=zAA hb;clear ho hb))
 go_ret
 exact ⟨⟨A',c',rfl,cO HO.out HP3.out.be.size⟩,HP3.out.be.trans (HB.out.mono HP3.out.be.size)⟩
def eD:List UInt8:=bu [nf]
set_option maxRecDepth 100000 in
theorem kg (l:List UInt8) (B:Option Addr) (m d:Nat) (w:World) (hB:Sl w B (l.map af)) (hm:l.length=m) (hsz:m≤1000):Calls Tryz.prog 23 #[.slice B m d] w (EQ (aO eD++l) w):=by
 have HBB:=zAA hB;have HM:=zAA hm
 have hl15:(aO eD).length=15:=by decide
 have HL15:Hid (((aO eD).length+m)*1≤140737488355328):=zAA (by omega)
 clear hl15
 have C1:=zAA (vM eD (kX _) (by decide) w)
 clear hB hm
 go_enter Tryz.func23,Tryz.ntmps23
 go_wp2_with (first|(go_at_call 55;refine C1.out.mono ?_;rintro e w2 ⟨⟨A',c',rfl,ho⟩,hb⟩;have HO:=zAA ho;have HB:=zAA hb;clear ho hb)|(at_builtin;refine dK jn rfl rfl rfl HO.out rfl (by simp [HM.out]) (HBB.out.below HB.out) (mD _) (HL15.out) HB.out.size ?_;intro v2 w3 ho hg _;have HO2:=zAA ho;have HG2:=zAA hg;clear ho hg))
 obtain ⟨A2,c2,hv⟩:=bj HO2.out
 subst hv
 go_ret
 refine ⟨⟨A2,c2,?_,?_⟩,kt HB.out HO.out HG2.out HB.out.size (zAE _)⟩
 ·rw [zAB,HM.out];rfl
 ·have h:=HO2.out
  rw [zAB,HM.out,zAV]
  exact h
theorem G3 {p:ea} (hm:kQ p.m=true) (he:vW p):wh p:=by
 have hm:=(iH _).1 hm
 have he:p.m.bl=p.xs.map (·.1):=he
 have h6:cI p.m.pa≤6:=by unfold cI;split<;>omega
 have hl:=hm.len
 rw [he,zAD] at hl
 refine ⟨by omega,fun q hq=>?_⟩
 have h1:=hm.bl q.1 (by rw [he];exact zAP.2 ⟨q,hq,rfl⟩)
 have hfr:0≤eH (pI p.m.kd)∧eH (pI p.m.kd)≤1:=by cases (pI p.m.kd)<;>decide
 have h2:=(mR q.1.l _ hfr.1 (by omega) (tl h1).1).1
 omega
theorem xV {f g:Int}:∀(ms:List aU) (last:Int),dU f g last ms=true→∀m∈ms,kQ m=true
 |[],_,_,m,hm=>by cases hm
 |a::ms,last,h,m,hm=>by
  obtain ⟨h1,_,_,h4⟩:=mO h
  rcases zAI.1 hm with rfl|hm
  ·exact h1
  ·exact xV ms _ h4 m hm
theorem GU {p:cV} {f n:Int} (h:jq f n p.g=true) (he:vV p):ra p:=by
 obtain ⟨_,_,_,h4,h5⟩:=oa h
 have h6:=rC p.g.ms 0 h5 (by decide)
 have hl:p.g.ms.length=p.ms.length:=by unfold cV.g;rw [zAD]
 have hs:p.g.sp=p.sp:=rfl
 rw [hs] at h4
 refine ⟨by omega,by omega,fun m hm=>G3 (xV _ _ h5 _ (zAP.2 ⟨m,hm,rfl⟩)) (he m hm)⟩
theorem uy {f:Int}:∀(ns:List Int) (gs:List fK),dT f ns gs=true→∀g∈gs,∃n,jq f n g=true
 |_,[],_,g,hg=>by cases hg
 |[],_::_,h,_,_=>by cases h
 |n::ns,a::gs,h,g,hg=>by
  rw [dT,zAJ] at h
  rcases zAI.1 hg with rfl|hg
  ·exact ⟨n,h.1⟩
  ·exact uy ns gs h.2 g hg
theorem Bc {p:bh} (h:bX p.s=true) (he:nJ p):fL p:=by
 obtain ⟨h1,h2⟩:=nU h
 have h3:=(uB h1).2.2.2.2
 have h4:=(mH _ _ h2).2
 have h5:=ky (fg p.s.hd.ty)
 have hl:p.s.gs.length=p.gs.length:=by unfold bh.s;rw [zAD]
 have hs:p.s.hd.sp=p.sp:=rfl
 rw [hs] at h3
 refine ⟨by omega,by omega,fun g hg=>?_⟩
 obtain ⟨n,hn⟩:=uy _ _ h2 g.g (zAP.2 ⟨g,hg,rfl⟩)
 exact GU hn (he g hg)
def IC (l:List UInt8) (w:World) (e:Ending) (w':World):Prop:=
 ∃A c ss,e= .returned (.tuple #[.slice A ss.length c,.int .i64 (aZ l).2])∧ss.map (·.s)=(aZ l).1∧dR w' A ss∧(∀s∈ss,fL s)∧(∀s∈ss,bX s.s=true)∧Below w.heap.size w w'
theorem oZ (A:Option Addr) (n c:Nat) (l:List UInt8) (w:World) (hE:∀W,Below w.heap.size w W→Tz W∧Ts W∧Sl W A (l.map af)) (hn:l.length=n) (hsz:n≤2 ^ 40):
  Calls Tryz.prog 19 #[.slice A n c] w (IC l w):=by
 refine (pY A n c l w hE hn hsz).mono ?_
 rintro e w' ⟨A',c',ss,he,hs,heq,hb,hr⟩
 have hck:∀s∈ss,bX s.s=true:=fun s h=>(it l).1 s.s (by rw [←hs];exact zAP.2 ⟨s,h,rfl⟩)
 exact ⟨A',c',ss,he,hs,⟨dB hr.head,fun s h=>Bb (uX hr.tail h) (heq s h)⟩,fun s h=>Bc (hck s h) (heq s h),hck,hb⟩
set_option maxRecDepth 100000 in
theorem ij (A:Option Addr) (n c:Nat) (l:List UInt8) (err:Int) (B:Option Addr) (m d:Nat) (ss:List bh) (w:World) (hE:∀W,Below w.heap.size w W→Tz W∧Ts W∧Sl W A (l.map af)) (hn:l.length=n) (hsz:n≤2 ^ 40) (hm:ss.length=m) (hW:dR w B ss) (hS:∀s∈ss,fL s) (hp:aZ l=(ss.map (·.s),err)):
  Calls Tryz.prog 25 #[.slice A n c,.int .i64 err,.slice B m d] w fun e w'=>e= .returned (.bool true)∧Below w.heap.size w w':=by
 have C1:=zAA (oZ A n c l w hE hn hsz)
 have HW:=zAA hW;have HS:=zAA hS;have HM:=zAA hm;have HP:=zAA hp
 have hlen:ss.length≤8*l.length:=by
  have h1:=(it l).2
  rw [hp] at h1
  have h2:=jz (ss.map (·.s))
  rw [zAD] at h2
  dsimp only at h1
  omega
 have HLEN:Hid (ss.length≤2 ^ 60):=zAA (by omega)
 unfold IC at C1
 rw [hp] at C1
 clear hE hn hm hW hS hp hlen
 go_enter Tryz.func25,Tryz.ntmps25
 go_wp2_with (first|(go_at_call 19;refine C1.out.mono ?_;rintro e w2 ⟨A2,c2,tt,rfl,ht,hat,hsb,_,hb⟩;have HT:=zAA ht;have HAT:=zAA hat;have HSB:=zAA hsb;have HB:=zAA hb;clear ht hat hsb hb)|(go_at_call 21;refine (gP tt ss A2 B _ _ c2 d w2 rfl HM.out HT.out HAT.out ⟨HW.out.row.below HB.out,fun s hs=>(HW.out.sh s hs).below HB.out⟩ HSB.out HS.out (by have h:=congrArg List.length HT.out;rw [zAD,zAD] at h;rw [h];exact HLEN.out)).mono ?_;rintro e w3 ⟨rfl,hb3⟩;have HB3:=zAA hb3;clear hb3))
 go_ret
 exact ⟨rfl,HB.out.trans (HB3.out.mono HB.out.size)⟩
set_option maxRecDepth 100000 in
theorem xo (A:Option Addr) (n c:Nat) (l:List UInt8) (i:Nat) (w:World) (hA:Sl w A (l.map af)) (hn:l.length=n) (hsz:n≤2 ^ 40) (hi:i+20≤8*n):
  Calls Tryz.prog 28 #[.slice A n c,.int .i64 (i:Int)] w fun e w'=>e= .returned (.bool (dx l i))∧w=w':=by
 have CR:=zAA (ja A n c l (i:Int) 20 w hA hn (by omega) (by decide) (by decide) (by omega) (by omega))
 rw [Int.toNat_natCast] at CR
 rw [Bh,decide_eq_true (by omega:i+20≤8*l.length),Bool.true_and]
 rw [show Int.toNat 20=20 from rfl] at CR
 obtain ⟨x,hx⟩:∃x,aF l i 20=x:=⟨_,rfl⟩
 rw [hx] at CR⊢
 have hxx:(((x:Nat):Int)==16)=(x==16):=by rw [Bool.eq_iff_iff];simp;omega
 rw [←hxx]
 have HR:=zAA CR
 clear CR hx hxx hA hn hi
 go_enter Tryz.func28,Tryz.ntmps28
 go_wp2_with (go_at_call 56;refine HR.out.mono ?_;rintro e w2 ⟨rfl,rfl⟩)
 go_ret
 exact ⟨rfl,rfl⟩
end Go.Proofs.YthhijgcfbjcgiaaGreatDoor
namespace Go.Proofs.YthhijgcfbjcgiaaGreatDoor
open Go Go.RowKit
theorem D4:bX nf=true:=by kernel_rfl
theorem Jw:aZ []=([],0):=by kernel_rfl
theorem JC:bX ⟨⟨0,0,[]⟩,[⟨1,1,[],[⟨2,8,0,0,0,0,[]⟩]⟩,⟨3,1,[],[]⟩]⟩=false:=by kernel_rfl
theorem gQ:(aO eD).length=15:=by kernel_rfl
set_option maxRecDepth 100000 in
theorem Jy:aZ ((aO eD).take 13)=([],6):=by kernel_rfl
set_option maxRecDepth 100000 in
theorem Jz:aZ (aO eD++[0,255])=([],7):=by kernel_rfl
set_option maxRecDepth 100000 in
theorem JA:aZ (aO eD++[0,0,0,255])=([nf],8):=by kernel_rfl
set_option maxRecDepth 100000 in
theorem JB:aZ ([255]++aO eD)=([nf],0):=by kernel_rfl
set_option maxRecDepth 100000 in
theorem Jv:aZ (aO eD)=([nf],0):=by kernel_rfl
end Go.Proofs.YthhijgcfbjcgiaaGreatDoor
namespace Go.Proofs.YthhijgcfbjcgiaaGreatDoor
open Go Go.RowKit
attribute [local go_sem] Oper.semAt_some
open Go.Lib renaming hid→zAA
open Nat renaming le_refl→zAB
open List renaming mem_nil_iff→zAC,length_append→zAD,mem_singleton→zAE,mem_cons→zAF,append_nil→zAG,map_singleton→zAH,length_take→zAI,length_map→zAJ,map_nil→zAK
theorem Ac {P:Program} {ops:Array Oper} {Q:Exit→Act→World→Prop} {rest:List Oper} {o:Oper} {a:Act} {w:World} {t e size bytes:Nat} (et:eG P t e size bytes) (hw:Region.wanted o (yielded ops a.tmps)=true) {s x:Operand}
  (ho:o.op= .call {callee:= .builtin .append,args:= #[s,x],argTypes:= #[t,t]}) {base n m c:Nat} {v:Value} {xs news:List Value} {A:Option Addr} (hs:a.eval s=v) (hown:w.ownsRow base e size v n xs)
  (hx:a.eval x= .slice A m c) (hl:news.length=m*size) (hS:Sl w A news) (h1:∀u∈news,u.oneCell'=true) (hb:(n+m)*bytes≤140737488355328) (hbase:base≤w.heap.size)
  (h:∀v' w',w'.ownsRow base e size v' (n+m) (xs++news)→w.grownBy w' v.ownBlock→wpList P ops Q rest (a.put o.dst v') w'):wpList P ops Q (o::rest) a w:=by
 obtain ⟨v',w',hrun,h2,h3,h4⟩:=lI et o.type (c:=c) hown hl hS h1 hb hbase
 rw [wpList,if_pos hw]
 left
 unfold Oper.wp
 have he:(execOp a.eval o).run P w= .ok (.value v') w':=by
  unfold execOp
  simp only [ho,resolve,invoke,builtin,Sem.run_bind,Sem.run_pure,Result.andThen_ok,List.map_toArray,List.map_cons,zAK,hs,hx,hrun]
 rw [he,Oper.upon_value]
 exact h v' w' h2 h3
theorem iI {ss:List bh} (h4:ss.length≤4) (j:Nat) (h:∀s∈ss.take j,bX s.s=true):(bu ((ss.take j).map (·.s))).length≤16777216:=by
 have h1:=sN ((ss.take j).map (·.s)) (fun s hs=>by obtain ⟨t,ht,rfl⟩:=List.mem_map.1 hs;exact h t ht)
 rw [zAJ,zAI] at h1
 omega
theorem ir (ss:List bh) (A:Option Addr) (n c:Nat) (w:World) (hn:ss.length=n) (hat:dR w A ss) (hS:∀s∈ss,fL s) (hT:Tz w) (hTs:Ts w) (hl:∀j,(∀s∈ss.take j,bX s.s=true)→(bu ((ss.take j).map (·.s))).length≤16777216) (hck:∀s∈ss,bX s.s=true) (h100:n≤100):
  Calls Tryz.prog 12 #[.slice A n c] w fun e w'=>(∃A' c',e= .returned (.tuple #[.slice A' (fi (ss.map (·.s))).length c',.int .i64 0])∧w'.ownsRow w.heap.size 5 1 (.slice A' (fi (ss.map (·.s))).length c') (fi (ss.map (·.s))).length ((fi (ss.map (·.s))).map af))∧Below w.heap.size w w':=by
 refine (sR ss A n c w hn hat hS hT hTs hl (by omega)).mono ?_
 rintro e w' ⟨v,er,rfl,hb,(⟨rfl,_,_,A',c',rfl,ho⟩|⟨_,_,⟨s,hs,h⟩,_⟩|⟨_,h,_⟩)⟩
 ·exact ⟨⟨A',c',rfl,ho⟩,hb⟩
 ·rw [hck s hs] at h;cases h
 ·omega
theorem kM (ss:List bh) (A:Option Addr) (n c:Nat) (w:World) (hn:ss.length=n) (hat:dR w A ss) (hS:∀s∈ss,fL s) (hT:Tz w) (hTs:Ts w) (hl:∀j,(∀s∈ss.take j,bX s.s=true)→(bu ((ss.take j).map (·.s))).length≤16777216) (hck:∃s∈ss,bX s.s=false) (h100:n≤100):
  Calls Tryz.prog 12 #[.slice A n c] w fun e w'=>e= .returned (.tuple #[.slice none 0 0,.int .i64 2])∧Below w.heap.size w w':=by
 refine (sR ss A n c w hn hat hS hT hTs hl (by omega)).mono ?_
 rintro e w' ⟨v,er,rfl,hb,(⟨_,_,h,_⟩|⟨rfl,_,_,rfl⟩|⟨_,h,_⟩)⟩
 ·obtain ⟨s,hs,h1⟩:=hck
  rw [h s hs] at h1;cases h1
 ·exact ⟨rfl,hb⟩
 ·omega
theorem jf {W:World} {s:bh} (h:ek W s):dR (W.alloc (.cells (ci s).toArray 35)) (some ⟨W.heap.size,0,none⟩) [s]:=by
 refine ⟨?_,fun t ht=>?_⟩
 ·rw [gG]
  exact ab.sl (ab.new W 35 (ci s).toArray) 0
 ·rw [zAE] at ht
  subst ht
  exact h.below ((Below.refl _ _).alloc (zAB _) _)
theorem iG {P:bh→Prop} {s:bh} (h:P s):∀t∈[s],P t:=fun t ht=>by rw [zAE.1 ht];exact h
theorem AU {s:bh} (h:s.s=nf):fi ([s].map (·.s))=aO eD:=by rw [zAH,h];rfl
theorem vR (s:bh) (A:Option Addr) (c:Nat) (w:World) (hs:s.s=nf) (hat:dR w A [s]) (hS:fL s) (hT:Tz w) (hTs:Ts w):
  Calls Tryz.prog 12 #[.slice A 1 c] w fun e w'=>(∃A' c',e= .returned (.tuple #[.slice A' 15 c',.int .i64 0])∧Sl w' A' ((aO eD).map af))∧Below w.heap.size w w':=by
 refine (ir [s] A 1 c w rfl hat (iG hS) hT hTs (iI (by simp)) (iG (by rw [hs];exact D4)) (by decide)).mono ?_
 rintro e w' ⟨⟨A',c',rfl,ho⟩,hb⟩
 rw [AU hs,gQ] at ho
 refine ⟨⟨A',c',by rw [AU hs,gQ],dB ho⟩,hb⟩
theorem jt (A:Option Addr) (n c:Nat) (l:List UInt8) (err:Int) (B:Option Addr) (d:Nat) (s:bh) (w:World) (hs:s.s=nf) (hA:Sl w A (l.map af)) (hT:Tz w) (hTs:Ts w) (hn:l.length=n) (hsz:n≤2 ^ 40) (hW:dR w B [s]) (hS:fL s) (hp:aZ l=([nf],err)):
  Calls Tryz.prog 25 #[.slice A n c,.int .i64 err,.slice B 1 d] w fun e w'=>e= .returned (.bool true)∧Below w.heap.size w w':=
 ij A n c l err B 1 d [s] w (fun W hb=>⟨hT.below hb,hTs.below hb,hA.below hb⟩) hn hsz rfl hW (iG hS) (by rw [zAH,hs];exact hp)
theorem Be (W:World) (A:Option Addr):dR W A []:=⟨gR _ _,fun s hs=>by cases hs⟩
theorem js (A:Option Addr) (n c:Nat) (l:List UInt8) (err:Int) (B:Option Addr) (d:Nat) (w:World) (hA:Sl w A (l.map af)) (hT:Tz w) (hTs:Ts w) (hn:l.length=n) (hsz:n≤2 ^ 40) (hp:aZ l=([],err)):
  Calls Tryz.prog 25 #[.slice A n c,.int .i64 err,.slice B 0 d] w fun e w'=>e= .returned (.bool true)∧Below w.heap.size w w':=
 ij A n c l err B 0 d [] w (fun W hb=>⟨hT.below hb,hTs.below hb,hA.below hb⟩) hn hsz rfl (Be _ _) (fun s hs=>by cases hs) (by rw [zAK];exact hp)
set_option maxRecDepth 100000 in
set_option maxHeartbeats 4000000 in
theorem zd (w:World) (hT:Tz w) (hTs:Ts w):Calls Tryz.prog 11 #[] w fun e w'=>e= .returned (.bool true)∧Below w.heap.size w w':=by
 have HT:=zAA hT;have HS:=zAA hTs;clear hT hTs
 go_enter Tryz.func11,Tryz.ntmps11
 go_wp2_with fail
 refine (kB _).mono ?_
 rintro e w1 ⟨s1,rfl,hs1,hat1,hS1,hb⟩
 have B1:=zAA hb
 have SH1:=zAA (jf hat1)
 have B2:=zAA (hb.alloc hb.size (.cells (ci s1).toArray 35))
 have HS1:=zAA hs1;have HSS:=zAA hS1
 unfold eE
 clear hb hat1 hs1 hS1
 go_wp2_with fail
 refine (vR s1 _ 1 _ HS1.out SH1.out HSS.out (HT.out.below B2.out) (HS.out.below B2.out)).mono ?_
 rintro e w3 ⟨⟨A3,c3,rfl,ho⟩,hb3⟩
 have B3:=zAA (B2.out.trans (hb3.mono B2.out.size));have H3:=zAA ho
 clear hb3 ho B1 B2 SH1
 go_wp2_with fail
 refine (kg [] none 0 0 _ (gR _ _) rfl (by decide)).mono ?_
 rintro e w4 ⟨⟨A4,c4,rfl,ho4⟩,hb4⟩
 rw [zAG] at ho4
 have B4:=zAA (B3.out.trans (hb4.mono B3.out.size));have H4:=zAA (dB ho4);have H3':=zAA (H3.out.below hb4)
 rw [zAG,gQ]
 clear hb4 ho4 B3 H3
 go_wp2_with fail
 refine (kK A3 A4 15 15 c3 c4 (aO eD) (aO eD) w4 H3'.out H4.out gQ gQ).mono ?_
 rintro e w5 ⟨rfl,rfl⟩
 rw [beq_self_eq_true]
 go_wp2_with fail
 refine (kB _).mono ?_
 rintro e w6 ⟨s6,rfl,hs6,hat6,hS6,hb6⟩
 have B6:=B4.out.trans (hb6.mono B4.out.size)
 have B7:=zAA (B6.alloc B6.size (.cells (ci s6).toArray 35));have SH6:=zAA (jf hat6);have HS6:=zAA hs6;have HSS6:=zAA hS6;have H36:=zAA ((H3'.out.below hb6).below ((Below.refl _ _).alloc (zAB _) (.cells (ci s6).toArray 35)))
 unfold eE
 clear hb6 hat6 hs6 hS6 B6 B4 H4 H3'
 go_wp2_with fail
 refine (jt A3 15 c3 (aO eD) 0 _ 1 s6 _ HS6.out H36.out (HT.out.below B7.out) (HS.out.below B7.out) gQ (by decide) SH6.out HSS6.out Jv).mono ?_
 rintro e w8 ⟨rfl,hb8⟩
 have B8:=zAA (B7.out.trans (hb8.mono B7.out.size))
 clear hb8
 go_wp2_with fail
 go_ret
 exact ⟨rfl,B8.out⟩
def dZ (h:Nat):bh:=⟨0,0,[],none,0,[⟨1,1,[],none,0,[⟨⟨2,8,0,0,0,0,[]⟩,[],none,0⟩],some ⟨h,0,none⟩,1⟩,⟨3,1,[],none,0,[],none,0⟩],some ⟨h+1,0,none⟩,3⟩
theorem Es {W:World} {h:Nat} (k:ek W (jv h)):ek W (dZ h):=by
 refine ⟨gR _ _,?_,fun g hg=>?_⟩
 ·have h1:=k.row.take 8
  exact h1
 ·refine k.gs g ?_
  simp only [dZ,zAF,zAC,or_false] at hg
  simp only [jv,zAF,zAC,or_false]
  rcases hg with rfl|rfl
  ·exact .inl rfl
  ·exact .inr (.inl rfl)
theorem xZ (h:Nat):fL (dZ h):=by
 obtain ⟨a,b,c⟩:=D3 h
 refine ⟨a,by simp [dZ],fun g hg=>c g ?_⟩
 simp only [dZ,zAF,zAC,or_false] at hg
 simp only [jv,zAF,zAC,or_false]
 rcases hg with rfl|rfl
 ·exact .inl rfl
 ·exact .inr (.inl rfl)
theorem sL (h:Nat):bX (dZ h).s=false:=JC
theorem GI (W:World) (x y:UInt8):Sl (W.alloc (.cells #[af x,af y] 5)) (some ⟨W.heap.size,0,none⟩) ([x,y].map af):=ab.sl (ab.new W 5 _) 0
theorem GJ (W:World) (x y z t:UInt8):Sl (W.alloc (.cells #[af x,af y,af z,af t] 5)) (some ⟨W.heap.size,0,none⟩) ([x,y,z,t].map af):=ab.sl (ab.new W 5 _) 0
theorem G1 {W:World} {A:Option Addr} (h:Sl W A ((aO eD).map af)):Sl W A (((aO eD).take 13).map af):=by rw [List.map_take];exact h.take 13
structure vZ (w:World) (A:Option Addr) (g h:Nat) (W:World):Prop where
 be:Below w.heap.size w W
 bt:Sl W A ((aO eD).map af)
 k4:ab W g 35 #[.int .i64 0,.int .i64 0,.slice none 0 0,.slice (some ⟨h+1,0,none⟩) 2 3]
 sh:ek W (dZ h)
theorem vZ.below {w:World} {A:Option Addr} {g h:Nat} {W W':World} (k:vZ w A g h W) (hb:Below W.heap.size W W'):vZ w A g h W':=⟨k.be.trans (hb.mono k.be.size),k.bt.below hb,k.k4.below hb k.k4.lt,k.sh.below hb⟩
theorem vZ.alloc {w:World} {A:Option Addr} {g h:Nat} {W:World} (k:vZ w A g h W) (o:Obj):vZ w A g h (W.alloc o):=k.below ((Below.refl _ _).alloc (zAB _) _)
set_option maxRecDepth 100000 in
set_option maxHeartbeats 16000000 in
theorem iT (w:World) (hT:Tz w) (hTs:Ts w):Calls Tryz.prog 5 #[] w fun e w'=>e= .returned (.bool true)∧Below w.heap.size w w':=by
 have HT:=zAA hT;have HS:=zAA hTs;clear hT hTs
 go_enter Tryz.func5,Tryz.ntmps5
 go_wp2_with fail
 refine (zd _ HT.out HS.out).mono ?_
 rintro e w1 ⟨rfl,hb⟩
 have B1:=zAA hb;clear hb
 go_wp2_with fail
 refine (kg [] none 0 0 _ (gR _ _) rfl (by decide)).mono ?_
 rintro e w2 ⟨⟨Ab,cb,rfl,ho⟩,hb⟩
 rw [zAG] at ho⊢
 rw [gQ] at ho⊢
 obtain ⟨hcb,hsb⟩:=Hu ho
 have B2:=zAA (B1.out.trans (hb.mono B1.out.size));have HB2:=zAA hsb;have HCB:=zAA hcb
 clear hb ho hsb hcb B1
 go_wp2_with fail
 refine (ir [] none 0 0 _ rfl (Be _ _) (fun s hs=>by cases hs) (HT.out.below B2.out) (HS.out.below B2.out) (iI (by simp)) (fun s hs=>by cases hs) (by decide)).mono ?_
 rintro e w3 ⟨⟨A3,c3,rfl,_⟩,hb⟩
 rw [show (fi (List.map (fun x:bh=>x.s) [])).length=0 from rfl]
 have B3:=zAA (B2.out.trans (hb.mono B2.out.size));have HB3:=zAA (HB2.out.below hb)
 clear hb B2 HB2
 go_wp2_with fail
 refine (sj _).mono ?_
 rintro e w4 ⟨h,rfl,hat,hb⟩
 have hv:eE (jv h)= .agg #[.int .i64 0,.int .i64 0,.slice none 0 0,.slice (some ⟨h+1,0,none⟩) 3 3]:=rfl
 rw [hv]
 have B4:=zAA (B3.out.trans (hb.mono B3.out.size));have HB4:=zAA (HB3.out.below hb);have HAT:=zAA hat
 clear hb hat B3 HB3 hv
 go_wp2_with fail
 have hsh:ek w4 (dZ h):=Es HAT.out
 have hb1:=(Below.refl _ w4).alloc (zAB _) (.cells (ci (dZ h)).toArray 35)
 have hb2:=hb1.alloc hb1.size (.cells (ci (dZ h)).toArray 35)
 have B5:=zAA (B4.out.trans (hb2.mono B4.out.size))
 obtain ⟨g4,hg4⟩:∃g,w4.heap.size=g:=⟨_,rfl⟩
 have hk4:ab ((w4.alloc (.cells (ci (dZ h)).toArray 35)).alloc (.cells (ci (dZ h)).toArray 35)) g4 35 #[.int .i64 0,.int .i64 0,.slice none 0 0,.slice (some ⟨h+1,0,none⟩) 2 3]:=(aD (ab.new _ _ _) hg4).alloc _
 have HK4:=zAA hk4;have HSH:=zAA (hsh.below hb2);have HB5:=zAA (HB4.out.below hb2)
 have hso:dR ((w4.alloc (.cells (ci (dZ h)).toArray 35)).alloc (.cells (ci (dZ h)).toArray 35)) (some ⟨w4.heap.size+1,0,none⟩) [dZ h]:=by
  have k:=jf (hsh.below hb1)
  rw [show (w4.alloc (.cells (ci (dZ h)).toArray 35)).heap.size=w4.heap.size+1 by simp] at k
  exact k
 have HSO:=zAA hso
 clear hsh hb1 hb2 hk4 hso B4 HB4 HAT
 refine (kM [dZ h] _ 1 1 _ rfl HSO.out (iG (xZ h)) (HT.out.below B5.out) (HS.out.below B5.out) (iI (by simp)) ⟨_,zAE.2 rfl,sL h⟩ (by decide)).mono ?_
 rintro e w6 ⟨rfl,hb⟩
 have K6:=zAA (show vZ w Ab g4 h w6 from ⟨B5.out.trans (hb.mono B5.out.size),HB5.out.below hb,HK4.out.below hb HK4.out.lt,HSH.out.below hb⟩)
 clear hb B5 HB5 HK4 HSH HSO
 rw [hg4]
 clear hg4
 go_wp2_with fail
 refine (js none 0 0 [] 0 none 0 _ (gR _ _) (HT.out.below K6.out.be) (HS.out.below K6.out.be) rfl (by decide) Jw).mono ?_
 rintro e w7 ⟨rfl,hb⟩
 have K7:=zAA (K6.out.below hb)
 have h13:(13:Int)≤(cb:Int):=by have:=HCB.out;omega
 have h130:(13:Int).toNat=13:=rfl
 clear hb K6
 go_wp2_with fail
 refine (js Ab 13 _ ((aO eD).take 13) 6 none 0 _ (G1 K7.out.bt) (HT.out.below K7.out.be) (HS.out.below K7.out.be) (by rw [zAI,gQ];rfl) (by decide) Jy).mono ?_
 rintro e w8 ⟨rfl,hb⟩
 have K8:=zAA (K7.out.below hb)
 clear hb K7 h13 h130
 go_wp2_with fail
 refine (kg [0,255] _ 2 2 _ (GI _ _ _) rfl (by decide)).mono ?_
 rintro e w9 ⟨⟨A9,c9,rfl,ho⟩,hb⟩
 have K9:=zAA ((K8.out.alloc _).below hb)
 have hl9:(aO eD++[0,255]).length=17:=by rw [zAD,gQ];rfl
 have hs9:=dB ho
 rw [hl9]
 clear ho hb K8
 go_wp2_with fail
 refine (js A9 17 c9 (aO eD++[0,255]) 7 none 0 _ hs9 (HT.out.below K9.out.be) (HS.out.below K9.out.be) hl9 (by decide) Jz).mono ?_
 rintro e w10 ⟨rfl,hb⟩
 have K10:=zAA (K9.out.below hb)
 clear hb K9 hl9 hs9
 go_wp2_with fail
 refine (kg [0,0,0,255] _ 4 4 _ (GJ _ _ _ _ _) rfl (by decide)).mono ?_
 rintro e w11 ⟨⟨A11,c11,rfl,ho⟩,hb⟩
 have K11:=zAA ((K10.out.alloc _).below hb)
 have hl11:(aO eD++[0,0,0,255]).length=19:=by rw [zAD,gQ];rfl
 have H11:=zAA (dB ho)
 rw [hl11]
 have HL11:=zAA hl11
 clear ho hb K10 hl11
 go_wp2_with fail
 refine (kB _).mono ?_
 rintro e w12 ⟨s12,rfl,hs12,hat12,hS12,hb⟩
 have K12:=zAA ((K11.out.below hb).alloc (.cells (ci s12).toArray 35));have H12:=zAA ((H11.out.below hb).below ((Below.refl _ _).alloc (zAB _) (.cells (ci s12).toArray 35)));have SH12:=zAA (jf hat12);have HS12:=zAA hs12;have HSS12:=zAA hS12
 unfold eE
 clear hb hat12 hs12 hS12 K11 H11
 go_wp2_with fail
 refine (jt A11 19 c11 (aO eD++[0,0,0,255]) 8 _ 1 s12 _ HS12.out H12.out (HT.out.below K12.out.be) (HS.out.below K12.out.be) HL11.out (by decide) SH12.out HSS12.out JA).mono ?_
 rintro e w13 ⟨rfl,hb⟩
 have K13:=zAA (K12.out.below hb)
 clear hb K12 H12 SH12 HS12 HSS12 HL11
 have ho13:(w13.alloc (.cells #[af 255] 5)).ownsRow w13.heap.size 5 1 (.slice (some ⟨w13.heap.size,0,none⟩) 1 1) 1 ([255].map af):=World.ownsRow_lit w13 #[af 255] 1 (zAB _) (by decide) rfl
 have HO13:=zAA ho13;have K13a:=zAA (K13.out.alloc (.cells #[af 255] 5))
 clear ho13
 go_wp2_with (at_builtin;refine Ac jn (by rfl) rfl rfl HO13.out rfl (news:=(aO eD).map af) (by rw [zAJ,gQ]) K13a.out.bt (mD _) (by decide) (by simp) ?_;intro v14 w14 ho hg;have HO14:=zAA ho;have HG14:=zAA hg;clear ho hg)
 have K14:=zAA (K13.out.below (kt ((Below.refl w13.heap.size w13).alloc (zAB _) (.cells #[af 255] 5)) HO13.out HG14.out (by simp) (zAB _)))
 obtain ⟨A14,c14,hv⟩:=bj HO14.out
 subst hv
 have h14:=dB HO14.out
 rw [←List.map_append] at h14
 have H14:=zAA h14
 have hl16:([255]++aO eD).length=16:=by rw [zAD,gQ];rfl
 have HL16:=zAA hl16
 rw [show 1+15=16 from rfl]
 clear h14 hl16 K13 K13a HO13 HG14 HO14
 refine (kB _).mono ?_
 rintro e w15 ⟨s12,rfl,hs12,hat12,hS12,hb⟩
 have K15:=zAA ((K14.out.below hb).alloc (.cells (ci s12).toArray 35));have H15:=zAA ((H14.out.below hb).below ((Below.refl _ _).alloc (zAB _) (.cells (ci s12).toArray 35)));have SH12:=zAA (jf hat12);have HS12:=zAA hs12;have HSS12:=zAA hS12
 unfold eE
 clear hb hat12 hs12 hS12 K14 H14
 go_wp2_with fail
 refine (jt A14 16 c14 ([255]++aO eD) 0 _ 1 s12 _ HS12.out H15.out (HT.out.below K15.out.be) (HS.out.below K15.out.be) HL16.out (by decide) SH12.out HSS12.out JB).mono ?_
 rintro e w16 ⟨rfl,hb⟩
 have K16:=zAA (K15.out.below hb)
 have y0:=K16.out.k4.cell 0;have y1:=K16.out.k4.cell 1;have y2:=K16.out.k4.cell 2;have y3:=K16.out.k4.cell 3
 (try dsimp only at y0 y1 y2 y3)
 clear hb K15 H15 SH12 HS12 HSS12 HL16
 go_wp2_with fail
 refine (fj (dZ h) _ K16.out.sh (xZ h)).mono ?_
 rintro e w17 ⟨rfl,hb⟩
 have K17:=zAA (K16.out.below hb)
 rw [sL]
 simp only [Bool.false_eq_true,if_false]
 clear hb K16 y0 y1 y2 y3
 go_wp2_with fail
 refine (kB _).mono ?_
 rintro e w18 ⟨s18,rfl,hs18,hat18,hS18,hb⟩
 have K18:=zAA (K17.out.below hb);have HS18:=zAA hs18;have HAT18:=zAA hat18;have HSS18:=zAA hS18
 clear hb hat18 hs18 hS18 K17
 go_wp2_with fail
 refine (fj s18 _ HAT18.out HSS18.out).mono ?_
 rintro e w19 ⟨rfl,hb⟩
 have K19:=zAA (K18.out.below hb)
 rw [HS18.out,D4]
 simp only [if_true]
 clear hb K18
 go_wp2_with fail
 go_ret
 exact ⟨rfl,K19.out.be⟩
end Go.Proofs.YthhijgcfbjcgiaaGreatDoor
