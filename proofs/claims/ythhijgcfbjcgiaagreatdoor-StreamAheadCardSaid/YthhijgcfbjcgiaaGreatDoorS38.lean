/- Parse -/
import Derived.Test.YthhijgcfbjcgiaaGreatDoorS37
import Derived.Test.YthhijgcfbjcgiaaGreatDoorS05
namespace Go.Proofs.YthhijgcfbjcgiaaGreatDoor
open Go Go.RowKit
attribute [local go_sem] Oper.semAt_some
open Go.Lib renaming hid→zAA
open List renaming setIfInBounds_toArray→zAB,set_cons_zero→zAC,set_cons_succ→zAD,mem_cons→zAE,length_append→zAF,length_singleton→zAH
open Nat renaming le_refl→zAG,le_trans→zAI,le_succ→zAJ
theorem Cv {l:List UInt8} {p:Nat} (h:(cE l p).2.2=0):p+20≤(cE l p).2.1∧(cE l p).2.1≤8*l.length:=by
 obtain ⟨_,b,c⟩:=rF h
 have:20≤(dC (cE l p).1).length:=by unfold dC;rw [zAF,cP];omega
 exact ⟨by omega,c⟩
structure iP (w:World) (h g h3:Nat) (bv:Value) (p:Nat) (v:Value) (ss:List bh) (W:World):Prop where
 be:Below w.heap.size w W
 cs:aa (wm h g h3 (.slice none 0 0) (.int .i64 0) v bv p) W
 lo:w.heap.size≤h∧w.heap.size≤g
 rows:ap (⟨w.heap.size,35,4,v,ss.length,av ci ss⟩::lw w.heap.size ss) W
theorem jS {B:Nat} {v:Value} {ss:List bh} {t:TypeId} (h0:t≠35) (h1:t≠51) (h2:t≠5) (h4:t≠55) (h5:t≠93) (h6:t≠189):
  ∀r∈(⟨B,35,4,v,ss.length,av ci ss⟩::lw B ss:List a9),r.e≠t:=by
 intro r hr
 rcases zAE.1 hr with rfl|hr
 ·exact Ne.symm h0
 ·rcases Bd r hr with h|h|h|h|h<;>rw [h]
  ·exact Ne.symm h1
  ·exact Ne.symm h2
  ·exact Ne.symm h4
  ·exact Ne.symm h5
  ·exact Ne.symm h6
section
variable {w:World} {h g h3:Nat} {bv:Value} {p:Nat} {v:Value} {ss:List bh} {W W':World}
theorem iP.pr (k:iP w h g h3 bv p v ss W):ab W g 77 (cC bv p v):=k.cs.tail.tail.head
theorem iP.pc (k:iP w h g h3 bv p v ss W):ab W h3 73 #[.pointer (some ⟨g,0,none⟩)]:=k.cs.tail.tail.tail.head
theorem iP.ou (k:iP w h g h3 bv p v ss W):ab W h 22 #[.slice none 0 0]:=k.cs.head
theorem iP.er (k:iP w h g h3 bv p v ss W):ab W (h+1) 26 #[.int .i64 0]:=k.cs.tail.head
theorem iP.go (k:iP w h g h3 bv p v ss W) {q:Nat} (hg:W.grownBy W' (some g)) (hb:ab W' g 77 (cC bv q v)):iP w h g h3 bv q v ss W':=
 ⟨sf k.be hg k.be.size k.lo.2,aa.cons (iS k.ou hg (aS k.ou k.pr (by decide))) (aa.cons (iS k.er hg (aS k.er k.pr (by decide))) (aa.cons hb (aa.cons (iS k.pc hg (aS k.pc k.pr (by decide))) (ag _)))),k.lo,
  A7 k.rows k.pr hg (jS (by decide) (by decide) (by decide) (by decide) (by decide) (by decide))⟩
end
theorem Jt:eG Tryz.prog 22 35 4 64:= .mk' (z:= .agg #[.int .i64 0,.int .i64 0,.slice none 0 0,.slice none 0 0]) (by kernel_rfl) (by kernel_rfl) rfl (by decide) (by decide)
def th (r:List cS×Int) (w:World) (e:Ending) (w':World):Prop:=
 ∃A c ss,e= .returned (.tuple #[.slice A ss.length c,.int .i64 r.2])∧ss.map (·.s)=r.1∧(∀s∈ss,nJ s)∧Below w.heap.size w w'∧ap (⟨w.heap.size,35,4,.slice A ss.length c,ss.length,av ci ss⟩::lw w.heap.size ss) w'
theorem iP.ret {w:World} {h g h3:Nat} {bv:Value} {p:Nat} {v:Value} {ss:List bh} {W:World} (k:iP w h g h3 bv p v ss W):iP w h g h3 bv p v ss ((W.setCell ⟨h,0,none⟩ (.slice none 0 0)).setCell ⟨h+1,0,none⟩ (.int .i64 0)):=by
 have o:=k.ou;have e:=k.er;have q:=k.pr;have c:=k.pc
 have n1:h+1≠h:=by omega
 have n2:g≠h:=aS q o (by decide)
 have n3:g≠h+1:=aS q e (by decide)
 have n4:h3≠h:=aS c o (by decide)
 have n5:h3≠h+1:=aS c e (by decide)
 have o1:=(o.set_ 0 (.slice none 0 0)).far (p:=⟨h+1,0,none⟩) (Ne.symm n1) (.int .i64 0)
 have e1:=(e.far (p:=⟨h,0,none⟩) n1 (.slice none 0 0)).set_ 0 (.int .i64 0)
 have q1:=(q.far (p:=⟨h,0,none⟩) n2 (.slice none 0 0)).far (p:=⟨h+1,0,none⟩) n3 (.int .i64 0)
 have c1:=(c.far (p:=⟨h,0,none⟩) n4 (.slice none 0 0)).far (p:=⟨h+1,0,none⟩) n5 (.int .i64 0)
 simp only [zAB,zAC] at o1 e1
 exact ⟨(k.be.setCell (p:=⟨h,0,none⟩) k.lo.1 _).setCell (p:=⟨h+1,0,none⟩) (zAI k.lo.1 (zAJ _)) _,aa.cons o1 (aa.cons e1 (aa.cons q1 (aa.cons c1 (ag _)))),k.lo,
  cg (cg k.rows o (jS (by decide) (by decide) (by decide) (by decide) (by decide) (by decide)) _ _) (e.far (p:=⟨h,0,none⟩) n1 (.slice none 0 0)) (jS (by decide) (by decide) (by decide) (by decide) (by decide) (by decide)) _ _⟩
theorem iP.app {w:World} {h g h3:Nat} {bv:Value} {p:Nat} {v:Value} {ss:List bh} {W W':World} {s:bh} {v':Value} (k:iP w h g h3 bv p v ss W) (hs:ap (oE w.heap.size s) W) (hg:W.grownBy W' v.ownBlock) (ho:W'.ownsRow w.heap.size 35 4 v' (ss.length+1) (av ci ss++ci s)):
  ab W' g 77 (cC bv p v)∧ab W' h3 73 #[.pointer (some ⟨g,0,none⟩)]∧iP w h g h3 bv p v' (ss++[s]) (W'.setCell ⟨g,2,none⟩ v'):=by
 have hown:W.ownsRow w.heap.size 35 4 v ss.length (av ci ss):=k.rows.head
 have q:=k.pr.grown hg (bg hown k.pr (by decide));have c:=k.pc.grown hg (bg hown k.pc (by decide))
 have o:=k.ou.grown hg (bg hown k.ou (by decide));have e:=k.er.grown hg (bg hown k.er (by decide))
 have hk:∀R:List a9,ap R W→(∀r∈R,r.e≠35)→ap R W':=fun R hR hne r hr=>(hR r hr).kept hg (qs hown (hR r hr) (Ne.symm (hne r hr)))
 have hl1:(ss++[s]).length=ss.length+1:=by rw [zAF,zAH]
 have hR1:ap (⟨w.heap.size,35,4,v',(ss++[s]).length,av ci (ss++[s])⟩::lw w.heap.size (ss++[s])) W':=by
  refine ap.cons ?_ ?_
  ·rw [hl1,im,gG]
   exact ho
  ·have he2:lw w.heap.size (ss++[s])=lw w.heap.size ss++oE w.heap.size s:=by unfold lw;rw [List.flatMap_append];simp
   rw [he2]
   exact (hk _ k.rows.tail (by intro r hr;rcases Bd r hr with h|h|h|h|h<;>rw [h]<;>decide)).app (hk _ hs (by intro r hr;rcases Eq r hr with h|h|h|h|h<;>rw [h]<;>decide))
 have q1:=q.set_ 2 v'
 unfold cC at q1
 simp only [zAB,zAC,zAD] at q1
 refine ⟨q,c,(k.be.grown hg k.be.size (fun j e=>(hown.lt j e).1)).setCell (p:=⟨g,2,none⟩) k.lo.2 _,aa.cons (o.far (p:=⟨g,2,none⟩) (aS o q (by decide)) _) (aa.cons (e.far (p:=⟨g,2,none⟩) (aS e q (by decide)) _) (aa.cons q1 (aa.cons (c.far (p:=⟨g,2,none⟩) (aS c q (by decide)) _) (ag _)))),k.lo,
  cg hR1 q (jS (by decide) (by decide) (by decide) (by decide) (by decide) (by decide)) _ _⟩
theorem F9 (s:bh):∀u∈ci s,u.oneCell'=true:=by
 intro u hu
 simp only [ci,zAE,List.mem_nil_iff,or_false] at hu
 rcases hu with rfl|rfl|rfl|rfl<;>rfl
theorem Er {B B':Nat} {s:bh} {W:World} (h:ap (oE B s) W) (hb:B'≤B):ap (oE B' s) W:=by
 intro r hr
 rcases zAE.1 hr with rfl|hr
 ·exact cO h.head hb
 rcases zAE.1 hr with rfl|hr
 ·exact cO h.tail.head hb
 obtain ⟨p,hp,hpr⟩:=List.mem_flatMap.1 hr
 have h1:=uz h.tail.tail hp
 rcases zAE.1 hpr with rfl|hpr
 ·exact cO h1.head hb
 rcases zAE.1 hpr with rfl|hpr
 ·exact cO h1.tail.head hb
 exact uS h1.tail.tail hb r hpr
def IT (h h3:Nat):List Deferred:=[{target:= .fn (Fn.func 45) #[.pointer (some ⟨h3,0,none⟩),.pointer (some ⟨h,0,none⟩),.pointer (some ⟨h+1,0,none⟩)],args:= #[]}]
theorem xC {w:World} {h g h3:Nat} {bv:Value} {p:Nat} {v:Value} {ss:List bh} {W:World} {r:List cS×Int} {tmps:Array Value} (k:iP w h g h3 bv p v ss W) (hs:ss.map (·.s)=r.1) (he:r.2=0) (hq:∀s∈ss,nJ s) (t2:tmps.getD 2 undef= .pointer (some ⟨h,0,none⟩)) (t3:tmps.getD 3 undef= .pointer (some ⟨h+1,0,none⟩)):
  Leaves Tryz.prog Tryz.f19 tmps (th r w) (IT h h3) .returning W:=by
 obtain ⟨As,cs,hv⟩:=bj k.rows.head
 dsimp only at hv
 subst hv
 refine leaves_cons (f:=45) (args:= #[.pointer (some ⟨h3,0,none⟩),.pointer (some ⟨h,0,none⟩),.pointer (some ⟨h+1,0,none⟩)]) (by simp) (by simp [go_sem]) ?_
 refine (BA h g h3 _ _ bv As ss.length cs p W k.cs).mono ?_
 rintro e u W' ⟨rfl,rfl,rfl⟩
 have n1:h+1≠h:=by omega
 have o1:=k.ou.set_ 0 (.slice As ss.length cs)
 have e1:=k.er.far (p:=⟨h,0,none⟩) n1 (.slice As ss.length cs)
 have c0:=o1.cell 0;have c1:=e1.cell 0
 (try dsimp only at c0 c1)
 have t2':tmps[2]?.getD undef= .pointer (some ⟨h,0,none⟩):=by simpa using t2
 have t3':tmps[3]?.getD undef= .pointer (some ⟨h+1,0,none⟩):=by simpa using t3
 refine ⟨.tuple #[.slice As ss.length cs,.int .i64 0],?_,As,cs,ss,by rw [he],hs,hq,k.be.setCell (p:=⟨h,0,none⟩) k.lo.1 _,cg k.rows k.ou (jS (by decide) (by decide) (by decide) (by decide) (by decide) (by decide)) _ _⟩
 simp [results,Tryz.results19,t2',t3',asAddr,c0,c1,go_sem]
theorem Ea {w:World} {h g h3:Nat} {bv:Value} {p:Nat} {v:Value} {ss:List bh} {W:World} {r:List cS×Int} {tmps:Array Value} (k:iP w h g h3 bv p v ss W) (hs:ss.map (·.s)=r.1) (hq:∀s∈ss,nJ s) (t2:tmps.getD 2 undef= .pointer (some ⟨h,0,none⟩)) (t3:tmps.getD 3 undef= .pointer (some ⟨h+1,0,none⟩)):
  Leaves Tryz.prog Tryz.f19 tmps (th r w) (IT h h3) (.panicking [{v:= .iface 79 (.agg #[.int .i64 r.2]),recovered:=false}]) W:=by
 obtain ⟨As,cs,hv⟩:=bj k.rows.head
 dsimp only at hv
 subst hv
 refine leaves_cons (f:=45) (args:= #[.pointer (some ⟨h3,0,none⟩),.pointer (some ⟨h,0,none⟩),.pointer (some ⟨h+1,0,none⟩)]) (by simp) (by simp [go_sem]) ?_
 refine (rU h g h3 _ _ bv As ss.length cs p r.2 [] W k.cs).mono ?_
 rintro e u W' ⟨rfl,rfl,rfl⟩
 have n1:h+1≠h:=by omega
 have o1:=((k.ou.set_ 0 (.slice As ss.length cs)).alloc (.cells #[.int .i64 r.2] 79))
 have e0:=((k.er.far (p:=⟨h,0,none⟩) n1 (.slice As ss.length cs)).alloc (.cells #[.int .i64 r.2] 79))
 have e1:=e0.set_ 0 (.int .i64 r.2)
 have o2:=o1.far (p:=⟨h+1,0,none⟩) (Ne.symm n1) (.int .i64 r.2)
 have c0:=o2.cell 0;have c1:=e1.cell 0
 (try dsimp only at c0 c1)
 have t2':tmps[2]?.getD undef= .pointer (some ⟨h,0,none⟩):=by simpa using t2
 have t3':tmps[3]?.getD undef= .pointer (some ⟨h+1,0,none⟩):=by simpa using t3
 have r1:=cg k.rows k.ou (jS (by decide) (by decide) (by decide) (by decide) (by decide) (by decide)) 0 (.slice As ss.length cs)
 have r2:=fG r1 ((Below.refl _ _).alloc (zAG _) (.cells #[.int .i64 r.2] 79))
 have r3:=cg r2 e0 (jS (by decide) (by decide) (by decide) (by decide) (by decide) (by decide)) 0 (.int .i64 r.2)
 refine ⟨.tuple #[.slice As ss.length cs,.int .i64 r.2],?_,As,cs,ss,rfl,hs,hq,((k.be.setCell (p:=⟨h,0,none⟩) k.lo.1 _).alloc (by have:=k.be.size;simpa using this) _).setCell (p:=⟨h+1,0,none⟩) (zAI k.lo.1 (zAJ _)) _,r3⟩
 simp [results,Tryz.results19,t2',t3',asAddr,c0,c1,go_sem]
theorem Jc {ops:Array Oper} {R:Ending→World→Prop} (h:(ops.toList.all fun o=>o.dst !=some 2&&o.dst !=some 3)=true) (c:List PanicEntry) (a:Act) (o:Oper) (v:Value) (w:World) (ho:o∈ops.toList) (hp:bodyPostD Tryz.prog Tryz.f19 R (.panic c) (a.put o.dst v) w):bodyPostD Tryz.prog Tryz.f19 R (.panic c) a w:=by
 have h1:=List.all_eq_true.1 h o ho
 simp only [Bool.and_eq_true,bne_iff_ne,ne_eq] at h1
 unfold bodyPostD at hp⊢
 have hd:(a.put o.dst v).defers=a.defers:=by cases o.dst<;>rfl
 dsimp only at hp⊢
 rw [hd] at hp
 refine nc ?_ _ _ _ hp
 cases hod:o.dst with
 |none=>rfl
 |some d=>
  rw [hod] at h1
  have h2:d≠2:=fun e=>h1.1 (by rw [e])
  have h3:d≠3:=fun e=>h1.2 (by rw [e])
  simp [results,Tryz.results19,Act.put,Array.getElem?_setIfInBounds,h2,h3]
set_option maxRecDepth 100000 in
set_option maxHeartbeats 16000000 in
theorem pY (A:Option Addr) (n c:Nat) (l:List UInt8) (w:World) (hE:∀W,Below w.heap.size w W→Tz W∧Ts W∧Sl W A (l.map af)) (hn:l.length=n) (hsz:n≤2 ^ 40):
  Calls Tryz.prog 19 #[.slice A n c] w (th (aZ l) w):=by
 have HEV:=zAA hE;have HN:=zAA hn;have HSZ:=zAA hsz
 obtain ⟨r,hr⟩:∃r,aZ l=r:=⟨_,rfl⟩
 rw [hr]
 have HR:=zAA hr
 obtain ⟨h,hh⟩:∃h,w.heap.size=h:=⟨_,rfl⟩
 have HH:=zAA hh
 have hmf:∀(fn:Fn) (first cap:Array Value) (w:World),(Instr.makeFunc fn first cap).run Tryz.prog w= .ok (.func fn first cap) w:=fun _ _ _ _=>rfl
 clear hE hr
 have hk0:iP w h (h+1+1) (h+1+1+1) (.slice A n c) 0 (.slice none 0 0) [] ((((w.alloc (.cells #[.slice none 0 0] 22)).alloc (.cells #[.int .i64 0] 26)).alloc (.cells (cC (.slice A n c) 0 (.slice none 0 0)) 77)).alloc (.cells #[.pointer (some ⟨h+1+1,0,none⟩)] 73)):=by
  have s1:(w.alloc (.cells #[.slice none 0 0] 22)).heap.size=h+1:=by simp [hh]
  have s2:((w.alloc (.cells #[.slice none 0 0] 22)).alloc (.cells #[.int .i64 0] 26)).heap.size=h+1+1:=by simp [hh]
  have s3:(((w.alloc (.cells #[.slice none 0 0] 22)).alloc (.cells #[.int .i64 0] 26)).alloc (.cells (cC (.slice A n c) 0 (.slice none 0 0)) 77)).heap.size=h+1+1+1:=by simp [hh]
  refine ⟨((((Below.refl _ _).alloc (zAG _) _).alloc (by rw [s1];omega) _).alloc (by rw [s2];omega) _).alloc (by rw [s3];omega) _,?_,⟨by omega,by omega⟩,ap.cons (World.ownsRow_nil _ _ _ _) (aE _)⟩
  exact aa.cons ((((aD (ab.new _ _ _) hh).alloc _).alloc _).alloc _) (aa.cons (((aD (ab.new _ _ _) s1).alloc _).alloc _) (aa.cons ((aD (ab.new _ _ _) s2).alloc _) (aa.cons (aD (ab.new _ _ _) s3) (ag _))))
 unfold cC at hk0
 simp only [Int.natCast_zero] at hk0
 obtain ⟨g,hg⟩:∃g,h+1+1=g:=⟨_,rfl⟩
 obtain ⟨h3,hh3⟩:∃h3,g+1=h3:=⟨_,rfl⟩
 rw [hg] at hk0
 rw [hh3] at hk0
 have HK0:=zAA hk0;have HG:=zAA hg;have HH3:=zAA hh3
 clear hk0
 go_enter_defers Tryz.func19,Tryz.ntmps19
 go_wp2_with fail
 (try rw [hg])
 (try rw [hh3])
 clear hg hh3 hh
 generalize ((((w.alloc (.cells #[.slice none 0 0] 22)).alloc (.cells #[.int .i64 0] 26)).alloc (.cells #[.slice A n c,.int .i64 0,.slice none 0 0] 77)).alloc (.cells #[.pointer (some ⟨g,0,none⟩)] 73))=W1 at HK0⊢
 have hev:∀W X,Below w.heap.size w W→W.grownBy X (some g)→Tz X∧Ts X∧Sl X A (l.map af):=fun W X hb hx=>HEV.out X (sf hb hx hb.size HK0.out.lo.2)
 have HEG:=zAA hev
 refine (zD g A n c l (.slice none 0 0) W1 HK0.out.pr (HEV.out _ HK0.out.be).2.2 (fun W hW=>(HEG.out _ W HK0.out.be hW).2.2) hn hsz).mono ?_
 rintro e w2 ⟨hg2,(⟨hf,rfl,p',hb2⟩|⟨q,hf,hq8,rfl,hb2⟩)⟩
 ·have hk2:=HK0.out.go hg2 hb2
  have hr:=HR.out
  unfold aZ at hr
  rw [hf] at hr
  have HK2:=zAA hk2
  have c0:=hk2.ou.frozen 0;have c1:=hk2.er.frozen 0;have c2:=hk2.ou.cell 0;have c3:=hk2.er.cell 0
  clear hf hg2 hb2 hk2 hev HK0
  go_wp2_with fail
  exact xC HK2.out.ret (by rw [←hr];rfl) (by rw [←hr]) (fun s hs=>by cases hs) rfl rfl
 have HK2:=zAA (HK0.out.go hg2 hb2)
 have hr:=HR.out
 unfold aZ at hr
 rw [hf] at hr
 dsimp only at hr
 have HRR:=zAA hr;have HQ8:=zAA (show q≤8*n by rw [←hn];exact hq8)
 have HB47:Hid (n≤2 ^ 47):=zAA (by omega)
 clear hf hg2 hb2 hev HK0 hr hq8
 go_wp2_with fail
 go_loopg [] (8*n+1 - q) (fun gk=>fun wr=>∃(k p:Nat) (v:Value) (ss:List bh),p+gk=8*n+1∧p≤8*n∧Hid (8*n<p+k)∧Hid (r=(ss.map (·.s)++(bY l k p).1,(bY l k p).2))∧Hid (iP w h g h3 (.slice A n c) p v ss wr)∧Hid (20*ss.length≤p)∧Hid (∀s∈ss,nJ s))
 case atStart=>exact ⟨8*l.length+1,q,.slice none 0 0,[],by have:=HQ8.out;omega,HQ8.out,zAA (by have:=HN.out;omega),zAA (by rw [HRR.out];rfl),HK2,zAA (Nat.zero_le _),zAA (fun m hm=>by cases hm)⟩
 case round=>
  obtain ⟨k,p,v,ss,hpk,hp8,HK,HE,HS,HX,HQ⟩:=hrel
  obtain ⟨k,rfl⟩:∃k',k=k'+1:=⟨k - 1,by have:=HK.out;omega⟩
  obtain ⟨Av,cv,hv⟩:=bj HS.out.rows.head
  dsimp only at hv
  subst hv
  have hpc:=HS.out.pc.cell 0
  (try dsimp only at hpc)
  have HPC:=zAA hpc
  have CO:=zAA (qW g A n c l p (.slice Av ss.length cv) wr HS.out.pr (HEG.out _ _ HS.out.be (tC _ _)).2.2 HN.out HSZ.out hp8)
  cases ho:cA l p with
  |true=>
   have hr:=HE.out
   rw [bY,if_pos ho] at hr
   rw [ho] at CO
   have HR3:=zAA hr
   have hk2:=HS.out
   have c0:=hk2.ou.frozen 0;have c1:=hk2.er.frozen 0;have c2:=hk2.ou.cell 0;have c3:=hk2.er.cell 0
   clear ho hr hp8 hk2
   go_wp2_with (go_at_call 47;refine CO.out.mono ?_;rintro e3 w3 ⟨rfl,rfl⟩)
   exact xC HS.out.ret (by rw [HR3.out];simp) (by rw [HR3.out]) HQ.out rfl rfl
  |false=>
   have hr:=HE.out
   rw [bY,if_neg (by rw [ho];decide)] at hr
   rw [ho] at CO
   dsimp only at hr
   have hse:= @Cv l p
   obtain ⟨⟨sm,p2,e2⟩,hs⟩:∃z,cE l p=z:=⟨_,rfl⟩
   rw [hs] at hr hse
   have CS:=zAA (fun W (h1:ab W g 77 (cC (.slice A n c) p (.slice Av ss.length cv))) (h2:Ae W g A l)=>zE g A n c l p (.slice Av ss.length cv) W h1 h2 HN.out HSZ.out hp8)
   rw [hs] at CS
   dsimp only at hr hse
   have HR3:=zAA hr;have HSE:=zAA hse;have HP8:=zAA hp8;have HPK:=zAA hpk
   clear ho hr hs hse hp8 hpk
   go_wp2_with (go_at_call 47;refine CO.out.mono ?_;rintro e3 w3 ⟨rfl,rfl⟩)
   have HSD:=zAA (HS.out.go (lF wr g) HS.out.pr)
   refine ta (fun w'=>(∃q,ab w' g 77 (cC (.slice A n c) q (.slice Av ss.length cv)))∧ab w' h3 73 #[.pointer (some ⟨g,0,none⟩)]) 9 (.take 0 (.take 1 (.take 2 (.take 3 (.take 4 (.take 5 (.step 6 (.step 7 (.step 8 .done))))))))) (by kernel_rfl) (by kernel_rfl) (Jc (by decide)) (by simp only [aR.out,Array.getD_eq_getD_getElem?,List.getElem?_toArray,List.getElem?_cons_zero,List.getElem?_cons_succ,Option.getD_some];rfl) (by simp only [List.map_cons,List.map_nil];rfl) (⟨⟨p,HS.out.pr⟩,HS.out.pc⟩) (fun PE hPE=>?_)
   iterate 6
    refine CQ (v:=?_) rfl (by rfl) ?_ ?_
    rotate_left
    ·intro _ hSw;(try dsimp only at hSw);obtain ⟨⟨q9,a⟩,b⟩:=hSw;unfold cC at a;have a0:=a.cell 2;have b0:=b.cell 0;(try dsimp only at a0 b0);go_simp;(try with_reducible rfl)
    simp only [zAB,zAC,zAD]
   refine CL (f:=48) rfl (by rfl) (by first|(go_simp;done)|(go_simp;rfl)) (CS.out _ HSD.out.pr (fun X hX=>HEG.out _ X HSD.out.be hX)) ?_
   rintro e4 w4 ⟨hg4,(⟨he,s,rfl,hsm,hseq,hb4,hrows⟩|⟨he,hpe,p',hb4⟩)⟩
   rotate_left 1
   ·right
    have hr:=HR3.out
    dsimp only at he hpe
    rw [if_neg he] at hr
    rw [show e2=r.2 by rw [hr]] at hpe
    exact ⟨_,hpe,Ea (HSD.out.go hg4 hb4) (by rw [hr];simp) HQ.out rfl rfl⟩
   left
   dsimp only at he hsm hb4
   subst he
   have HS4:=zAA (HSD.out.go hg4 hb4)
   have HRW:=zAA (Er hrows HSD.out.be.size)
   have HSEQ:=zAA hseq;have HSM:=zAA hsm;have HSE0:=zAA (HSE.out rfl)
   clear hg4 hb4 hrows hseq hsm CS CO HSE
   refine ⟨_,rfl,(fun w'=>ab w' g 77 (cC (.slice A n c) p2 (.slice Av ss.length cv))∧ab w' h3 73 #[.pointer (some ⟨g,0,none⟩)]),fun _ h=>⟨⟨_,h.1⟩,h.2⟩,⟨HS4.out.pr,HS4.out.pc⟩,?_⟩
   simp only [zAB,zAC,zAD]
   unfold eE
   refine aw (v:=?_) (w':=?_) rfl (by rfl) ?_ ?_ ?_
   rotate_left 2
   ·go_simp;(try (constructor<;>with_reducible rfl))
   ·exact ⟨HS4.out.pr.alloc _,HS4.out.pc.alloc _⟩
   simp only [zAB,zAC,zAD]
   have hba:Below w4.heap.size w4 (w4.alloc (.cells #[.int .i64 s.tm,.int .i64 s.ty,.slice s.sA s.sp.length s.sc,.slice s.A s.gs.length s.c] 35)):=(Below.refl _ _).alloc (zAG _) _
   have HSA:=zAA (HS4.out.go (dh hba (zAG _)) (HS4.out.pr.alloc _))
   have HRA:=zAA (fG HRW.out hba)
   clear hba
   refine vf Jt rfl (by rfl) rfl rfl HSA.out.rows.head rfl (news:=ci s) (m:=1) (by have h:=ab.sl (ab.new w4 35 (ci s).toArray) 0;exact h) rfl (F9 s) (by have:=HX.out;have:=HP8.out;have:=HSZ.out;dsimp only;omega) HSA.out.be.size ?_
   intro v7 w7 ho7 hg7
   obtain ⟨Ax,cx,hvx⟩:=bj ho7
   subst hvx
   obtain ⟨b7,c7,k7⟩:=HSA.out.app HRA.out hg7 ho7
   have B7:=zAA b7;have C7:=zAA c7;have K7:=zAA k7
   refine ⟨⟨B7.out,C7.out⟩,?_⟩
   simp only [zAB,zAC,zAD]
   refine hPE _ _ ?_
   clear hPE PE
   simp only [List.drop_succ_cons,List.drop_zero]
   have f2:=b7.frozen 2
   unfold cC at b7
   have z2:=b7.cell 2
   (try dsimp only at f2 z2)
   clear b7 c7 k7 hg7 ho7
   go_wp2_with fail
   go_roundg (8*n+1 - p2)
   case measure=>have:=HPK.out;have:=HSE0.out;omega
   case rel=>
    have h1:=HSE0.out
    rw [HN.out] at h1
    refine ⟨k,p2,.slice Ax (ss.length+1) cx,ss++[s],by omega,h1.2,zAA (by have:=HK.out;omega),zAA ?_,K7,zAA (by rw [zAF,zAH];have:=HX.out;omega),zAA ?_⟩
    ·rw [HR3.out,List.map_append,List.map_singleton,HSM.out]
     simp
    ·intro y hy
     rcases List.mem_append.1 hy with hy|hy
     ·exact HQ.out y hy
     ·rw [List.mem_singleton] at hy
      subst hy
      exact HSEQ.out
end Go.Proofs.YthhijgcfbjcgiaaGreatDoor
