/- MacsP, Macs, ShotP, Shot, Catch -/
import Derived.Test.YthhijgcfbjcgiaaGreatDoorS33
import Derived.Test.YthhijgcfbjcgiaaGreatDoorS30
import Derived.Test.YthhijgcfbjcgiaaGreatDoorS36
import Derived.Test.YthhijgcfbjcgiaaGreatDoorS06
import Derived.Test.YthhijgcfbjcgiaaGreatDoorS27
import Derived.Test.YthhijgcfbjcgiaaGreatDoorS16
import Derived.Deep.DeepCutAuto
import Derived.Test.YthhijgcfbjcgiaaGreatDoorS32
import Derived.Defers
import Derived.Recover
import Derived.Laws.Pointers
namespace Go.Proofs.YthhijgcfbjcgiaaGreatDoor
open Go Go.RowKit
section
variable {l:List UInt8} {f g:Int} {k p:Nat} {x:bD} {d nb e:Int}
theorem Hh (h:ca l p=(34,nb,0)):ba l f g (k+1) p x=([],p,0):=by
 rw [ba];dsimp only;rw [h];dsimp only;rw [if_pos rfl,if_pos rfl]
theorem Hg (h:ca l p=(0,nb,0)):ba l f g (k+1) p x=ba l f g k (p+nb.toNat) x:=by
 rw [ba];dsimp only;rw [h];dsimp only;rw [if_pos rfl,if_neg (by decide),if_pos rfl]
theorem Ha (h:ca l p=(d,nb,0)) (h1:d≠34) (h2:d≠0) (h3:33<x.ad+d):ba l f g (k+1) p x=([],0,13):=by
 rw [ba];dsimp only;rw [h];dsimp only;rw [if_pos rfl,if_neg h1,if_neg h2,if_pos h3]
theorem I5 (h:ca l p=(d,nb,0)) (h1:d≠34) (h2:d≠0) (h3:¬33<x.ad+d) (h4:(bR l ((p+nb.toNat:Nat):Int) (x.ad+d) x).2.2≠0):
  ba l f g (k+1) p x=([],0,jm (bR l ((p+nb.toNat:Nat):Int) (x.ad+d) x).2.2):=by
 rw [ba];dsimp only;rw [h];dsimp only;rw [if_pos rfl,if_neg h1,if_neg h2,if_neg h3,if_neg h4]
theorem I6 (h:ca l p=(d,nb,0)) (h1:d≠34) (h2:d≠0) (h3:¬33<x.ad+d) (h4:(bR l ((p+nb.toNat:Nat):Int) (x.ad+d) x).2.2=0) (h5:kf f g (bR l ((p+nb.toNat:Nat):Int) (x.ad+d) x).1=false):
  ba l f g (k+1) p x=([],0,12):=by
 rw [ba];dsimp only;rw [h];dsimp only;rw [if_pos rfl,if_neg h1,if_neg h2,if_neg h3,if_pos h4,h5];rfl
theorem Hd (h:ca l p=(d,nb,0)) (h1:d≠34) (h2:d≠0) (h3:¬33<x.ad+d) (h4:(bR l ((p+nb.toNat:Nat):Int) (x.ad+d) x).2.2=0) (h5:kf f g (bR l ((p+nb.toNat:Nat):Int) (x.ad+d) x).1=true):
  ba l f g (k+1) p x=((bR l ((p+nb.toNat:Nat):Int) (x.ad+d) x).1::(ba l f g k (p+nb.toNat+(bR l ((p+nb.toNat:Nat):Int) (x.ad+d) x).2.1.toNat) (ez (bR l ((p+nb.toNat:Nat):Int) (x.ad+d) x).1)).1,
   (ba l f g k (p+nb.toNat+(bR l ((p+nb.toNat:Nat):Int) (x.ad+d) x).2.1.toNat) (ez (bR l ((p+nb.toNat:Nat):Int) (x.ad+d) x).1)).2.1,
   (ba l f g k (p+nb.toNat+(bR l ((p+nb.toNat:Nat):Int) (x.ad+d) x).2.1.toNat) (ez (bR l ((p+nb.toNat:Nat):Int) (x.ad+d) x).1)).2.2):=by
 rw [ba];dsimp only;rw [h];dsimp only;rw [if_pos rfl,if_neg h1,if_neg h2,if_neg h3,if_pos h4,h5];rfl
theorem He (h:ca l p=(d,nb,5)) (ho:cA l p=true):ba l f g (k+1) p x=([],p,0):=by
 rw [ba];dsimp only;rw [h];dsimp only;rw [if_neg (by decide),if_pos rfl,if_pos ho]
theorem I4 (h:ca l p=(d,nb,5)) (ho:cA l p=false):ba l f g (k+1) p x=([],0,6):=by
 rw [ba];dsimp only;rw [h];dsimp only;rw [if_neg (by decide),if_pos rfl,ho];rfl
theorem I3 (h:ca l p=(d,nb,e)) (h0:e≠0) (h5:e≠5):ba l f g (k+1) p x=([],0,e):=by
 rw [ba];dsimp only;rw [h];dsimp only;rw [if_neg h0,if_neg h5]
end
def Ae (w:World) (g:Nat) (A:Option Addr) (l:List UInt8):Prop:=∀W,w.grownBy W (some g)→Tz W∧Ts W∧Sl W A (l.map af)
theorem Ae.to {w W:World} {g:Nat} {A:Option Addr} {l:List UInt8} (h:Ae w g A l) (hg:w.grownBy W (some g)):Ae W g A l:=fun X hX=>h X (hg.trans hX)
theorem wS {w W W':World} {g:Nat} {row:Option Nat} (h:w.grownBy W (some g)) (hg:W.grownBy W' row) (hr:∀k,row=some k→w.heap.size≤k):w.grownBy W' (some g):=h.andThen hg (fun j e=> .inl (hr j e))
theorem cX {w W:World} {g h:Nat} (hw:w.grownBy W (some g)) (hh:w.heap.size≤h) (i:Nat) (v:Value):w.grownBy (W.setCell ⟨h,i,none⟩ v) (some g):=wS hw (gO W h i v) (fun k e=>by cases e;exact hh)
def oP (x:bD):Array Value:= #[.int .i64 x.ad,.bool x.had,.int .i64 x.x,.int .i64 x.y]
structure lN (w:World) (g hl:Nat) (bv sv:Value) (p:Nat) (x:bD) (v:Value) (es:List ea) (W:World):Prop where
 gb:w.grownBy W (some g)
 pr:ab W g 77 (cC bv p sv)
 la:ab W hl 102 (oP x)
 hl:w.heap.size≤hl
 rows:ap (⟨w.heap.size,55,7,v,es.length,av eT es⟩::iF w.heap.size es) W
theorem qo {B:Nat} {v:Value} {es:List ea} {t:TypeId} (h1:t≠55) (h2:t≠93) (h3:t≠189):∀r∈(⟨B,55,7,v,es.length,av eT es⟩::iF B es:List a9),r.e≠t:=by
 intro r hr
 rcases List.mem_cons.1 hr with rfl|hr
 ·exact Ne.symm h1
 ·rcases qn r hr with h|h<;>rw [h]
  ·exact Ne.symm h2
  ·exact Ne.symm h3
section
variable {w:World} {g hl:Nat} {bv sv:Value} {p:Nat} {x:bD} {v:Value} {es:List ea} {W W':World}
theorem lN.below (h:lN w g hl bv sv p x v es W) (hb:Below W.heap.size W W'):lN w g hl bv sv p x v es W':=
 ⟨h.gb.trans (dh hb (Nat.le_refl _)),h.pr.below hb h.pr.lt,h.la.below hb h.la.lt,h.hl,fG h.rows hb⟩
theorem lN.at (h:lN w g hl bv sv p x v es W) (q:Nat):lN w g hl bv sv q x v es (W.setCell ⟨g,1,none⟩ (.int .i64 (q:Int))):=
 ⟨h.gb.trans (gO _ _ _ _),mh h.pr q,h.la.far (p:=⟨g,1,none⟩) (aS h.la h.pr (by decide)) _,h.hl,cg h.rows h.pr (qo (by decide) (by decide) (by decide)) _ _⟩
theorem lN.last (h:lN w g hl bv sv p x v es W) (y:bD):lN w g hl bv sv p y v es ((((W.setCell ⟨hl,0,none⟩ (.int .i64 y.ad)).setCell ⟨hl,1,none⟩ (.bool y.had)).setCell ⟨hl,2,none⟩ (.int .i64 y.x)).setCell ⟨hl,3,none⟩ (.int .i64 y.y)):=by
 have hne:g≠hl:=fun e=>aS h.la h.pr (by decide) e.symm
 have l1:=h.la.set_ 0 (.int .i64 y.ad)
 have l2:=l1.set_ 1 (.bool y.had)
 have l3:=l2.set_ 2 (.int .i64 y.x)
 have l4:=l3.set_ 3 (.int .i64 y.y)
 have hR:∀r∈(⟨w.heap.size,55,7,v,es.length,av eT es⟩::iF w.heap.size es:List a9),r.e≠102:=qo (by decide) (by decide) (by decide)
 refine ⟨cX (cX (cX (cX h.gb h.hl _ _) h.hl _ _) h.hl _ _) h.hl _ _,(((h.pr.far (p:=⟨hl,0,none⟩) hne _).far (p:=⟨hl,1,none⟩) hne _).far (p:=⟨hl,2,none⟩) hne _).far (p:=⟨hl,3,none⟩) hne _,?_,h.hl,
  cg (cg (cg (cg h.rows h.la hR _ _) l1 hR _ _) l2 hR _ _) l3 hR _ _⟩
 unfold oP at*
 simpa using l4
end
theorem tH {B:Nat} {p:ea} {t:TypeId} (h2:t≠93) (h3:t≠189):∀r∈om B p,r.e≠t:=by
 intro r hr
 rcases DR r hr with h|h<;>rw [h]
 ·exact Ne.symm h2
 ·exact Ne.symm h3
theorem uT {R:List a9} {W:World} {h:Nat} {m:aU} {v:Value} (hr:ap R W) (hb:ab W h 55 (dz m v)) (hR:∀r∈R,r.e≠55) (a:aU) (u:Value):
  ap R (((((((W.setCell ⟨h,0,none⟩ (.int .i64 a.ad)).setCell ⟨h,1,none⟩ (.int .i64 a.kd)).setCell ⟨h,2,none⟩ (.int .i64 a.qu)).setCell ⟨h,3,none⟩ (.int .i64 a.x)).setCell ⟨h,4,none⟩ (.int .i64 a.y)).setCell ⟨h,5,none⟩ (.int .i64 a.pa)).setCell ⟨h,6,none⟩ u):=by
 have b1:=hb.set_ 0 (.int .i64 a.ad);have b2:=b1.set_ 1 (.int .i64 a.kd);have b3:=b2.set_ 2 (.int .i64 a.qu);have b4:=b3.set_ 3 (.int .i64 a.x);have b5:=b4.set_ 4 (.int .i64 a.y);have b6:=b5.set_ 5 (.int .i64 a.pa)
 exact cg (cg (cg (cg (cg (cg (cg hr hb hR _ _) b1 hR _ _) b2 hR _ _) b3 hR _ _) b4 hR _ _) b5 hR _ _) b6 hR _ _
theorem cM {W:World} {base e size n g:Nat} {v:Value} {xs:List Value} (h:W.ownsRow base e size v n xs) (hne:v.ownBlock≠some g) (i:Nat) (u:Value):(W.setCell ⟨g,i,none⟩ u).ownsRow base e size v n xs:=fc h ⟨g,i,none⟩ u hne
theorem Hi {w:World} {g hl:Nat} {bv sv:Value} {p:Nat} {x:bD} {v:Value} {es:List ea} {W:World} {h:Nat} {m:aU} {u0:Value} (hs:lN w g hl bv sv p x v es W) (hb:ab W h 55 (dz m u0)) (hh:w.heap.size≤h) (hv:v.ownBlock≠some h) (a:aU) (u:Value):
  lN w g hl bv sv p x v es (((((((W.setCell ⟨h,0,none⟩ (.int .i64 a.ad)).setCell ⟨h,1,none⟩ (.int .i64 a.kd)).setCell ⟨h,2,none⟩ (.int .i64 a.qu)).setCell ⟨h,3,none⟩ (.int .i64 a.x)).setCell ⟨h,4,none⟩ (.int .i64 a.y)).setCell ⟨h,5,none⟩ (.int .i64 a.pa)).setCell ⟨h,6,none⟩ u):=by
 have n1:g≠h:=aS hs.pr hb (by decide)
 have n2:hl≠h:=aS hs.la hb (by decide)
 refine ⟨cX (cX (cX (cX (cX (cX (cX hs.gb hh _ _) hh _ _) hh _ _) hh _ _) hh _ _) hh _ _) hh _ _,
  ((((((hs.pr.far (p:=⟨h,0,none⟩) n1 _).far (p:=⟨h,1,none⟩) n1 _).far (p:=⟨h,2,none⟩) n1 _).far (p:=⟨h,3,none⟩) n1 _).far (p:=⟨h,4,none⟩) n1 _).far (p:=⟨h,5,none⟩) n1 _).far (p:=⟨h,6,none⟩) n1 _,
  ((((((hs.la.far (p:=⟨h,0,none⟩) n2 _).far (p:=⟨h,1,none⟩) n2 _).far (p:=⟨h,2,none⟩) n2 _).far (p:=⟨h,3,none⟩) n2 _).far (p:=⟨h,4,none⟩) n2 _).far (p:=⟨h,5,none⟩) n2 _).far (p:=⟨h,6,none⟩) n2 _,hs.hl,?_⟩
 refine ap.cons (cM (cM (cM (cM (cM (cM (cM hs.rows.head hv _ _) hv _ _) hv _ _) hv _ _) hv _ _) hv _ _) hv _ _) (uT hs.rows.tail hb ?_ a u)
 intro r hr
 rcases qn r hr with h|h<;>rw [h]<;>decide
theorem Js:eG Tryz.prog 49 55 7 72:= .mk' (z:= .agg #[.int .i64 0,.int .i64 0,.int .i64 0,.int .i64 0,.int .i64 0,.int .i64 0,.slice none 0 0]) (by kernel_rfl) (by kernel_rfl) rfl (by decide) (by decide)
theorem vf {P:Program} {t e size bytes:Nat} {W:World} {base n:Nat} {m:Nat} {v:Value} {xs news:List Value} {A:Option Addr} {c:Nat} (et:eG P t e size bytes) {dsts:List (Option Tmp)} {E:Act→World→Prop} {S:World→Prop} {r:eP} {tmps:Array Value} {defers:List Deferred} {o:Oper} {d:Nat} {s x:Operand} (hd:o.dst=some d) (hw:bw o dsts tmps=true)
  (ho:o.op= .call {callee:= .builtin .append,args:= #[s,x],argTypes:= #[t,t]}) (hs:Act.eval ⟨tmps,defers⟩ s=v) (hc:W.ownsRow base e size v n xs) (hx:Act.eval ⟨tmps,defers⟩ x= .slice A m c) (hS:Sl W A news)
  (hl:news.length=m*size) (h1:∀u∈news,u.oneCell'=true) (hb:(n+m)*bytes≤140737488355328) (hbase:base≤W.heap.size)
  (h:∀v' W',W'.ownsRow base e size v' (n+m) (xs++news)→W.grownBy W' v.ownBlock→S W'∧co P dsts E r S ⟨tmps.setIfInBounds d v',defers⟩ W'):
  j8 P dsts o (fun a' w'=>∃S':World→Prop,(∀w,S' w→S w)∧S' w'∧co P dsts E r S' a' w') ⟨tmps,defers⟩ W:=by
 obtain ⟨v',w',hrun,h2,h3,h4⟩:=lI et o.type (c:=c) hc hl hS h1 hb hbase
 obtain ⟨h7,h8⟩:=h v' w' h2 h3
 refine aw (v:=v') (w':=w') hd hw ?_ h7 h8
 unfold execOp
 simp only [ho,resolve,invoke,builtin,Sem.run_bind,Sem.run_pure,Result.andThen_ok,List.map_toArray,List.map_cons,List.map_nil,hs,hx,hrun]
def Iz (g:Nat) (bv sv:Value) (r:List aU×Nat×Int) (w:World) (e:Ending) (w':World):Prop:=
 w.grownBy w' (some g)∧((r.2.2=0∧∃v es,e= .returned v∧es.map (·.m)=r.1∧(∀m∈es,vW m)∧ab w' g 77 (cC bv r.2.1 sv)∧ap (⟨w.heap.size,55,7,v,es.length,av eT es⟩::iF w.heap.size es) w')∨(r.2.2≠0∧hF r.2.2 e∧∃p',ab w' g 77 (cC bv p' sv)))
end Go.Proofs.YthhijgcfbjcgiaaGreatDoor
namespace Go.Proofs.YthhijgcfbjcgiaaGreatDoor
open Go Go.RowKit
attribute [local go_sem] Oper.semAt_some
open Go.Lib renaming hid→zAA
open List renaming setIfInBounds_toArray→zAB,set_cons_succ→zAC,set_cons_zero→zAD,drop_succ_cons→zAF,getElem?_cons_succ→zAG,getElem?_cons_zero→zAH,getElem?_toArray→zAI,drop_zero→zAJ,length_singleton→zAM,map_cons→zAN,length_append→zAO,map_nil→zAP,mem_map→zAT
open Int renaming toNat_natCast→zAE
open Go.IntKind renaming wrap_i64→zAK,i64→zAQ
open Option renaming getD_some→zAL
open Nat renaming le_refl→zAR,lt_irrefl→zAS
set_option maxRecDepth 100000 in
set_option maxHeartbeats 16000000 in
theorem vS (g:Nat) (A:Option Addr) (n c:Nat) (l:List UInt8) (p0:Nat) (sv:Value) (f nm:Int) (w:World) (hb:ab w g 77 (cC (.slice A n c) p0 sv)) (hE:Ae w g A l) (hn:l.length=n) (hsz:n≤2 ^ 40) (hp:p0≤8*n) (hf:f=0∨f=1) (hnm:nm∈aQ f):
  Calls Tryz.prog 89 #[.pointer (some ⟨g,0,none⟩),.int .i64 f,.int .i64 nm] w (Iz g (.slice A n c) sv (ba l f nm (8*l.length+1) p0 b9) w):=by
 have HEV:=zAA hE;have HN:=zAA hn;have HFN:=zAA (And.intro hf hnm)
 obtain ⟨r,hr⟩:∃r,ba l f nm (8*l.length+1) p0 b9=r:=⟨_,rfl⟩
 rw [hr]
 obtain ⟨hl,hhl⟩:∃hl,w.heap.size=hl:=⟨_,rfl⟩
 have h0:lN w g hl (.slice A n c) sv p0 b9 (.slice none 0 0) [] (w.alloc (.cells #[.int .i64 0,.bool false,.int .i64 0,.int .i64 0] 102)):=
  ⟨Fk w g _,hb.alloc _,aD (ab.new _ _ _) hhl,by omega,ap.cons (World.ownsRow_nil _ _ _ _) (aE _)⟩
 have HS0:=zAA h0;have HHL:=zAA hhl;have HR0:=zAA hr;have HP0:=zAA hp
 have HB47:Hid (n≤2 ^ 47):=zAA (by omega)
 clear hE hf hnm hr h0 hb hp
 go_enter Tryz.func89,Tryz.ntmps89
 go_wp2_with fail
 go_step3
 go_wp2_with fail
 go_step3
 go_wp2_with fail
 (try rw [hhl])
 generalize w.alloc (.cells #[.int .i64 0,.bool false,.int .i64 0,.int .i64 0] 102)=W1 at HS0⊢
 clear hhl
 go_loopg [6] (8*n+1 - p0) (fun gk v=>fun wr=>∃(k p:Nat) (x:bD) (es:List ea),p+gk=8*n+1∧p≤8*n∧Hid (8*n<p+k)∧Hid (r=(es.map (·.m)++(ba l f nm k p x).1,(ba l f nm k p x).2.1,(ba l f nm k p x).2.2))∧Hid (lN w g hl (.slice A n c) sv p x v es wr)∧Hid (0≤x.ad∧x.ad≤33∧(es.length:Int)≤x.ad)∧Hid (∀m∈es,vW m))
 case atStart=>exact ⟨8*l.length+1,p0,b9,[],by have:=HP0.out;omega,HP0.out,zAA (by have:=HN.out;omega),zAA (by rw [HR0.out];rfl),HS0,zAA (by decide),zAA (fun m hm=>by cases hm)⟩
 case round=>
  obtain ⟨k,p,x,es,hpk,hp8,HK,HE,HS,HX,HQ⟩:=hrel
  obtain ⟨k,rfl⟩:∃k',k=k'+1:=⟨k - 1,by have:=HK.out;omega⟩
  obtain ⟨Av,cv,hv⟩:=bj HS.out.rows.head
  dsimp only at hv
  subst hv
  have hbd:Below wr.heap.size wr wr.drew:=(Below.refl _ _).drew
  have HSD:=zAA (HS.out.below hbd)
  have hev:=HEV.out _ HSD.out.gb
  have CA:=yL A n c l (p:Int) wr.drew hev.1 hev.2.2 hn (by have:=HB47.out;omega) (by omega)
  rw [GQ] at CA
  obtain ⟨⟨d,nb,e⟩,hd⟩:∃z,ca l (p:Int)=z:=⟨_,rfl⟩
  have hgt:= @rg l (p:Int) (by omega) (by rw [hn];omega)
  rw [hd] at CA hgt
  dsimp only at CA hgt
  have HCA:=zAA CA;have HD:=zAA hd;have HGT:=zAA hgt;have HPK:=zAA hpk
  clear hbd hev CA hd hgt hpk
  go_wp2_with fail
  refine ai (fun w'=>ab w' g 77 (cC (.slice A n c) p sv)) 17 (.take 0 (.take 1 (.take 2 (.take 3 (.take 4 (.take 5 (.take 6 (.take 7 (.take 8 (.take 9 (.step 10 (.take 11 (.take 12 (.take 13 (.take 14 (.step 15 (.step 16 .done))))))))))))))))) (by kernel_rfl) (by kernel_rfl) (by simp only [aR.out,Array.getD_eq_getD_getElem?,zAI,zAH,zAG,zAL];rfl) (by simp only [zAN,zAP];rfl) (HSD.out.pr) (fun PE hPE=>?_)
  iterate 10
   refine ah (v:=?_) rfl (by rfl) ?_ ?_
   rotate_left
   ·intro _ hSw;(try dsimp only at hSw);have a:=hSw;unfold cC at a;have a0:=a.cell 0;have a1:=a.cell 1;(try dsimp only at a0 a1);go_simp;(try with_reducible rfl)
   simp only [zAB,zAD,zAC]
  refine aV (f:=143) rfl (by rfl) (by first|(go_simp;done)|(go_simp;rfl)) HCA.out ?_
  rintro e1 w2 ⟨rfl,hb2⟩
  have HS2:=zAA (HSD.out.below hb2)
  refine ⟨_,rfl,_,fun _ h=>h,HS2.out.pr,?_⟩
  simp only [zAB,zAD,zAC]
  iterate 4
   refine ah (v:=?_) rfl (by rfl) ?_ ?_
   rotate_left
   ·intro _ hSw;(try dsimp only at hSw);go_simp;(try with_reducible rfl)
   simp only [zAB,zAD,zAC]
  refine aw (v:=?_) (w':=?_) rfl (by rfl) ?_ ?_ ?_
  rotate_left 2
  ·go_simp;(try (constructor<;>with_reducible rfl))
  ·exact HS2.out.pr
  simp only [zAB,zAD,zAC]
  refine aw (v:=?_) (w':=?_) rfl (by rfl) ?_ ?_ ?_
  rotate_left 2
  ·go_simp;(try (constructor<;>with_reducible rfl))
  ·exact HS2.out.pr
  simp only [zAB,zAD,zAC]
  refine hPE _ _ ?_
  clear hPE PE
  simp only [zAF,zAJ]
  clear hb2 HCA HSD HS
  go_wp2_with fail
  refine ⟨rfl,?_⟩
  by_cases he5:e=5
  ·subst he5
   have CO:=zAA (qW g A n c l p sv w2 HS2.out.pr (HEV.out _ HS2.out.gb).2.2 HN.out (by have:=HB47.out;omega) hp8)
   cases ho:cA l p with
   |true=>
    have hr:=HE.out
    rw [He HD.out ho] at hr
    subst hr
    rw [ho] at CO
    clear ho hp8
    go_wp2_with (go_at_call 47;refine CO.out.mono ?_;rintro e3 w3 ⟨rfl,rfl⟩)
    (try rw [Exit.noGoto_ret])
    go_ret
    exact ⟨HS2.out.gb,.inl ⟨rfl,_,es,rfl,by simp,HQ.out,HS2.out.pr,HS2.out.rows⟩⟩
   |false=>
    have hr:=HE.out
    rw [I4 HD.out ho] at hr
    subst hr
    rw [ho] at CO
    clear ho hp8
    go_wp2_with (first|(go_at_call 47;refine CO.out.mono ?_;rintro e3 w3 ⟨rfl,rfl⟩)|(go_at_call 87;refine (dJ g nb 5 (by decide) _).mono ?_;rintro e3 w3 ⟨hpe,rfl⟩;unfold hF at hpe;subst hpe))
    exact ⟨rfl,HS2.out.gb,.inr ⟨by simp,rfl,p,HS2.out.pr⟩⟩
  by_cases he0:e=0
  ·subst he0
   have HGT:=zAA (HGT.out rfl)
   by_cases h34:d=34
   ·subst h34
    have hr:=HE.out
    rw [Hh HD.out] at hr
    subst hr
    clear hp8
    go_wp2_with fail
    (try rw [Exit.noGoto_ret])
    go_ret
    exact ⟨HS2.out.gb,.inl ⟨rfl,_,es,rfl,by simp,HQ.out,HS2.out.pr,HS2.out.rows⟩⟩
   obtain ⟨dn,hd34,hdn,hnb,hend⟩:=HGT.out h34
   have hpos:=mE dn hd34
   obtain ⟨nn,hnn⟩:∃nn:Nat,nb=(nn:Int):=⟨_,hnb⟩
   subst hnn
   rw [hn] at hend
   have hn1:1≤nn:=by omega
   have hwn:zAQ.wrap ((p:Int)+(nn:Int))=(p:Int)+(nn:Int):=by rw [zAK];omega
   have HWN:=zAA hwn
   have hse:=HS2.out.at (p+nn)
   rw [show ((p+nn:Nat):Int)=(p:Int)+(nn:Int) by omega] at hse
   have HSE:=zAA hse
   have HEN:=zAA (show p+nn≤8*n by omega)
   have HNN:=zAA hn1
   clear hpos hnb hend hwn hse hn1
   have h34b:(d==34)=false:=by simpa using h34
   by_cases hd0:d=0
   ·subst hd0
    have hr:=HE.out
    rw [Hg HD.out,zAE] at hr
    have HR:=zAA hr
    clear hr hp8 hd34 hdn
    go_wp2_with (go_at_call 87;refine (eW g (.slice A n c) sv p (nn:Int) _ HS2.out.pr HWN.out).mono ?_;rintro e3 w3 ⟨⟨u,rfl⟩,rfl⟩)
    go_roundg (8*n+1 - (p+nn))
    case measure=>have:=HPK.out;have:=HNN.out;have:=HEN.out;omega
    case rel=>exact ⟨k,p+nn,x,es,by have:=HEN.out;omega,HEN.out,zAA (by have:=HK.out;have:=HNN.out;omega),HR,HSE,HX,HQ⟩
   have hd0b:(d==0)=false:=by simpa using hd0
   have hdr:1≤d∧d≤33:=by omega
   have CN:=zAA (fun W=>wn x.ad d W (by have:=HX.out;omega) (by omega))
   have hx1:=HX.out
   have hnx:sw x.ad d=if 33<x.ad+d then (0,13) else (x.ad+d,0):=by
    unfold sw
    rw [if_neg (by omega)]
   rw [hnx] at CN
   have hla:=HSE.out.la
   unfold oP at hla
   have y0:=hla.cell 0
   (try dsimp only at y0)
   by_cases h33:33<x.ad+d
   ·rw [if_pos h33] at CN
    have hr:=HE.out
    rw [Ha HD.out h34 hd0 h33] at hr
    subst hr
    clear hp8 hd34 hdn hdr hx1 hnx hla h33 h34 hd0
    go_wp2_with fail
    refine (eW g (.slice A n c) sv p (nn:Int) _ HS2.out.pr HWN.out).mono ?_
    rintro e3 w3 ⟨⟨u,rfl⟩,rfl⟩
    go_wp2_with (go_at_call 144;refine (CN.out _).mono ?_;rintro e4 w4 ⟨rfl,rfl⟩)
    refine (dJ g 0 13 (by decide) _).mono ?_
    rintro e3 w3 ⟨hpe,rfl⟩
    unfold hF at hpe
    subst hpe
    exact ⟨rfl,HSE.out.gb,.inr ⟨by simp,rfl,p+nn,HSE.out.pr⟩⟩
   rw [if_neg h33] at CN
   have hw0:zAQ.wrap (((p+nn:Nat):Int)+0)=((p+nn:Nat):Int)+0:=by have:=HEN.out;rw [zAK];omega
   have hcast:((p+nn:Nat):Int)=(p:Int)+(nn:Int):=by omega
   obtain ⟨⟨m,nb2,er⟩,hm⟩:∃z,bR l ((p+nn:Nat):Int) (x.ad+d) x=z:=⟨_,rfl⟩
   have hmg:= @rx l ((p+nn:Nat):Int) (x.ad+d) x (by omega) (by rw [hn];have:=HEN.out;omega)
   have CG:=zAA (fun W (h1:Sl W A (l.map af)) (h2:Ts W)=>DS A n c l ((p+nn:Nat):Int) (x.ad+d) x W h1 HN.out HB47.out h2 (by have:=HEN.out;have:=HB47.out;omega))
   rw [hm] at hmg CG
   rw [hcast] at CG
   unfold eS at CG
   have HMG:=zAA hmg;have HM:=zAA hm;have HW0:=zAA hw0;have HCA:=zAA hcast
   have H3:=zAA (show d≠34∧d≠0∧¬33<x.ad+d from ⟨h34,hd0,h33⟩)
   have HDR:=zAA hdr
   clear hp8 hd34 hdn hdr hx1 hnx hla h33 h34 hd0 hmg hm hw0 hcast
   go_wp2_with fail
   refine (eW g (.slice A n c) sv p (nn:Int) _ HS2.out.pr HWN.out).mono ?_
   rintro e3 w3 ⟨⟨u,rfl⟩,rfl⟩
   go_wp2_with (go_at_call 144;refine (CN.out _).mono ?_;rintro e4 w4 ⟨rfl,rfl⟩)
   refine (eW g (.slice A n c) sv (p+nn) 0 _ HSE.out.pr HW0.out).mono ?_
   rintro e3 w3 ⟨⟨u2,rfl⟩,hw3⟩
   have hs3:=HSE.out.at (p+nn)
   rw [Int.add_zero] at hw3
   rw [←hw3] at hs3
   have HS3:=zAA hs3
   clear hw3 hs3 y0 HSE HS2 CN
   go_upto_region 10 with fail
   have HSD:=zAA (HS3.out.below (Below.refl _ _).drew)
   have HEV3:=zAA (HEV.out _ HSD.out.gb)
   go_cut [12,9,10] (fun s12 s9 s10 wx=>∃(g12:Nat) (A6:Option Addr) (c6:Nat) (xs:List dF),s12= .pointer (some ⟨g12,0,none⟩)∧s9= .int .i64 nb2∧s10= .int .i64 er∧Hid (lN w g hl (.slice A n c) sv (p+nn) x (.slice Av es.length cv) es wx)∧Hid (ab wx g12 55 (dz m (.slice A6 xs.length c6)))∧Hid (m.bl=xs.map (·.1))∧Hid (ap (om w.heap.size ⟨m,xs,A6,c6⟩) wx)∧Hid ((Value.slice Av es.length cv).ownBlock≠some g12))
   case first=>
    have hpr:=HSD.out.pr
    have hla:=HSD.out.la
    have HS0:=zAA (show aa [(g,77,cC (.slice A n c) (p+nn) sv),(hl,102,oP x)] w3.drew from aa.cons hpr (aa.cons hla (ag _)))
    clear hpr hla
    refine ai (fun w'=>aa [(g,77,cC (.slice A n c) (p+nn) sv),(hl,102,oP x)] w') 20 (.take 0 (.take 1 (.take 2 (.take 3 (.take 4 (.take 5 (.take 6 (.take 7 (.take 8 (.take 9 (.take 10 (.take 11 (.fork 12 (.take 13 (.take 14 (.take 15 (.take 16 (.step 17 (.step 18 (.step 19 (.done)))))))) 17 (.step 12 (.take 13 (.take 14 (.take 15 (.take 16 (.step 18 (.step 19 (.done))))))))))))))))))))) (by kernel_rfl) (by kernel_rfl) (by simp only [aR.out,Array.getD_eq_getD_getElem?,zAI,zAH,zAG,zAL];rfl) (by simp only [zAN,zAP];rfl) (HS0.out) (fun PE hPE=>?_)
    iterate 12
     refine ah (v:=?_) rfl (by rfl) ?_ ?_
     rotate_left
     ·intro _ hSw;(try dsimp only at hSw);have a:=hSw.head;have b:=hSw.tail.head;unfold cC at a;unfold oP at b;have a0:=a.cell 0;have a1:=a.cell 1;have b0:=b.cell 0;have b1:=b.cell 1;have b2:=b.cell 2;have b3:=b.cell 3;(try simp only [HCA.out] at a1);(try dsimp only at a0 a1 b0 b1 b2 b3);go_simp;(try with_reducible rfl)
     simp only [zAB,zAD,zAC]
    refine ⟨?_,?_⟩
    ·refine aV (f:=145) rfl (by rfl) (by first|(go_simp;done)|(go_simp;rfl)) (CG.out _ HEV3.out.2.2 HEV3.out.2.1) ?_
     rintro e4 w4 ⟨hb4,v6,xs,hret,hbl,hrow,hprs⟩
     obtain ⟨A6,c6,hv6⟩:=bj hrow
     subst hv6
     unfold dz at hret
     dsimp only at hret hbl hrow
     subst hret
     have HS4:=zAA (HSD.out.below hb4)
     have HBL:=zAA hbl
     have hge:w.heap.size≤w3.drew.heap.size:=HSD.out.gb.size
     have HRW:Hid (ap (om w.heap.size ⟨m,xs,A6,c6⟩) w4):=zAA (ap.cons (cO hrow hge) fun r hr=>by obtain ⟨b,hbm,rfl⟩:=zAT.1 hr;exact cO (hprs b hbm) hge)
     have hS4:=HS0.out.below hb4
     refine ⟨_,rfl,_,fun _ h=>h,hS4,?_⟩
     simp only [zAB,zAD,zAC]
     iterate 4
      refine ah (v:=?_) rfl (by rfl) ?_ ?_
      rotate_left
      ·intro _ hSw;(try dsimp only at hSw);go_simp;(try with_reducible rfl)
      simp only [zAB,zAD,zAC]
     clear hbl hrow hprs
     obtain ⟨g12,hg12⟩:∃g12,w4.heap.size=g12:=⟨_,rfl⟩
     refine aw (v:=?_) (w':=?_) rfl (by rfl) ?_ ?_ ?_
     rotate_left 2
     ·go_simp;(try (constructor<;>with_reducible rfl))
     ·exact hS4.alloc _
     simp only [zAB,zAD,zAC]
     refine bG _ (w':=?_) rfl (by rfl) ?_ ?_ ?_
     rotate_left 1
     ·go_simp;(first|(with_reducible rfl)|(constructor<;>with_reducible rfl)|skip)
     ·exact hS4.alloc _
     refine aw (v:=?_) (w':=?_) rfl (by rfl) ?_ ?_ ?_
     rotate_left 2
     ·go_simp;(try (constructor<;>with_reducible rfl))
     ·exact hS4.alloc _
     simp only [zAB,zAD,zAC]
     refine hPE _ _ ?_
     clear hPE PE
     simp only [zAF,zAJ]
     go_wp2_with fail
     refine ⟨rfl,?_⟩
     go_wp2_with fail
     go_meet
     case rel=>
      have hbe:Below w4.heap.size w4 (w4.alloc (.cells (dz m (.slice A6 xs.length c6)) 55)):=(Below.refl _ _).alloc (zAR _) _
      exact ⟨g12,A6,c6,xs,rfl,rfl,rfl,zAA (HS4.out.below hbe),zAA (aD (ab.new _ _ _) hg12),HBL,zAA (fG HRW.out hbe),zAA (fun e=>by have:=(HS4.out.rows.head.lt g12 e).2;rw [hg12] at this;exact zAS _ this)⟩
    ·have hge0:w.heap.size≤w3.drew.heap.size:=HSD.out.gb.size
     obtain ⟨g12,hg12⟩:∃g12,w3.heap.size=g12:=⟨_,rfl⟩
     have HVN:Hid ((Value.slice Av es.length cv).ownBlock≠some g12):=zAA (fun e=>by have:=(HSD.out.rows.head.lt g12 e).2;rw [←hg12] at this;exact zAS _ this)
     refine aw (v:=?_) (w':=?_) rfl (by rfl) ?_ ?_ ?_
     rotate_left 2
     ·go_simp;(try (constructor<;>with_reducible rfl))
     ·exact HS0.out.alloc _
     simp only [zAB,zAD,zAC]
     have hba:Below w3.drew.heap.size w3.drew (w3.drew.alloc (.cells (dz m0 (.slice none 0 0)) 55)):=(Below.refl _ _).alloc (zAR _) _
     have hev4:=(HEV.out _ HSD.out.gb)
     have hM0:ab (w3.drew.alloc (.cells (dz m0 (.slice none 0 0)) 55)) g12 55 (dz m0 (.slice none 0 0)):=aD (ab.new _ _ _) hg12
     refine aV (f:=145) rfl (by rfl) (by first|(go_simp;done)|(go_simp;rfl)) (CG.out _ (hev4.2.2.below hba) (hev4.2.1.below hba)) ?_
     rintro e4 w4 ⟨hb4,v6,xs,hret,hbl,hrow,hprs⟩
     obtain ⟨A6,c6,hv6⟩:=bj hrow
     subst hv6
     unfold dz at hret
     dsimp only at hret hbl hrow
     subst hret
     have hM4:=hM0.below hb4 hM0.lt
     have HS4:=zAA ((HSD.out.below hba).below hb4)
     have HBL:=zAA hbl
     have hge:w.heap.size≤(w3.drew.alloc (.cells (dz m0 (.slice none 0 0)) 55)).heap.size:=Nat.le_trans hge0 hba.size
     have HRW:Hid (ap (om w.heap.size ⟨m,xs,A6,c6⟩) w4):=zAA (ap.cons (cO hrow hge) fun r hr=>by obtain ⟨b,hbm,rfl⟩:=zAT.1 hr;exact cO (hprs b hbm) hge)
     have hS4:=(HS0.out.below hba).below hb4
     refine ⟨_,rfl,_,fun _ h=>h,hS4,?_⟩
     simp only [zAB,zAD,zAC]
     iterate 4
      refine ah (v:=?_) rfl (by rfl) ?_ ?_
      rotate_left
      ·intro _ hSw;(try dsimp only at hSw);go_simp;(try with_reducible rfl)
      simp only [zAB,zAD,zAC]
     have HM4:=zAA hM4
     have k0:=hM4.frozen 0;have k1:=hM4.frozen 1;have k2:=hM4.frozen 2;have k3:=hM4.frozen 3;have k4:=hM4.frozen 4;have k5:=hM4.frozen 5;have k6:=hM4.frozen 6
     unfold dz m0 at hM4
     have j0:=hM4.cell 0;have j1:=hM4.cell 1;have j2:=hM4.cell 2;have j3:=hM4.cell 3;have j4:=hM4.cell 4;have j5:=hM4.cell 5;have j6:=hM4.cell 6
     simp at j0 j1 j2 j3 j4 j5 j6
     have HSF:=zAA (Hi HS4.out HM4.out (by rw [←hg12];exact hge0) HVN.out m (.slice A6 xs.length c6))
     have HRF:=zAA (uT HRW.out HM4.out (tH (by decide) (by decide)) m (.slice A6 xs.length c6))
     have HMF:=zAA (AO HM4.out m (.slice A6 xs.length c6))
     clear hbl hrow hprs hM0 hM4 hba hev4
     refine bG _ (w':=?_) rfl (by rfl) ?_ ?_ ?_
     rotate_left 1
     ·go_simp;(first|(with_reducible rfl)|(constructor<;>with_reducible rfl)|skip)
     ·exact aa.cons HSF.out.pr (aa.cons HSF.out.la (ag _))
     refine aw (v:=?_) (w':=?_) rfl (by rfl) ?_ ?_ ?_
     rotate_left 2
     ·go_simp;(try (constructor<;>with_reducible rfl))
     ·exact aa.cons HSF.out.pr (aa.cons HSF.out.la (ag _))
     simp only [zAB,zAD,zAC]
     refine hPE _ _ ?_
     clear hPE PE
     simp only [zAF,zAJ]
     go_wp2_with fail
     refine ⟨rfl,?_⟩
     go_wp2_with fail
     go_meet
     case rel=>exact ⟨g12,A6,c6,xs,rfl,rfl,rfl,HSF,HMF,HBL,HRF,HVN⟩
   obtain ⟨g12,A6,c6,xs,rfl,rfl,rfl,HS4,HM4,HBL,HRW,HVN⟩:=hcut
   by_cases hee:er=0
   ·subst hee
    obtain ⟨hok,had,hax,hlen,hend,hone⟩:=HMG.out rfl
    (try dsimp only at hok had hlen hend hone)
    obtain ⟨n2,hn2⟩:∃n2:Nat,nb2=(n2:Int):=⟨nb2.toNat,by omega⟩
    subst hn2
    rw [hn] at hend
    have hwn:zAQ.wrap (((p+nn:Nat):Int)+(n2:Int))=((p+nn:Nat):Int)+(n2:Int):=by have:=HB47.out;rw [zAK];omega
    have HWN2:=zAA hwn
    have hend2:p+nn+n2≤8*n:=by omega
    have HEN2:=zAA hend2;have HON:=zAA (show 1≤n2 by omega)
    have HOK:=zAA hok;have HAD:=zAA had
    have CF:=zAA (fun W=>qV m A6 xs.length c6 f nm hok HFN.out.1 HFN.out.2 W)
    have CAF:=zAA (fun W=>qL m A6 xs.length c6 W)
    unfold fx at CF CAF
    clear hok had hax hlen hend hone hwn hend2
    go_wp2_with fail
    refine (eW g (.slice A n c) sv (p+nn) (n2:Int) _ HS4.out.pr HWN2.out).mono ?_
    rintro e5 w5 ⟨⟨u5,rfl⟩,hw5⟩
    have hs5:=HS4.out.at (p+nn+n2)
    have hm5:=HM4.out.far (p:=⟨g,1,none⟩) (fun e=>aS (show ab wc g12 55 (dz m (.slice A6 xs.length c6)) from HM4.out) HS4.out.pr (by decide) e) (.int .i64 ((p+nn+n2:Nat):Int))
    have hr5:=cg HRW.out HS4.out.pr (tH (by decide) (by decide)) 1 (.int .i64 ((p+nn+n2:Nat):Int))
    rw [show ((p+nn+n2:Nat):Int)=((p+nn:Nat):Int)+(n2:Int) by omega,←hw5] at hs5 hm5 hr5
    have HS5:=zAA hs5;have HM5:=zAA hm5;have HR5:=zAA hr5
    clear hw5 hs5 hr5 HS4 HM4 HRW
    have hc5:=hm5
    unfold dz at hc5
    have j0:=hc5.cell 0;have j1:=hc5.cell 1;have j2:=hc5.cell 2;have j3:=hc5.cell 3;have j4:=hc5.cell 4;have j5:=hc5.cell 5;have j6:=hc5.cell 6
    simp at j0 j1 j2 j3 j4 j5 j6
    clear hm5 hc5
    cases hft:kf f nm m with
    |false=>
     have hr:=HE.out
     rw [I6 HD.out (by have:=H3.out;omega) (by have:=H3.out;omega) (by have:=H3.out;omega) (by rw [zAE,HM.out]) (by rw [zAE,HM.out];exact hft)] at hr
     subst hr
     rw [hft] at CF
     clear hft
     go_wp2_with (go_at_call 77;refine (CF.out _).mono ?_;rintro e6 w6 ⟨rfl,hb6⟩;have HS6:=zAA (HS5.out.below hb6);clear hb6)
     refine (dJ g 0 12 (by decide) _).mono ?_
     rintro e7 w7 ⟨hpe,rfl⟩
     unfold hF at hpe
     subst hpe
     exact ⟨rfl,HS6.out.gb,.inr ⟨by simp,rfl,p+nn+n2,HS6.out.pr⟩⟩
    |true=>
     have hr:=HE.out
     rw [Hd HD.out (by have:=H3.out;omega) (by have:=H3.out;omega) (by have:=H3.out;omega) (by rw [zAE,HM.out]) (by rw [zAE,HM.out];exact hft)] at hr
     rw [zAE,HM.out] at hr
     dsimp only at hr
     rw [zAE] at hr
     have HRR:=zAA hr
     rw [hft] at CF
     clear hft hr
     go_wp2_with (go_at_call 77;refine (CF.out _).mono ?_;rintro e6 w6 ⟨rfl,hb6⟩;have HS6:=zAA (HS5.out.below hb6);have HM6:=zAA (HM5.out.below hb6 HM5.out.lt);have HR6:=zAA (fG HR5.out hb6);clear hb6)
     have hbd:Below w6.heap.size w6 w6.drew:=(Below.refl _ _).drew
     have HSD6:=zAA (HS6.out.below hbd);have HMD6:=zAA (HM6.out.below hbd HM6.out.lt);have HRD6:=zAA (fG HR6.out hbd)
     clear hbd
     refine ai (fun w'=>ab w' g12 55 (dz m (.slice A6 xs.length c6))) 5 (.take 0 (.take 1 (.take 4 (.step 2 (.step 3 .done))))) (by kernel_rfl) (by kernel_rfl) (by simp only [aR.out,Array.getD_eq_getD_getElem?,zAI,zAH,zAG,zAL];rfl) (by simp only [zAN,zAP];rfl) (HMD6.out) (fun PE hPE=>?_)
     iterate 3
      refine ah (v:=?_) rfl (by rfl) ?_ ?_
      rotate_left
      ·intro _ hSw;(try dsimp only at hSw);have a:=hSw;unfold dz at a;have a0:=a.cell 0;have a1:=a.cell 1;have a2:=a.cell 2;have a3:=a.cell 3;have a4:=a.cell 4;have a5:=a.cell 5;have a6:=a.cell 6;(try dsimp only at a0 a1 a2 a3 a4 a5 a6);go_simp;(try with_reducible rfl)
      simp only [zAB,zAD,zAC]
     refine aw (v:=?_) (w':=?_) rfl (by rfl) ?_ ?_ ?_
     rotate_left 2
     ·go_simp;(try (constructor<;>with_reducible rfl))
     ·exact HMD6.out.alloc _
     simp only [zAB,zAD,zAC]
     have hba:Below w6.drew.heap.size w6.drew (w6.drew.alloc (.cells (eT ⟨m,xs,A6,c6⟩).toArray 55)):=(Below.refl _ _).alloc (zAR _) _
     have HSA:=zAA (HSD6.out.below hba);have HMA:=zAA (HMD6.out.below hba HMD6.out.lt);have HRA:=zAA (fG HRD6.out hba)
     have hown:(w6.drew.alloc (.cells (eT ⟨m,xs,A6,c6⟩).toArray 55)).ownsRow w.heap.size 55 7 (.slice Av es.length cv) es.length (av eT es):=HSA.out.rows.head
     refine vf Js rfl (by rfl) rfl rfl hown rfl (news:=eT ⟨m,xs,A6,c6⟩) (m:=1) (by have h:=ab.sl (ab.new w6.drew 55 (eT ⟨m,xs,A6,c6⟩).toArray) 0;exact h) rfl (by intro u hu;simp only [eT,List.mem_cons,List.mem_nil_iff,or_false] at hu;rcases hu with rfl|rfl|rfl|rfl|rfl|rfl|rfl<;>rfl) (by have:=HX.out;omega) (HSA.out.gb.size) ?_
     intro v7 w7 ho7 hg7
     obtain ⟨Ax,cx,hvx⟩:=bj ho7
     subst hvx
     have hms:lN w g hl (.slice A n c) sv (p+nn+n2) x (.slice Ax (es.length+1) cx) (es++[⟨m,xs,A6,c6⟩]) w7:=by
      have hown':=hown
      refine ⟨wS HSA.out.gb hg7 (fun k e=>(hown'.lt k e).1),HSA.out.pr.grown hg7 (bg hown' HSA.out.pr (by decide)),HSA.out.la.grown hg7 (bg hown' HSA.out.la (by decide)),HSA.out.hl,?_⟩
      have hl1:(es++[(⟨m,xs,A6,c6⟩:ea)]).length=es.length+1:=by rw [zAO,zAM]
      refine ap.cons ?_ ?_
      ·rw [hl1,im,gG]
       exact ho7
      ·have he2:iF w.heap.size (es++[(⟨m,xs,A6,c6⟩:ea)])=iF w.heap.size es++om w.heap.size ⟨m,xs,A6,c6⟩:=by unfold iF;rw [List.flatMap_append];simp
       rw [he2]
       have hk:∀R:List a9,ap R (w6.drew.alloc (.cells (eT ⟨m,xs,A6,c6⟩).toArray 55))→(∀r∈R,r.e≠55)→ap R w7:=fun R hR hne r hr=>(hR r hr).kept hg7 (qs hown' (hR r hr) (Ne.symm (hne r hr)))
       exact (hk _ HSA.out.rows.tail (by intro r hr;rcases qn r hr with h|h<;>rw [h]<;>decide)).app (hk _ HRA.out (tH (by decide) (by decide)))
     have HMS:=zAA hms
     have HM7:=zAA (HMA.out.grown hg7 HVN.out)
     refine ⟨HM7.out,?_⟩
     simp only [zAB,zAD,zAC]
     refine hPE _ _ ?_
     clear hPE PE
     simp only [zAF,zAJ]
     clear hms ho7 hg7 hown hba
     unfold eS at CAF
     go_wp2_with (go_at_call 64;refine (CAF.out _).mono ?_;rintro e8 w8 ⟨rfl,hb8⟩;have HS8:=zAA (HMS.out.below hb8);have hla:=HS8.out.la;unfold oP at hla;have z0:=hla.cell 0;have z1:=hla.cell 1;have z2:=hla.cell 2;have z3:=hla.cell 3;have f0:=hla.frozen 0;have f1:=hla.frozen 1;have f2:=hla.frozen 2;have f3:=hla.frozen 3;(try dsimp only at z0 z1 z2 z3 f0 f1 f2 f3);clear hla hb8)
     refine ⟨rfl,?_⟩
     go_wp2_with fail
     go_roundg (8*n+1 - (p+nn+n2))
     case measure=>have:=HPK.out;have:=HNN.out;have:=HEN2.out;omega
     case rel=>
      refine ⟨k,p+nn+n2,ez m,es++[⟨m,xs,A6,c6⟩],by have:=HEN2.out;omega,HEN2.out,zAA (by have:=HK.out;have:=HNN.out;omega),zAA ?_,zAA (HS8.out.last (ez m)),zAA ?_,zAA ?_⟩
      ·rw [HRR.out];simp
      ·rw [gL,zAO,zAM]
       have:=HAD.out;have:=HX.out;have:=H3.out;have:=HDR.out
       omega
      ·intro y hy
       rcases List.mem_append.1 hy with hy|hy
       ·exact HQ.out y hy
       ·rw [List.mem_singleton] at hy
        subst hy
        exact HBL.out
   ·have hr:=HE.out
    rw [I5 HD.out (by have:=H3.out;omega) (by have:=H3.out;omega) (by have:=H3.out;omega) (by rw [zAE,HM.out];exact hee),zAE,HM.out] at hr
    dsimp only at hr
    subst hr
    have HEE:=zAA hee
    have HCE:=zAA (jb hee)
    clear hee
    go_wp2_with fail
    refine (dJ g nb2 er HEE.out _).mono ?_
    rintro e7 w7 ⟨hpe,rfl⟩
    unfold hF at hpe
    subst hpe
    exact ⟨rfl,HS4.out.gb,.inr ⟨HCE.out,rfl,p+nn,HS4.out.pr⟩⟩
  ·have hr:=HE.out
   rw [I3 HD.out he0 he5] at hr
   subst hr
   have hce:jm e=e:=by unfold jm;rw [if_neg he5]
   have HCE:=zAA hce;have HE0:=zAA he0
   have k1:(e==5)=false:=by simpa using he5
   have k2:(e==0)=false:=by simpa using he0
   clear hp8 hce he0 he5
   go_wp2_with fail
   refine (dJ g nb e HE0.out _).mono ?_
   rintro e3 w3 ⟨hpe,rfl⟩
   rw [HCE.out] at hpe
   unfold hF at hpe
   subst hpe
   exact ⟨rfl,HS2.out.gb,.inr ⟨HE0.out,rfl,p,HS2.out.pr⟩⟩
end Go.Proofs.YthhijgcfbjcgiaaGreatDoor
namespace Go.Proofs.YthhijgcfbjcgiaaGreatDoor
open Go Go.RowKit
open List renaming mem_cons→zAA,mem_map→zAB
theorem uS {B B':Nat} {ms:List ea} {W:World} (h:ap (iF B ms) W) (hb:B'≤B):ap (iF B' ms) W:=by
 intro r hr
 obtain ⟨p,hp,hpr⟩:=List.mem_flatMap.1 hr
 have h1:=uH h hp
 rcases zAA.1 hpr with rfl|hpr
 ·exact cO h1.head hb
 ·obtain ⟨b,hbm,rfl⟩:=zAB.1 hpr
  exact cO (h1.tail (Ci B b) (zAB.2 ⟨b,hbm,rfl⟩)) hb
def vY (num qu:Int) (u v:Value):Array Value:= #[.int .i64 num,.int .i64 qu,u,v]
structure oR (w:World) (g h2:Nat) (bv sv:Value) (p:Nat) (lr:a9) (tm ty:Int) (spv:Value) (sp:List UInt8) (v:Value) (gs:List cV) (W:World):Prop where
 gb:w.grownBy W (some g)
 pr:ab W g 77 (cC bv p sv)
 sh:ab W h2 35 #[.int .i64 tm,.int .i64 ty,spv,v]
 h2:w.heap.size≤h2
 rows:ap (⟨w.heap.size,51,4,v,gs.length,av fN gs⟩::⟨w.heap.size,5,1,spv,sp.length,sp.map af⟩::lr::iX w.heap.size gs) W
 le:lr.e=3
theorem x9 {B:Nat} {v spv:Value} {sp:List UInt8} {lr:a9} {gs:List cV} {t:TypeId} (hl:lr.e=3) (h1:t≠51) (h2:t≠5) (h3:t≠3) (h4:t≠55) (h5:t≠93) (h6:t≠189):
  ∀r∈(⟨B,51,4,v,gs.length,av fN gs⟩::⟨B,5,1,spv,sp.length,sp.map af⟩::lr::iX B gs:List a9),r.e≠t:=by
 intro r hr
 rcases zAA.1 hr with rfl|hr
 ·exact Ne.symm h1
 rcases zAA.1 hr with rfl|hr
 ·exact Ne.symm h2
 rcases zAA.1 hr with rfl|hr
 ·rw [hl];exact Ne.symm h3
 ·rcases tF r hr with h|h|h|h<;>rw [h]
  ·exact Ne.symm h2
  ·exact Ne.symm h4
  ·exact Ne.symm h5
  ·exact Ne.symm h6
section
variable {w:World} {g h2:Nat} {bv sv:Value} {p:Nat} {lr:a9} {tm ty:Int} {spv:Value} {sp:List UInt8} {v:Value} {gs:List cV} {W W':World}
theorem oR.go (h:oR w g h2 bv sv p lr tm ty spv sp v gs W) {q:Nat} (hg:W.grownBy W' (some g)) (hb:ab W' g 77 (cC bv q sv)):oR w g h2 bv sv q lr tm ty spv sp v gs W':=
 ⟨h.gb.trans hg,hb,iS h.sh hg (aS h.sh h.pr (by decide)),h.h2,A7 h.rows h.pr hg (x9 h.le (by decide) (by decide) (by decide) (by decide) (by decide) (by decide)),h.le⟩
theorem oR.below (h:oR w g h2 bv sv p lr tm ty spv sp v gs W) (hb:Below W.heap.size W W'):oR w g h2 bv sv p lr tm ty spv sp v gs W':=h.go (dh hb (Nat.le_refl _)) (h.pr.below hb h.pr.lt)
theorem oR.off (h:oR w g h2 bv sv p lr tm ty spv sp v gs W) {k:Nat} {cs:Array Value} {t:TypeId} (hk:ab W k t cs) (ht:t=51∨t=32) (hw:w.heap.size≤k) (hv:∀r∈(⟨w.heap.size,51,4,v,gs.length,av fN gs⟩::⟨w.heap.size,5,1,spv,sp.length,sp.map af⟩::lr::iX w.heap.size gs:List a9),r.v.ownBlock≠some k) (i:Nat) (u:Value):
  oR w g h2 bv sv p lr tm ty spv sp v gs (W.setCell ⟨k,i,none⟩ u):=
 ⟨cX h.gb hw _ _,h.pr.far (p:=⟨k,i,none⟩) (aS h.pr hk (by rcases ht with rfl|rfl<;>decide)) _,h.sh.far (p:=⟨k,i,none⟩) (aS h.sh hk (by rcases ht with rfl|rfl<;>decide)) _,h.h2,fun r hr=>fc (h.rows r hr) ⟨k,i,none⟩ u (hv r hr),h.le⟩
theorem F6 {R:List a9} (h:ap R W) {k:Nat} (hk:W.heap.size≤k):∀r∈R,r.v.ownBlock≠some k:=fun r hr e=>by
 have:=((h r hr).lt k e).2
 omega
end
theorem Jr:eG Tryz.prog 33 51 4 64:= .mk' (z:= .agg #[.int .i64 0,.int .i64 0,.slice none 0 0,.slice none 0 0]) (by kernel_rfl) (by kernel_rfl) rfl (by decide) (by decide)
def IJ (g:Nat) (bv sv:Value) (r:cS×Nat×Int) (w:World) (e:Ending) (w':World):Prop:=
 w.grownBy w' (some g)∧((r.2.2=0∧∃s:bh,e= .returned (eE s)∧s.s=r.1∧nJ s∧ab w' g 77 (cC bv r.2.1 sv)∧ap (oE w.heap.size s) w')∨(r.2.2≠0∧hF r.2.2 e∧∃p',ab w' g 77 (cC bv p' sv)))
theorem Gb (h:Nat) (tm ty:Int) (u v:Value) (tmps:Array Value) (W:World) (hb:ab W h 35 #[.int .i64 tm,.int .i64 ty,u,v]) (t2:tmps.getD 2 undef= .pointer (some ⟨h,0,none⟩)):
  (results Tryz.f48 tmps).run Tryz.prog W= .ok (.agg #[.int .i64 tm,.int .i64 ty,u,v]) W:=by
 have c0:=hb.cell 0;have c1:=hb.cell 1;have c2:=hb.cell 2;have c3:=hb.cell 3
 simp at c0 c1 c2 c3
 have t2':tmps[2]?.getD undef= .pointer (some ⟨h,0,none⟩):=by simpa using t2
 simp [results,Tryz.results48,t2',asAddr,c0,c1,c2,c3,go_sem]
end Go.Proofs.YthhijgcfbjcgiaaGreatDoor
namespace Go.Proofs.YthhijgcfbjcgiaaGreatDoor
open Go Go.RowKit
attribute [local go_sem] Oper.semAt_some
open Go.Lib renaming hid→zAA
open List renaming setIfInBounds_toArray→zAB,set_cons_succ→zAC,set_cons_zero→zAD,drop_succ_cons→zAF,getElem?_cons_succ→zAH,getElem?_cons_zero→zAI,drop_zero→zAK,getElem?_toArray→zAL,mem_cons→zAM,mem_singleton→zAO,map_cons→zAR,map_nil→zAS
open Nat renaming le_refl→zAE
open Go.IntKind renaming wrap_i64→zAG,i64→zAJ
open Bool renaming false_eq_true→zAN
open Go.World renaming ownsRow_nil→zAP
open Option renaming getD_some→zAQ
set_option maxRecDepth 100000 in
set_option maxHeartbeats 16000000 in
theorem zE (g:Nat) (A:Option Addr) (n c:Nat) (l:List UInt8) (p:Nat) (sv:Value) (w:World) (hb:ab w g 77 (cC (.slice A n c) p sv)) (hE:Ae w g A l) (hn:l.length=n) (hsz:n≤2 ^ 40) (hp:p≤8*n):
  Calls Tryz.prog 48 #[.pointer (some ⟨g,0,none⟩)] w (IJ g (.slice A n c) sv (cE l p) w):=by
 have HEV:=zAA hE;have HN:=zAA hn;have HSZ:=zAA hsz
 obtain ⟨r,hr⟩:∃r,cE l p=r:=⟨_,rfl⟩
 rw [hr]
 have HR:=zAA hr
 obtain ⟨h2,hh2⟩:∃h2,w.heap.size=h2:=⟨_,rfl⟩
 have hal:Below w.heap.size w (w.alloc (.cells #[.int .i64 0,.int .i64 0,.slice none 0 0,.slice none 0 0] 35)):=(Below.refl _ _).alloc (zAE _) _
 have hg0:=dh (g:=g) hal (zAE _)
 have hpr0:=hb.alloc (.cells #[.int .i64 0,.int .i64 0,.slice none 0 0,.slice none 0 0] 35)
 have hsh0:ab (w.alloc (.cells #[.int .i64 0,.int .i64 0,.slice none 0 0,.slice none 0 0] 35)) h2 35 #[.int .i64 0,.int .i64 0,.slice none 0 0,.slice none 0 0]:=aD (ab.new _ _ _) hh2
 have C1:=zAA (pZ g A n c l p sv 0 _ hpr0 (HEV.out _ hg0).2.2 hn hsz hp)
 have hwg:= @oN l p 0
 obtain ⟨⟨p1,e1⟩,hw1⟩:∃z,cL l p 0=z:=⟨_,rfl⟩
 rw [hw1] at C1 hwg
 have HW1:=zAA hw1;have HG0:=zAA hg0;have HPR0:=zAA hpr0;have HSH0:=zAA hsh0;have HWG:=zAA hwg;have HH2:=zAA hh2
 clear hb hE hr hal hg0 hpr0 hsh0 hw1 hwg
 go_enter Tryz.func48,Tryz.ntmps48
 go_wp2_with fail
 (try rw [hh2])
 clear hh2
 generalize w.alloc (.cells #[.int .i64 0,.int .i64 0,.slice none 0 0,.slice none 0 0] 35)=W1 at C1 HG0 HPR0 HSH0⊢
 refine C1.out.mono ?_
 rintro e w2 ⟨hg2,(⟨he1,⟨u,rfl⟩,hb2⟩|⟨he1,hpe,p',hb2⟩)⟩
 case inr=>
  have hr:=HR.out
  unfold cE at hr
  rw [HW1.out] at hr
  dsimp only at hr he1 hpe
  rw [if_neg he1] at hr
  subst hr
  unfold hF at hpe
  subst hpe
  exact ⟨rfl,HG0.out.trans hg2,.inr ⟨he1,rfl,p',hb2⟩⟩
 dsimp only at he1 hb2
 subst he1
 have HG2:=zAA (HG0.out.trans hg2)
 have HSH2:=zAA (iS HSH0.out hg2 (aS HSH0.out HPR0.out (by decide)))
 have HB2:=zAA hb2
 have hp1:p1≤8*n:=by have:=(HWG.out rfl).2;omega
 obtain ⟨⟨⟨tm,ty,sp⟩,p2,e2⟩,hh⟩:∃z,eo l p1=z:=⟨_,rfl⟩
 have CG:=zAA (fun W (h:Sl W A (l.map af))=>Hx A n c l p1 W h HN.out HSZ.out hp1)
 have hgot:= @wY l p1
 rw [hh] at CG hgot
 have HH:=zAA hh;have HGOT:=zAA hgot;have HP1:=zAA hp1
 clear hg2 hb2 hh hgot hp1 C1 HSH0 HPR0 HG0 HWG
 go_upto_region 2 with fail
 go_cut [3,4,5] (fun s3 s4 s5 wx=>∃(g3:Nat) (A6:Option Addr) (c6:Nat),s3= .pointer (some ⟨g3,0,none⟩)∧s4= .int .i64 (jO (p2,e2) p1)∧s5= .int .i64 e2∧Hid (w.grownBy wx (some g))∧Hid (ab wx g 77 (cC (.slice A n c) p1 sv))∧Hid (ab wx h2 35 #[.int .i64 0,.int .i64 0,.slice none 0 0,.slice none 0 0])∧Hid (ab wx g3 32 (dX tm ty (.slice A6 sp.length c6)))∧Hid (wx.ownsRow w.heap.size 5 1 (.slice A6 sp.length c6) sp.length (sp.map af)))
 case first=>
  have hbd:Below w2.heap.size w2 w2.drew:=(Below.refl _ _).drew
  have HBD:=zAA (HB2.out.below hbd HB2.out.lt);have HSD:=zAA (HSH2.out.below hbd HSH2.out.lt);have HGD:=zAA (HG2.out.trans (lF w2 g))
  have HSL:=zAA ((HEV.out _ HGD.out).2.2)
  have hge:w.heap.size≤w2.drew.heap.size:=HGD.out.size
  have HGE:=zAA hge
  clear hbd hge
  refine ai (fun w'=>ab w' g 77 (cC (.slice A n c) p1 sv)) 18 (.take 0 (.take 1 (.take 2 (.take 3 (.take 4 (.take 5 (.take 6 (.take 7 (.take 8 (.take 9 (.fork 10 (.take 11 (.take 12 (.take 13 (.take 14 (.step 15 (.step 16 (.step 17 (.done)))))))) 15 (.step 10 (.take 11 (.take 12 (.take 13 (.take 14 (.step 16 (.step 17 (.done))))))))))))))))))) (by kernel_rfl) (by kernel_rfl) (by simp only [aR.out,Array.getD_eq_getD_getElem?,zAL,zAI,zAH,zAQ];rfl) (by simp only [zAR,zAS];rfl) (HBD.out) (fun PE hPE=>?_)
  iterate 10
   refine ah (v:=?_) rfl (by rfl) ?_ ?_
   rotate_left
   ·intro _ hSw;(try dsimp only at hSw);have a:=hSw;unfold cC at a;have a0:=a.cell 0;have a1:=a.cell 1;(try dsimp only at a0 a1);go_simp;(try with_reducible rfl)
   simp only [zAB,zAD,zAC]
  refine ⟨?_,?_⟩
  ·refine aV (f:=86) rfl (by rfl) (by first|(go_simp;done)|(go_simp;rfl)) (CG.out _ HSL.out) ?_
   rintro e4 w4 ⟨v6,rfl,hb4,hrow⟩
   obtain ⟨A6,c6,hv6⟩:=bj hrow
   subst hv6
   have HB4:=zAA (HBD.out.below hb4 HBD.out.lt);have HS4:=zAA (HSD.out.below hb4 HSD.out.lt);have HG4:=zAA (HGD.out.trans (dh hb4 (zAE _)))
   have HRW:=zAA (cO hrow HGE.out)
   refine ⟨_,rfl,_,fun _ h=>h,HB4.out,?_⟩
   simp only [zAB,zAD,zAC]
   iterate 4
    refine ah (v:=?_) rfl (by rfl) ?_ ?_
    rotate_left
    ·intro _ hSw;(try dsimp only at hSw);go_simp;(try with_reducible rfl)
    simp only [zAB,zAD,zAC]
   clear hb4 hrow
   obtain ⟨g12,hg12⟩:∃g12,w4.heap.size=g12:=⟨_,rfl⟩
   refine aw (v:=?_) (w':=?_) rfl (by rfl) ?_ ?_ ?_
   rotate_left 2
   ·go_simp;(try (constructor<;>with_reducible rfl))
   ·exact HB4.out.alloc _
   simp only [zAB,zAD,zAC]
   refine bG _ (w':=?_) rfl (by rfl) ?_ ?_ ?_
   rotate_left 1
   ·go_simp;(first|(with_reducible rfl)|(constructor<;>with_reducible rfl)|skip)
   ·exact HB4.out.alloc _
   refine aw (v:=?_) (w':=?_) rfl (by rfl) ?_ ?_ ?_
   rotate_left 2
   ·go_simp;(try (constructor<;>with_reducible rfl))
   ·exact HB4.out.alloc _
   simp only [zAB,zAD,zAC]
   refine hPE _ _ ?_
   clear hPE PE
   simp only [zAF,zAK]
   go_wp2_with fail
   refine ⟨rfl,?_⟩
   go_wp2_with fail
   go_meet
   case rel=>
    have hbe:Below w4.heap.size w4 (w4.alloc (.cells (dX tm ty (.slice A6 sp.length c6)) 32)):=(Below.refl _ _).alloc (zAE _) _
    exact ⟨g12,A6,c6,rfl,rfl,rfl,zAA (HG4.out.trans (dh hbe (zAE _))),zAA (HB4.out.below hbe HB4.out.lt),zAA (HS4.out.below hbe HS4.out.lt),zAA (aD (ab.new _ _ _) hg12),zAA (cG HRW.out hbe (zAE _))⟩
  ·obtain ⟨g12,hg12⟩:∃g12,w2.heap.size=g12:=⟨_,rfl⟩
   refine aw (v:=?_) (w':=?_) rfl (by rfl) ?_ ?_ ?_
   rotate_left 2
   ·go_simp;(try (constructor<;>with_reducible rfl))
   ·exact HBD.out.alloc _
   simp only [zAB,zAD,zAC]
   have hba:Below w2.drew.heap.size w2.drew (w2.drew.alloc (.cells (dX 0 0 (.slice none 0 0)) 32)):=(Below.refl _ _).alloc (zAE _) _
   have hM0:ab (w2.drew.alloc (.cells (dX 0 0 (.slice none 0 0)) 32)) g12 32 (dX 0 0 (.slice none 0 0)):=aD (ab.new _ _ _) hg12
   refine aV (f:=86) rfl (by rfl) (by first|(go_simp;done)|(go_simp;rfl)) (CG.out _ (HSL.out.below hba)) ?_
   rintro e4 w4 ⟨v6,rfl,hb4,hrow⟩
   obtain ⟨A6,c6,hv6⟩:=bj hrow
   subst hv6
   have hM4:=hM0.below hb4 hM0.lt
   have HB4:=zAA ((HBD.out.below hba HBD.out.lt).below hb4 (HBD.out.below hba HBD.out.lt).lt)
   have HS4:=zAA ((HSD.out.below hba HSD.out.lt).below hb4 (HSD.out.below hba HSD.out.lt).lt)
   have HG4:=zAA ((HGD.out.trans (dh hba (zAE _))).trans (dh hb4 (zAE _)))
   have HRW:=zAA (cO hrow (Nat.le_trans HGE.out hba.size))
   refine ⟨_,rfl,_,fun _ h=>h,HB4.out,?_⟩
   simp only [zAB,zAD,zAC]
   iterate 4
    refine ah (v:=?_) rfl (by rfl) ?_ ?_
    rotate_left
    ·intro _ hSw;(try dsimp only at hSw);go_simp;(try with_reducible rfl)
    simp only [zAB,zAD,zAC]
   have HM4:=zAA hM4
   have k0:=hM4.frozen 0;have k1:=hM4.frozen 1;have k2:=hM4.frozen 2
   unfold dX at hM4
   have j0:=hM4.cell 0;have j1:=hM4.cell 1;have j2:=hM4.cell 2
   simp at j0 j1 j2
   have hw12:w.heap.size≤g12:=by rw [←hg12];exact HGE.out
   have hne1:g≠g12:=aS HB4.out HM4.out (by decide)
   have hne2:h2≠g12:=aS HS4.out HM4.out (by decide)
   have hrne:=bg HRW.out HM4.out (by decide)
   have hmf:=((HM4.out.set_ 0 (.int .i64 tm)).set_ 1 (.int .i64 ty)).set_ 2 (.slice A6 sp.length c6)
   unfold dX at hmf
   simp only [zAB,zAD,zAC] at hmf
   have HMF:=zAA hmf
   have HBF:=zAA (((HB4.out.far (p:=⟨g12,0,none⟩) hne1 (.int .i64 tm)).far (p:=⟨g12,1,none⟩) hne1 (.int .i64 ty)).far (p:=⟨g12,2,none⟩) hne1 (.slice A6 sp.length c6))
   have HSF:=zAA (((HS4.out.far (p:=⟨g12,0,none⟩) hne2 (.int .i64 tm)).far (p:=⟨g12,1,none⟩) hne2 (.int .i64 ty)).far (p:=⟨g12,2,none⟩) hne2 (.slice A6 sp.length c6))
   have HGF:=zAA (cX (cX (cX HG4.out hw12 0 (.int .i64 tm)) hw12 1 (.int .i64 ty)) hw12 2 (.slice A6 sp.length c6))
   have HRF:=zAA (cM (cM (cM HRW.out hrne 0 (.int .i64 tm)) hrne 1 (.int .i64 ty)) hrne 2 (.slice A6 sp.length c6))
   clear hb4 hrow hM0 hM4 hba hmf hrne hne1 hne2 hw12
   refine bG _ (w':=?_) rfl (by rfl) ?_ ?_ ?_
   rotate_left 1
   ·go_simp;(first|(with_reducible rfl)|(constructor<;>with_reducible rfl)|skip)
   ·exact HBF.out
   refine aw (v:=?_) (w':=?_) rfl (by rfl) ?_ ?_ ?_
   rotate_left 2
   ·go_simp;(try (constructor<;>with_reducible rfl))
   ·exact HBF.out
   simp only [zAB,zAD,zAC]
   refine hPE _ _ ?_
   clear hPE PE
   simp only [zAF,zAK]
   go_wp2_with fail
   refine ⟨rfl,?_⟩
   go_wp2_with fail
   go_meet
   case rel=>exact ⟨g12,A6,c6,rfl,rfl,rfl,HGF,HBF,HSF,HMF,HRF⟩
 obtain ⟨g3,A6,c6,rfl,rfl,rfl,HG4,HB4,HS4,HM4,HRW⟩:=hcut
 have hr:=HR.out
 unfold cE at hr
 rw [HW1.out] at hr
 dsimp only at hr
 rw [if_pos rfl,HH.out] at hr
 dsimp only at hr
 by_cases he2:e2=0
 case neg=>
  rw [if_neg he2] at hr
  subst hr
  have HE2:=zAA he2;have HCE:=zAA (jb he2)
  generalize jO (p2,e2) p1=mm
  clear he2
  go_wp2_with fail
  refine (dJ g mm e2 HE2.out _).mono ?_
  rintro e7 w7 ⟨hpe,rfl⟩
  unfold hF at hpe
  subst hpe
  exact ⟨rfl,HG4.out,.inr ⟨HCE.out,rfl,p1,HB4.out⟩⟩
 subst he2
 rw [if_pos rfl] at hr
 obtain ⟨hdok,hp2e,hp2⟩:=HGOT.out rfl
 (try dsimp only at hdok hp2e hp2)
 rw [hn] at hp2
 have hmy:jO (p2,0) p1=(p2:Int) - (p1:Int):=by unfold jO;rw [if_pos rfl]
 rw [hmy]
 have hwm:zAJ.wrap ((p1:Int)+((p2:Int) - (p1:Int)))=(p1:Int)+((p2:Int) - (p1:Int)):=by have:=HP1.out;have:=HSZ.out;rw [zAG];omega
 have HWM:=zAA hwm
 obtain ⟨f,hf⟩:∃f,fg ty=f:=⟨_,rfl⟩
 rw [hf] at hr
 have hf01:f=0∨f=1:=by rw [←hf];unfold fg;omega
 have HRR:=zAA hr;have HF:=zAA hf;have HF01:=zAA hf01;have HP2:=zAA hp2
 clear hr hdok hp2e hmy hwm hf01 hp2
 go_wp2_with fail
 refine (eW g (.slice A n c) sv p1 ((p2:Int) - (p1:Int)) _ HB4.out HWM.out).mono ?_
 rintro e5 w5 ⟨⟨u5,rfl⟩,hw5⟩
 have hb5:=mh HB4.out p2
 have hs5:=HS4.out.far (p:=⟨g,1,none⟩) (aS HS4.out HB4.out (by decide)) (.int .i64 (p2:Int))
 have hm5:=HM4.out.far (p:=⟨g,1,none⟩) (aS HM4.out HB4.out (by decide)) (.int .i64 (p2:Int))
 have hr5:=cM HRW.out (bg HRW.out HB4.out (by decide)) 1 (.int .i64 (p2:Int))
 have hg5:=HG4.out.trans (gO _ g 1 (.int .i64 (p2:Int)))
 rw [show (p1:Int)+((p2:Int) - (p1:Int))=(p2:Int) by omega] at hw5
 rw [←hw5] at hb5 hs5 hm5 hr5 hg5
 clear hw5
 have HB5:=zAA hb5;have HS5:=zAA hs5;have HM5:=zAA hm5;have HR5:=zAA hr5;have HG5:=zAA hg5
 have hm6:=hm5
 unfold dX at hm6
 have j0:=hm6.cell 0;have j1:=hm6.cell 1;have j2:=hm6.cell 2
 have k0:=hs5.cell 0;have k1:=hs5.cell 1;have k2:=hs5.cell 2;have k3:=hs5.frozen 0;have k4:=hs5.frozen 1;have k5:=hs5.frozen 2
 (try dsimp only at j0 j1 j2 k0 k1 k2 k3 k4 k5)
 have hne3:g3≠h2:=aS hm5 hs5 (by decide)
 have hm7:=((hm6.far (p:=⟨h2,0,none⟩) hne3 (.int .i64 tm)).far (p:=⟨h2,1,none⟩) hne3 (.int .i64 ty)).far (p:=⟨h2,2,none⟩) hne3 (.slice A6 sp.length c6)
 have i0:=hm7.cell 0;have i1:=hm7.cell 1;have i2:=hm7.cell 2
 (try dsimp only at i0 i1 i2)
 have hneg:g≠h2:=aS hb5 hs5 (by decide)
 have hhw:w.heap.size≤h2:=by rw [HH2.out];exact zAE _
 have hrn:=bg hr5 hs5 (by decide)
 have hs7:=((hs5.set_ 0 (.int .i64 tm)).set_ 1 (.int .i64 ty)).set_ 2 (.slice A6 sp.length c6)
 simp only [zAB,zAD,zAC] at hs7
 have hst:oR w g h2 (.slice A n c) sv p2 ⟨w.heap.size,3,1,.slice none 0 0,0,[]⟩ tm ty (.slice A6 sp.length c6) sp (.slice none 0 0) [] (((w5.setCell ⟨h2,0,none⟩ (.int .i64 tm)).setCell ⟨h2,1,none⟩ (.int .i64 ty)).setCell ⟨h2,2,none⟩ (.slice A6 sp.length c6)):=
  ⟨cX (cX (cX hg5 hhw 0 _) hhw 1 _) hhw 2 _,((hb5.far (p:=⟨h2,0,none⟩) hneg _).far (p:=⟨h2,1,none⟩) hneg _).far (p:=⟨h2,2,none⟩) hneg _,hs7,hhw,
   ap.cons (zAP _ _ _ _) (ap.cons (cM (cM (cM hr5 hrn 0 _) hrn 1 _) hrn 2 _) (ap.cons (zAP _ _ _ _) (aE _))),rfl⟩
 have HST:=zAA hst
 have CFM:=zAA (fun W=>sG tm ty A6 sp.length c6 W)
 have CGR:=zAA (fun W=>lY f HF01.out W)
 rw [hf] at CFM
 clear hst hs7 hrn hneg hm7 hm6 hb5 hs5 hm5 hr5 hg5 hne3 hf HG5 HR5 HM5 HS5 HB5 HRW HM4 HS4 HB4 HG4
 go_wp2_with (first|(go_at_call 37;refine (CFM.out _).mono ?_;rintro e6 w6 ⟨rfl,hb6⟩;have HS6:=zAA (HST.out.below hb6);clear hb6)|(go_at_call 38;refine (CGR.out _).mono ?_;rintro e7 w7 ⟨Al,cl,rfl,hol,hb7⟩;have HS7:=zAA (HS6.out.below hb7);have HOL:=zAA (cO hol HS6.out.gb.size);clear hol hb7))
 clear HST HS6 CFM CGR i0 i1 i2 j0 j1 j2 k0 k1 k2 k3 k4 k5
 obtain ⟨L,hL⟩:∃L,(aQ f).length=L:=⟨_,rfl⟩
 have hst8:oR w g h2 (.slice A n c) sv p2 ⟨w.heap.size,3,1,.slice Al L cl,L,(aQ f).map aY⟩ tm ty (.slice A6 sp.length c6) sp (.slice none 0 0) [] w7:=
  ⟨HS7.out.gb,HS7.out.pr,HS7.out.sh,HS7.out.h2,ap.cons HS7.out.rows.head (ap.cons HS7.out.rows.tail.head (ap.cons (by have h:=HOL.out;rw [hL] at h;exact h) (aE _))),rfl⟩
 have HS8:=zAA hst8
 have HL:=zAA hL
 have hL12:L≤12:=by rw [←hL];exact ky f
 have HL12:=zAA hL12
 rw [hL]
 clear hst8 HS7 HOL hL hL12
 go_loopg [46] L (fun gk i=>fun wr=>∃(j q:Nat) (gs:List cV) (v:Value),j+gk=L∧i= .int .i64 (j:Int)∧q≤8*n∧gs.length=j∧Hid (oR w g h2 (.slice A n c) sv q ⟨w.heap.size,3,1,.slice Al L cl,L,(aQ f).map aY⟩ tm ty (.slice A6 sp.length c6) sp v gs wr)∧
  Hid (dk l f (aQ f) p2=(gs.map (·.g)++(dk l f ((aQ f).drop j) q).1,(dk l f ((aQ f).drop j) q).2.1,(dk l f ((aQ f).drop j) q).2.2))∧Hid (∀x∈gs,vV x))
 case atStart=>exact ⟨0,p2,[],.slice none 0 0,by omega,rfl,HP2.out,rfl,HS8,zAA rfl,zAA (fun x hx=>by cases hx)⟩
 case round=>
  obtain ⟨j,q,gs,v,hj,rfl,hq8,hgl,HSJ,HEQ,HGE⟩:=hrel
  have HGL:=zAA hgl
  clear hgl
  obtain ⟨Av,cv,hv⟩:=bj HSJ.out.rows.head
  dsimp only at hv
  subst hv
  cases gk with
  |zero=>
   have hjL:j=L:=by omega
   have hlt:¬((j:Int)<(L:Int)):=by omega
   have heq:=HEQ.out
   rw [hjL,List.drop_of_length_le (by rw [HL.out];exact zAE _)] at heq
   have hr:=HRR.out
   rw [heq] at hr
   simp only [dk,List.append_nil] at hr
   simp only [if_true] at hr
   have HRF:=zAA hr
   have hsh:=HSJ.out.sh
   have k0:=hsh.cell 0;have k1:=hsh.cell 1;have k2:=hsh.cell 2;have k3:=hsh.cell 3;have f0:=hsh.frozen 0;have f1:=hsh.frozen 1;have f2:=hsh.frozen 2;have f3:=hsh.frozen 3
   (try dsimp only at k0 k1 k2 k3 f0 f1 f2 f3)
   clear hr heq hsh hj hjL
   go_wp2_with fail
   have hs9:=(((HSJ.out.sh.set_ 0 (.int .i64 tm)).set_ 1 (.int .i64 ty)).set_ 2 (.slice A6 sp.length c6)).set_ 3 (.slice Av gs.length cv)
   simp only [zAB,zAD,zAC] at hs9
   have hne9:g≠h2:=aS HSJ.out.pr HSJ.out.sh (by decide)
   have hrn9:∀r∈(⟨w.heap.size,51,4,.slice Av gs.length cv,gs.length,av fN gs⟩::⟨w.heap.size,5,1,.slice A6 sp.length c6,sp.length,sp.map af⟩::⟨w.heap.size,3,1,.slice Al L cl,L,(aQ f).map aY⟩::iX w.heap.size gs:List a9),r.v.ownBlock≠some h2:=fun r hr=>bg (HSJ.out.rows r hr) HSJ.out.sh (x9 rfl (by decide) (by decide) (by decide) (by decide) (by decide) (by decide) r hr)
   have hrows:ap (⟨w.heap.size,51,4,.slice Av gs.length cv,gs.length,av fN gs⟩::⟨w.heap.size,5,1,.slice A6 sp.length c6,sp.length,sp.map af⟩::⟨w.heap.size,3,1,.slice Al L cl,L,(aQ f).map aY⟩::iX w.heap.size gs) ((((wr.setCell ⟨h2,0,none⟩ (.int .i64 tm)).setCell ⟨h2,1,none⟩ (.int .i64 ty)).setCell ⟨h2,2,none⟩ (.slice A6 sp.length c6)).setCell ⟨h2,3,none⟩ (.slice Av gs.length cv)):=
    fun r hr=>cM (cM (cM (cM (HSJ.out.rows r hr) (hrn9 r hr) 0 _) (hrn9 r hr) 1 _) (hrn9 r hr) 2 _) (hrn9 r hr) 3 _
   refine bodyPost_ret (Gb h2 tm ty (.slice A6 sp.length c6) (.slice Av gs.length cv) _ _ hs9 rfl) rfl ⟨cX (cX (cX (cX HSJ.out.gb HSJ.out.h2 0 _) HSJ.out.h2 1 _) HSJ.out.h2 2 _) HSJ.out.h2 3 _,.inl ⟨by rw [←HRF.out],⟨tm,ty,sp,A6,c6,gs,Av,cv⟩,rfl,by rw [←HRF.out];rfl,HGE.out,?_,?_⟩⟩
   ·rw [←HRF.out]
    exact (((HSJ.out.pr.far (p:=⟨h2,0,none⟩) hne9 _).far (p:=⟨h2,1,none⟩) hne9 _).far (p:=⟨h2,2,none⟩) hne9 _).far (p:=⟨h2,3,none⟩) hne9 _
   ·exact ap.cons hrows.tail.head (ap.cons hrows.head hrows.tail.tail.tail)
  |succ gk=>
   have hlt:((j:Int)<(L:Int)):=by omega
   have hj0:¬((j:Int)<0):=by omega
   have hjl:j<(aQ f).length:=by rw [HL.out];omega
   obtain ⟨nm,hnm⟩:∃x,(aQ f)[j]=x:=⟨_,rfl⟩
   have hnmm:nm∈aQ f:=by rw [←hnm];exact List.getElem_mem hjl
   obtain ⟨ad,rfl,_,hc⟩:=(jc HSJ.out.rows.tail.tail.head).int j hjl
   rw [hnm] at hc
   have hdrop:(aQ f).drop j=nm::(aQ f).drop (j+1):=by rw [←hnm];exact List.drop_eq_getElem_cons hjl
   have heq:=HEQ.out
   rw [hdrop,dk] at heq
   dsimp only at heq
   have HEJ:=zAA heq
   have C1:=zAA (pZ g A n c l q sv nm wr HSJ.out.pr (HEV.out _ HSJ.out.gb).2.2 hn hsz hq8)
   have hwg:= @oN l q nm
   obtain ⟨⟨q1,e1⟩,hw1⟩:∃z,cL l q nm=z:=⟨_,rfl⟩
   rw [hw1] at C1 hwg
   have HW1':=zAA hw1;have HWG:=zAA hwg;have HNM:=zAA hnmm;have HJ:=zAA hj
   have hwj:zAJ.wrap ((j:Int)+1)=(j:Int)+1:=by have:=HL12.out;rw [zAG];omega
   have HFIN:Hid (∀e:Int,e≠0→(ed l f nm q).2.2=e→r=(⟨⟨0,0,[]⟩,[]⟩,0,e)):=zAA (fun e he hg=>by
    have hr:=HRR.out
    rw [HEJ.out,hg,if_neg he] at hr
    dsimp only at hr
    rw [if_neg he] at hr
    exact hr.symm)
   clear hj hjl hnm hdrop heq hw1 hwg hq8 hnmm HEQ
   go_wp2_with fail
   refine C1.out.mono ?_
   rintro e w2 ⟨hg2,(⟨he1,⟨u2,rfl⟩,hb2⟩|⟨he1,hpe,p',hb2⟩)⟩
   case inr=>
    have hgr:(ed l f nm q).2.2=e1:=by
     unfold ed
     rw [HW1'.out]
     dsimp only at he1⊢
     rw [if_neg he1]
    have hr:=HFIN.out e1 he1 hgr
    subst hr
    unfold hF at hpe
    subst hpe
    exact ⟨rfl,HSJ.out.gb.trans hg2,.inr ⟨he1,rfl,p',hb2⟩⟩
   dsimp only at he1 hb2
   subst he1
   have HS2:=zAA (HSJ.out.go hg2 hb2)
   have hq1:q1≤8*n:=by have:=(HWG.out rfl).2;rw [hn] at this;exact this
   obtain ⟨⟨⟨qu,gsp⟩,q2,e2⟩,hh⟩:∃z,dH l q1=z:=⟨_,rfl⟩
   have CG:=zAA (fun W (h:Sl W A (l.map af))=>DE A n c l q1 W h HN.out HSZ.out hq1)
   have hgot:= @rq l q1
   rw [hh] at CG hgot
   have HH3:=zAA hh;have HGOT3:=zAA hgot;have HQ1:=zAA hq1
   clear hg2 hb2 hh hgot hq1 C1 HWG hc HSJ
   go_wp2_with fail
   obtain ⟨g11,hg11⟩:∃g11,w2.heap.size=g11:=⟨_,rfl⟩
   have hal:Below w2.heap.size w2 (w2.alloc (.cells (vY nm 0 (.slice none 0 0) (.slice none 0 0)) 51)).drew:=((Below.refl _ _).alloc (zAE _) _).drew
   have HS3:=zAA (HS2.out.below hal)
   have HB3:Hid (ab (w2.alloc (.cells (vY nm 0 (.slice none 0 0) (.slice none 0 0)) 51)).drew g11 51 (vY nm 0 (.slice none 0 0) (.slice none 0 0))):=zAA (aD (ab.new _ _ _) hg11)
   have HRN:=zAA (F6 HS2.out.rows (Nat.le_of_eq hg11))
   have HW11:Hid (w.heap.size≤g11):=zAA (by rw [←hg11];exact HS2.out.gb.size)
   have HSZ3:Hid (g11<(w2.alloc (.cells (vY nm 0 (.slice none 0 0) (.slice none 0 0)) 51)).drew.heap.size):=zAA HB3.out.lt
   clear hal HS2
   have HSC:=zAA (aa.cons HS3.out.pr (ag _))
   refine ai (fun w'=>aa [(g,77,cC (.slice A n c) q1 sv)] w') 21 (.take 0 (.take 1 (.take 2 (.take 3 (.take 4 (.take 5 (.take 6 (.take 7 (.take 8 (.take 9 (.step 10 (.take 11 (.take 12 (.take 13 (.take 14 (.take 15 (.take 16 (.step 17 (.take 18 (.step 19 (.step 20 .done))))))))))))))))))))) (by kernel_rfl) (by kernel_rfl) (by simp only [aR.out,Array.getD_eq_getD_getElem?,zAL,zAI,zAH,zAQ];rfl) (by simp only [zAR,zAS];rfl) (HSC.out) (fun PE hPE=>?_)
   iterate 10
    refine ah (v:=?_) rfl (by rfl) ?_ ?_
    rotate_left
    ·intro _ hSw;(try dsimp only at hSw);have a:=hSw.head;unfold cC at a;have a0:=a.cell 0;have a1:=a.cell 1;(try dsimp only at a0 a1);go_simp;(try with_reducible rfl)
    simp only [zAB,zAD,zAC]
   refine aV (f:=88) rfl (by rfl) (by first|(go_simp;done)|(go_simp;rfl)) (CG.out _ (HEV.out _ HS3.out.gb).2.2) ?_
   rintro e4 w4 ⟨v6,rfl,hb4,hrow⟩
   obtain ⟨As,cs,hv6⟩:=bj hrow
   subst hv6
   have HS4:=zAA (HS3.out.below hb4);have HB4:=zAA (HB3.out.below hb4 HB3.out.lt)
   have hsne:(Value.slice As gsp.length cs).ownBlock≠some g11:=fun e=>absurd (Nat.lt_of_lt_of_le HSZ3.out (hrow.lt g11 e).1) (Nat.lt_irrefl _)
   have HSNE:=zAA hsne
   have HRW4:=zAA (cO hrow HS3.out.gb.size)
   have HSC4:=zAA (HSC.out.below hb4)
   clear hb4 hrow hsne HS3 HB3 HSC HSZ3
   refine ⟨_,rfl,_,fun _ h=>h,HSC4.out,?_⟩
   simp only [zAB,zAD,zAC]
   iterate 6
    refine ah (v:=?_) rfl (by rfl) ?_ ?_
    rotate_left
    ·intro _ hSw;(try dsimp only at hSw);go_simp;(try with_reducible rfl)
    simp only [zAB,zAD,zAC]
   have hb4':=HB4.out
   unfold vY at hb4'
   have k1:=hb4'.cell 1;have k2:=hb4'.cell 2;have k3:=hb4'.cell 3;have f1:=hb4'.frozen 1;have f2:=hb4'.frozen 2;have f3:=hb4'.frozen 3
   (try dsimp only at k1 k2 k3 f1 f2 f3)
   have HB5:=zAA (HB4.out.set_ 1 (.int .i64 qu))
   have HS5:=zAA (HS4.out.off HB4.out (.inl rfl) HW11.out HRN.out 1 (.int .i64 qu))
   have HRW5:=zAA (cM HRW4.out HSNE.out 1 (.int .i64 qu))
   have hb6':=HB5.out.set_ 2 (.slice As gsp.length cs)
   have hs6:=HS5.out.off HB5.out (.inl rfl) HW11.out HRN.out 2 (.slice As gsp.length cs)
   have hrw6:=cM HRW5.out HSNE.out 2 (.slice As gsp.length cs)
   unfold vY at hb6'
   simp only [zAB,zAD,zAC] at hb6'
   have HB6:=zAA hb6';have HS6:=zAA hs6;have HRW6:=zAA hrw6
   clear hb4' hb6' hs6 hrw6
   refine bG _ (w':=?_) rfl (by rfl) ?_ ?_ ?_
   rotate_left 1
   ·go_simp;(first|(with_reducible rfl)|(constructor<;>with_reducible rfl)|skip)
   ·exact aa.cons HS5.out.pr (ag _)
   refine ah (v:=?_) rfl (by rfl) ?_ ?_
   rotate_left
   ·intro _ hSw;(try dsimp only at hSw);go_simp;(try with_reducible rfl)
   simp only [zAB,zAD,zAC]
   refine bG _ (w':=?_) rfl (by rfl) ?_ ?_ ?_
   rotate_left 1
   ·go_simp;(first|(with_reducible rfl)|(constructor<;>with_reducible rfl)|skip)
   ·exact aa.cons HS6.out.pr (ag _)
   refine aw (v:=?_) (w':=?_) rfl (by rfl) ?_ ?_ ?_
   rotate_left 2
   ·go_simp;(try (constructor<;>with_reducible rfl))
   ·exact aa.cons HS6.out.pr (ag _)
   simp only [zAB,zAD,zAC]
   refine hPE _ _ ?_
   clear hPE PE
   simp only [zAF,zAK]
   go_wp2_with fail
   refine ⟨rfl,?_⟩
   clear k1 k2 k3 f1 f2 HSC4 HB4 HS4 HRW4 HB5 HS5 HRW5
   generalize (w4.setCell ⟨g11,1,none⟩ (.int .i64 qu)).setCell ⟨g11,2,none⟩ (.slice As gsp.length cs)=w5 at HB6 HS6 HRW6 f3⊢
   by_cases he2:e2=0
   case neg=>
    have hgr:(ed l f nm q).2.2=jm e2:=by
     unfold ed
     rw [HW1'.out]
     dsimp only
     rw [if_pos rfl,HH3.out]
     dsimp only
     rw [if_neg he2]
    have hr:=HFIN.out (jm e2) (jb he2) hgr
    subst hr
    have HE2:=zAA he2;have HCE:=zAA (jb he2)
    generalize jO (q2,e2) q1=mm
    clear he2 hgr
    go_wp2_with fail
    refine (dJ g mm e2 HE2.out _).mono ?_
    rintro e7 w7 ⟨hpe,rfl⟩
    unfold hF at hpe
    subst hpe
    exact ⟨rfl,HS6.out.gb,.inr ⟨HCE.out,rfl,q1,HS6.out.pr⟩⟩
   subst he2
   have hq2:=(HGOT3.out rfl).2.2.2.2
   (try dsimp only at hq2)
   rw [hn] at hq2
   have hmy:jO (q2,0) q1=(q2:Int) - (q1:Int):=by unfold jO;rw [if_pos rfl]
   rw [hmy]
   have hwm:zAJ.wrap ((q1:Int)+((q2:Int) - (q1:Int)))=(q1:Int)+((q2:Int) - (q1:Int)):=by have:=HQ1.out;have:=HSZ.out;rw [zAG];omega
   have HWM2:=zAA hwm
   have HQ2:=zAA hq2
   clear hmy hwm hq2
   go_wp2_with fail
   refine (eW g (.slice A n c) sv q1 ((q2:Int) - (q1:Int)) _ HS6.out.pr HWM2.out).mono ?_
   rintro e5 w6 ⟨⟨u5,rfl⟩,hw6⟩
   rw [show (q1:Int)+((q2:Int) - (q1:Int))=(q2:Int) by omega] at hw6
   have hg67:w5.grownBy w6 (some g):=by rw [hw6];exact gO _ _ _ _
   have HS7:=zAA (HS6.out.go hg67 (show ab w6 g 77 (cC (.slice A n c) q2 sv) by rw [hw6];exact mh HS6.out.pr q2))
   have HB7:=zAA (iS HB6.out hg67 (aS HB6.out HS6.out.pr (by decide)))
   have HRW7:=zAA (se HRW6.out hg67 HS6.out.pr (by decide))
   clear hw6 hg67 f3 HB6 HS6 HRW6
   have CM:=zAA (vS g A n c l q2 sv f nm w6 HS7.out.pr (HEV.out.to HS7.out.gb) HN.out HSZ.out HQ2.out HF01.out HNM.out)
   obtain ⟨⟨ml,q3,e3⟩,hm3⟩:∃z,ba l f nm (8*l.length+1) q2 b9=z:=⟨_,rfl⟩
   have hgot3:= @oo l f nm (8*l.length+1) q2 b9 (by rw [hn];exact HQ2.out) (by decide)
   rw [hm3] at CM hgot3
   have HM3:=zAA hm3;have HGT3:=zAA hgot3
   have hgrp:ed l f nm q=if e3=0 then (⟨nm,qu,gsp,ml⟩,q3,0) else (⟨0,0,[],[]⟩,0,e3):=by
    unfold ed
    rw [HW1'.out]
    dsimp only
    rw [if_pos rfl,HH3.out]
    dsimp only
    rw [if_pos rfl,HM3.out]
   have HGRP:=zAA hgrp
   clear hm3 hgot3 hgrp
   go_wp2_with fail
   refine CM.out.mono ?_
   rintro e7 w7 ⟨hg7,(⟨he3,mv,es,rfl,hml,heq,hpr7,hrows7⟩|⟨he3,hpe,p',hpr7⟩)⟩
   case inr=>
    have hr:=HFIN.out e3 he3 (by rw [HGRP.out,if_neg he3])
    subst hr
    unfold hF at hpe
    subst hpe
    exact ⟨rfl,HS7.out.gb.trans hg7,.inr ⟨he3,rfl,p',hpr7⟩⟩
   (try dsimp only at he3 hml hpr7)
   subst he3
   have hq3:=(HGT3.out rfl).2.2
   (try dsimp only at hq3)
   rw [hn] at hq3
   obtain ⟨Am,cm,hvm⟩:=bj hrows7.head
   dsimp only at hvm
   subst hvm
   have hge6:=HS7.out.gb.size
   have HS8:=zAA (HS7.out.go hg7 hpr7)
   have HB8:=zAA (iS HB7.out hg7 (aS HB7.out HS7.out.pr (by decide)))
   have HRW8:=zAA (se HRW7.out hg7 HS7.out.pr (by decide))
   have HMR8:Hid (ap (⟨w.heap.size,55,7,.slice Am es.length cm,es.length,av eT es⟩::iF w.heap.size es) w7):=zAA (ap.cons (cO hrows7.head hge6) (uS hrows7.tail hge6))
   have HEQ8:=zAA heq;have HML:=zAA hml;have HQ3:=zAA hq3
   clear hg7 hpr7 hrows7 hml heq hq3 hge6 CM HS7 HB7 HRW7
   have hb8:=HB8.out
   unfold vY at hb8
   have f3:=hb8.frozen 3;have k3:=hb8.cell 3
   (try dsimp only at f3 k3)
   have hb9:=hb8.set_ 3 (.slice Am es.length cm)
   simp only [zAB,zAD,zAC] at hb9
   have HB9:=zAA hb9
   have HS9:=zAA (HS8.out.off HB8.out (.inl rfl) HW11.out HRN.out 3 (.slice Am es.length cm))
   have HRW9:=zAA (cM HRW8.out (bg HRW8.out HB8.out (by decide)) 3 (.slice Am es.length cm))
   have HMR9:=zAA (cg HMR8.out HB8.out (qo (by decide) (by decide) (by decide)) 3 (.slice Am es.length cm))
   have i0:=hb9.cell 0;have i1:=hb9.cell 1;have i2:=hb9.cell 2;have i3:=hb9.cell 3
   have i4:=HS9.out.sh.cell 3
   (try dsimp only at i0 i1 i2 i3 i4)
   clear hb8 hb9 HS8 HB8 HRW8 HMR8
   obtain ⟨G,hG⟩:∃G:cV,(⟨nm,qu,gsp,As,cs,es,Am,cm⟩:cV)=G:=⟨_,rfl⟩
   have hgc:fN G=[.int .i64 nm,.int .i64 qu,.slice As gsp.length cs,.slice Am es.length cm]:=by rw [←hG];rfl
   have HGC:=zAA hgc;have HGG:=zAA hG
   clear hgc hG
   have hbe:Below (w7.setCell ⟨g11,3,none⟩ (.slice Am es.length cm)).heap.size (w7.setCell ⟨g11,3,none⟩ (.slice Am es.length cm)) ((w7.setCell ⟨g11,3,none⟩ (.slice Am es.length cm)).alloc (.cells #[.int .i64 nm,.int .i64 qu,.slice As gsp.length cs,.slice Am es.length cm] 51)):=(Below.refl _ _).alloc (zAE _) _
   have HSA:=zAA (HS9.out.below hbe);have HRWA:=zAA (cG HRW9.out hbe (zAE _));have HMRA:=zAA (fG HMR9.out hbe)
   have hown:((w7.setCell ⟨g11,3,none⟩ (.slice Am es.length cm)).alloc (.cells #[.int .i64 nm,.int .i64 qu,.slice As gsp.length cs,.slice Am es.length cm] 51)).ownsRow w.heap.size 51 4 (.slice Av gs.length cv) gs.length (av fN gs):=HSA.out.rows.head
   have HOWN:=zAA hown
   have HBND:Hid ((gs.length+1)*64≤140737488355328):=zAA (by have:=HGL.out;have:=HL12.out;have:=HJ.out;omega)
   have HBAS:=zAA HSA.out.gb.size
   clear hbe hown
   go_wp2_with (at_builtin;refine dK Jr rfl rfl rfl HOWN.out rfl (m:=1) (news:=[.int .i64 nm,.int .i64 qu,.slice As gsp.length cs,.slice Am es.length cm]) rfl (by have h:=ab.sl (ab.new (w7.setCell ⟨g11,3,none⟩ (.slice Am es.length cm)) 51 #[.int .i64 nm,.int .i64 qu,.slice As gsp.length cs,.slice Am es.length cm]) 0;rw [World.size_setCell] at h;exact h) (by intro u hu;simp only [zAM,List.mem_nil_iff,or_false] at hu;rcases hu with rfl|rfl|rfl|rfl<;>rfl) HBND.out HBAS.out ?_;intro v9 w9 ho9 hg9 _;obtain ⟨Ax,cx,hvx⟩:=bj ho9;subst hvx;have HO9:=zAA ho9;have HG9:=zAA hg9;have hsh9:=HSA.out.sh.grown hg9 (bg HOWN.out HSA.out.sh (by decide));have HSH9:=zAA hsh9;have x3:=hsh9.cell 3;have y3:=hsh9.frozen 3;(try dsimp only at x3 y3);clear ho9 hg9 hsh9)
   go_roundg gk
   case measure=>omega
   case rel=>
    have hl1:(gs++[G]).length=gs.length+1:=by rw [List.length_append,List.length_singleton]
    have hown:=HOWN.out
    have hk:∀R:List a9,ap R ((w7.setCell ⟨g11,3,none⟩ (.slice Am es.length cm)).alloc (.cells #[.int .i64 nm,.int .i64 qu,.slice As gsp.length cs,.slice Am es.length cm] 51))→(∀r∈R,r.e≠51)→ap R w9:=fun R hR hne r hr=>(hR r hr).kept HG9.out (qs hown (hR r hr) (Ne.symm (hne r hr)))
    have hgr2:iX w.heap.size (gs++[G])=iX w.heap.size gs++tE w.heap.size G:=by unfold iX;rw [List.flatMap_append];simp
    have hrG:ap (tE w.heap.size G) w9:=by
     rw [←HGG.out]
     exact ap.cons (hk [⟨w.heap.size,5,1,.slice As gsp.length cs,gsp.length,gsp.map af⟩] (ap.cons HRWA.out (aE _)) (by intro r hr;rw [zAO] at hr;subst hr;dsimp only;decide)).head (hk _ HMRA.out (qo (by decide) (by decide) (by decide)))
    have hrt:=hk _ HSA.out.rows.tail (by
     intro r hr
     rcases zAM.1 hr with rfl|hr
     ·dsimp only;decide
     rcases zAM.1 hr with rfl|hr
     ·dsimp only;decide
     ·rcases tF r hr with h|h|h|h<;>rw [h]<;>decide)
    have hrows9:ap (⟨w.heap.size,51,4,.slice Ax (gs.length+1) cx,(gs++[G]).length,av fN (gs++[G])⟩::⟨w.heap.size,5,1,.slice A6 sp.length c6,sp.length,sp.map af⟩::⟨w.heap.size,3,1,.slice (some ad) L cl,L,(aQ f).map aY⟩::iX w.heap.size (gs++[G])) w9:=by
     refine ap.cons ?_ (ap.cons hrt.head (ap.cons hrt.tail.head ?_))
     ·rw [hl1,im,gG,HGC.out]
      exact HO9.out
     ·rw [hgr2]
      exact hrt.tail.tail.app hrG
    have hsh10:=HSH9.out.set_ 3 (.slice Ax (gs.length+1) cx)
    simp only [zAB,zAD,zAC] at hsh10
    have hpr9:=HSA.out.pr.grown HG9.out (bg hown HSA.out.pr (by decide))
    refine ⟨j+1,q3,gs++[G],.slice Ax (gs.length+1) cx,by have:=HJ.out;omega,rfl,HQ3.out,by rw [hl1,HGL.out],zAA ⟨cX (wS HSA.out.gb HG9.out (fun k e=>(hown.lt k e).1)) HSA.out.h2 3 _,hpr9.far (p:=⟨h2,3,none⟩) (aS hpr9 HSH9.out (by decide)) _,hsh10,HSA.out.h2,?_,rfl⟩,zAA ?_,zAA ?_⟩
    ·exact cg hrows9 HSH9.out (x9 rfl (by decide) (by decide) (by decide) (by decide) (by decide) (by decide)) 3 _
    ·have hG2:ed l f nm q=(⟨nm,qu,gsp,ml⟩,q3,0):=by
      have h:=HGRP.out
      simpa using h
     rw [HEJ.out,hG2]
     dsimp only
     rw [if_pos rfl,List.map_append,List.map_singleton,←HGG.out]
     unfold cV.g
     dsimp only
     rw [HML.out]
     simp
    ·intro y hy
     rcases List.mem_append.1 hy with hy|hy
     ·exact HGE.out y hy
     ·rw [zAO] at hy
      subst hy
      rw [←HGG.out]
      exact HEQ8.out
def wm (h g h3:Nat) (o x sv bv:Value) (p:Nat):List aI:=[(h,22,#[o]),(h+1,26,#[x]),(g,77,cC bv p sv),(h3,73,#[.pointer (some ⟨g,0,none⟩)])]
theorem BA (h g h3:Nat) (o x bv:Value) (As:Option Addr) (ns cs':Nat) (p:Nat) (W:World) (hc:aa (wm h g h3 o x (.slice As ns cs') bv p) W):
  CallsD Tryz.prog 45 #[.pointer (some ⟨h3,0,none⟩),.pointer (some ⟨h,0,none⟩),.pointer (some ⟨h+1,0,none⟩)] .returning W fun e u' W'=>e= .returned (.tuple #[])∧u'= .returning∧W'=W.setCell ⟨h,0,none⟩ (.slice As ns cs'):=by
 unfold wm cC at hc
 have z0:=hc.head.cell 0;have z1:=hc.head.frozen 0;have z2:=hc.tail.tail.head.cell 2;have z3:=hc.tail.tail.tail.head.cell 0
 (try dsimp only at z0 z1 z2 z3)
 clear hc
 refine callsD_of_wpS Tryz.func45 rfl fun c₀ cs hu=>?_
 apply wpS_seq
 apply wpS_region
 simp [wpOpsS,go_sem,recoverD,hu,Tryz.ntmps45,Exit.thenS,z0,z1,z2,z3]
 apply wpS_seq
 apply wpS_region
 simp [wpOpsS,go_sem,recoverD,hu,Exit.thenS]
 apply wpS_seq
 apply wpS_region
 simp [wpOpsS,go_sem,recoverD,hu,Exit.thenS]
 refine wpS_cond (t:=false) (by simp [Act.eval,Array.replicate]) ?_
 simp only [zAN,if_false]
 refine wpS_of_wp (wp_skip ?_)
 cases c₀
 simp_all [bodyPostS,results,Tryz.results45]
set_option maxRecDepth 100000 in
theorem rU (h g h3:Nat) (o x bv:Value) (As:Option Addr) (ns cs':Nat) (p:Nat) (er:Int) (older:List PanicEntry) (W:World) (hc:aa (wm h g h3 o x (.slice As ns cs') bv p) W):
  CallsD Tryz.prog 45 #[.pointer (some ⟨h3,0,none⟩),.pointer (some ⟨h,0,none⟩),.pointer (some ⟨h+1,0,none⟩)] (.panicking ({v:= .iface 79 (.agg #[.int .i64 er]),recovered:=false}::older)) W fun e u' W'=>
   e= .returned (.tuple #[])∧u'= .panicking ({v:= .iface 79 (.agg #[.int .i64 er]),recovered:=true}::older)∧W'=((W.setCell ⟨h,0,none⟩ (.slice As ns cs')).alloc (.cells #[.int .i64 er] 79)).setCell ⟨h+1,0,none⟩ (.int .i64 er):=by
 have hta:∀W:World,Sem.run Tryz.prog (Instr.typeAssert (Value.iface 79 (Value.agg #[Value.int zAJ er])) 20 79 true) W= .ok (.tuple #[.agg #[.int .i64 er],.bool true]) W:=fun W=>by rfl
 have hs:=hc.tail.head
 have hs2:=(hs.far (p:=⟨h,0,none⟩) (by simp) (.slice As ns cs')).alloc (.cells #[.int .i64 er] 79)
 have y0:=hs2.cell 0;have y1:=hs2.frozen 0
 unfold wm cC at hc
 have z0:=hc.head.cell 0;have z1:=hc.head.frozen 0;have z2:=hc.tail.tail.head.cell 2;have z3:=hc.tail.tail.tail.head.cell 0
 (try dsimp only at z0 z1 z2 z3 y0 y1)
 clear hc hs hs2
 refine callsD_of_wpS Tryz.func45 rfl fun c₀ cs hu=>?_
 apply wpS_seq
 apply wpS_region
 simp [wpOpsS,go_sem,recoverD,hu,Tryz.ntmps45,Exit.thenS,z0,z1,z2,z3]
 apply wpS_seq
 apply wpS_region
 simp [wpOpsS,go_sem,recoverD,hu,Exit.thenS]
 apply wpS_seq
 apply wpS_region
 simp [wpOpsS,go_sem,recoverD,Exit.thenS]
 refine wpS_cond (t:=true) (by simp [Act.eval,Array.replicate]) ?_
 simp only [if_true]
 apply wpS_seq
 apply wpS_region
 simp [wpOpsS,go_sem,recoverD,Exit.thenS,hta]
 apply wpS_seq
 apply wpS_seq
 apply wpS_region
 simp [wpOpsS,go_sem,recoverD,Exit.thenS]
 refine wpS_cond (t:=false) (by simp [Act.eval,Array.replicate]) ?_
 simp only [zAN,if_false]
 refine wpS_of_wp (wp_skip ?_)
 simp only [Exit.thenS]
 apply wpS_region
 simp [wpOpsS,go_sem,recoverD,y0,y1]
 simp [bodyPostS,results,Tryz.results45]
end Go.Proofs.YthhijgcfbjcgiaaGreatDoor
