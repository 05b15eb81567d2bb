/- MGet, Find, Copy -/
import Derived.Test.YthhijgcfbjcgiaaGreatDoorQ36
namespace Go.Proofs.YthhijgcfbjcgiaaGreatDoor
open Go Go.RowKit
attribute [local go_sem] Oper.semAt_some
set_option maxHeartbeats 16000000
set_option maxRecDepth 100000
open Go.IntKind renaming i64→O,wrap_i64→OV,i64→Oa
open Go.Value renaming int→U,slice→Y,pointer→X,bool→OA,tuple→OW,agg→Oe
open Go.Lib renaming hid→Z
open List renaming length→V,setIfInBounds_toArray→OB,append_toArray→OC,set_cons_succ→OD,set_cons_zero→OE,length_nil→OF,push_toArray→OG,size_toArray→OH,cons_append→OJ,length_cons→OK,nil_append→OM,mem_singleton→OT,drop_succ_cons→OX,length_append→OY,mem_map→OZ,drop_zero→Oc,mem_cons→Od
open Go.Obj renaming cells→J
open Go.Ending renaming returned→OI
open Nat renaming reduceAdd→OL,reduceSub→OO,le_trans→OP,le_refl→Ob
open Tryz renaming prog→ON,ntmps145→OQ,func145→OR
open Go.Proofs.YthhijgcfbjcgiaaGreatDoor.cb renaming take→OS,step→Of
open Go.World renaming ownsRow_nil→OU
def bP (m:aT) (v:Value):Array Value:= #[U O m.ad,U O m.kd,U O m.qu,U O m.x,U O m.y,U O m.pa,v]
structure kx (w:World) (r:aT×Int×Int) (e:Ending) (W':World):Prop where
 below:Below w.heap.size w W'
 ex:∃v,∃xs:List ew,e=OI (OW #[Oe (bP r.1 v),U O r.2.1,U O r.2.2])/\r.1.bl=xs.map (·.1)/\W'.ownsRow w.heap.size 93 2 v (V xs) (av ij xs)/\∀p∈xs,W'.ownsRow w.heap.size 189 2 (Y p.2.1 p.1.l.length p.2.2) p.1.l.length (av bj p.1.l)
theorem jW (h:Nat)(m:aT)(v:Value)(n e:Int)(tmps:Array Value)(W:World)(j:ab W h 55 (bP m v))(K:tmps.getD 8 undef=X (some ⟨h,0,none⟩))(M:tmps.getD 9 undef=U O n)(C:tmps.getD 10 undef=U O e):
  (results Tryz.f145 tmps).run ON W= .ok (OW #[Oe (bP m v),U O n,U O e]) W:=by
 unfold bP at*;have c0:=j.cell 0;have c1:=j.cell 1;have c2:=j.cell 2;have c3:=j.cell 3;have c4:=j.cell 4;have c5:=j.cell 5;have I:=j.cell 6;simp at c0 c1 c2 c3 c4 c5 I;have D:tmps[8]?.getD undef=X (some ⟨h,0,none⟩):=by simpa using K
 have G:tmps[9]?.getD undef=U O n:=by simpa using M
 have B:tmps[10]?.getD undef=U O e:=by simpa using C
 simp[results,Tryz.results145,D,G,B,asAddr,c0,c1,c2,c3,c4,c5,I,go_sem]
theorem Bi {W:World}{h:Nat}{m:aT}{v:Value}(B:ab W h 55 (bP m v))(a:aT)(u:Value):ab (((((((W.setCell ⟨h,0,none⟩ (U O a.ad)).setCell ⟨h,1,none⟩ (U O a.kd)).setCell ⟨h,2,none⟩ (U O a.qu)).setCell ⟨h,3,none⟩ (U O a.x)).setCell ⟨h,4,none⟩ (U O a.y)).setCell ⟨h,5,none⟩ (U O a.pa)).setCell ⟨h,6,none⟩ u) h 55 (bP a u):=by
 have j:=((((((B.set_ 0 (U O a.ad)).set_ 1 (U O a.kd)).set_ 2 (U O a.qu)).set_ 3 (U O a.x)).set_ 4 (U O a.y)).set_ 5 (U O a.pa)).set_ 6 u;unfold bP at*;simp only[OB,OE,OD] at j;exact j
theorem Gi {w W:World}{h:Nat}(B:Below w.heap.size w W)(j:w.heap.size<=h)(a:aT)(u:Value):Below w.heap.size w (((((((W.setCell ⟨h,0,none⟩ (U O a.ad)).setCell ⟨h,1,none⟩ (U O a.kd)).setCell ⟨h,2,none⟩ (U O a.qu)).setCell ⟨h,3,none⟩ (U O a.x)).setCell ⟨h,4,none⟩ (U O a.y)).setCell ⟨h,5,none⟩ (U O a.pa)).setCell ⟨h,6,none⟩ u):=
 ((((((B.setCell j _).setCell j _).setCell j _).setCell j _).setCell j _).setCell j _).setCell j _
theorem fL {w W:World}(e:Int)(j:Below w.heap.size w W):kx w (m0,0,e) (OI (OW #[Oe (bP m0 (Y none 0 0)),U O 0,U O e])) W:=
 ⟨j,Y none 0 0,[],rfl,rfl,OU _ _ _ _,λp B=>by cases B⟩
theorem dG.setE {K W:World}{g B:Nat}{A:Option Addr}{n c:Nat}{l:List UInt8}{M:aZ}{L:List aL}{ts:List Nat}{u:Nat}{cs:Array Value}(h:dG K g A n c l M L ts u W)(I:K.heap.size<=B)(G:ab W B 26 cs)(v:Value)(hL:aa L (W.setCell ⟨B,0,none⟩ v)):dG K g A n c l M L ts u (W.setCell ⟨B,0,none⟩ v):=by
 obtain⟨⟨s,bl,v',xs,N,C,T⟩,hc⟩:=h;refine⟨⟨s,bl,v',xs,N,⟨C.below.setCell (p:=⟨B,0,none⟩) I _,C.cell.far (p:=⟨B,0,none⟩) (aU C.cell G (by simp)) v,?_,λq hq=>?_⟩,T⟩,hL⟩
 ·exact mo C.row (λg' D j=>j.far (p:=⟨B,0,none⟩) (aU j G (by simp)) v)
 ·exact mo (C.bl q hq) (λg' D j=>j.far (p:=⟨B,0,none⟩) (aU j G (by simp)) v)
structure Ja (w:World) (g:Nat) (A:Option Addr) (n c:Nat) (pt:Bool×Bool×Bool×Bool×Bool) (x y:Int) (bc h8 ge:Nat) (E:Int) (cd:Code) (W:World):Prop where
 cd:cd= .exit 1
 ne:E≠0
 st:kA g A n c pt x y [(bc,206,#[X (some ⟨g,0,none⟩)])] W
 mm:ab W h8 55 (bP m0 (Y none 0 0))
 ee:ab W ge 26 #[U O E]
 below:Below w.heap.size w W
theorem Iu {w:World}{g:Nat}{A:Option Addr}{n c:Nat}{pt:Bool×Bool×Bool×Bool×Bool}{x y:Int}{G h8 I:Nat}{E:Int}{cd:Code}{B:Nat}(hB:w.heap.size<=B):OwnFrom B (λ(_:List jo) W=>Ja w g A n c pt x y G h8 I E cd W):=by
 rintro pre W W' row ⟨K,h2,⟨M,s,N,T⟩,h6,h7,C⟩ D j;exact⟨K,h2,⟨M.grown D (λr e=>(j r e).2),s,dr N D (λr e=>(j r e).2),T⟩,dr h6 D (λr e=>(j r e).2),dr h7 D (λr e=>(j r e).2),js C D (λr e=>OP hB (j r e).1) C.size⟩
theorem BD (l:List UInt8):∀(ts:List Nat){s B:aZ}{bl j:List bH},bz l ts s bl=((B,j),0)->B.ad=s.ad
 |[],s,B,bl,j,h=>by
  simp only[bz,Prod.mk.injEq,and_true] at h;obtain⟨rfl,rfl⟩:=h;rfl
 |t::ts,s,B,bl,j,h=>by
  rw[dh] at h
  split at h
  ·rename_i he
   rw[(Prod.mk.inj h).2] at he
   cases he
  ·have C:=BD l ts h
   have h2:(ax s t).ad=s.ad:=by unfold ax;split<;>rfl
   have D:(aF l (ax s t) t).1.1.ad=(ax s t).ad:=by
    unfold aF
    split
    ·rfl
    ·split<;>rfl
    ·split<;>rfl
    ·split<;>rfl
    ·rfl
    ·rfl
   rw[C,D,h2]
theorem jV {w W:World}{h:Nat}{m:aT}{v:Value}{R:List aV}(B:ar w [(h,55,bP m v)] R W)(D:w.heap.size<=h)(C:∀r∈R,r.e≠55) (a:aT) (u:Value):
  ar w [(h,55,bP a u)] R (((((((W.setCell ⟨h,0,none⟩ (U O a.ad)).setCell ⟨h,1,none⟩ (U O a.kd)).setCell ⟨h,2,none⟩ (U O a.qu)).setCell ⟨h,3,none⟩ (U O a.x)).setCell ⟨h,4,none⟩ (U O a.y)).setCell ⟨h,5,none⟩ (U O a.pa)).setCell ⟨h,6,none⟩ u):=by
 have one:∀{W:World}{cs:Array Value}(i:Nat)(u:Value),ar w [(h,55,cs)] R W->ar w [(h,55,cs.setIfInBounds i u)] R (W.setCell ⟨h,i,none⟩ u):= λ{W cs} i u B=>by
  have h2:=aW B D i u (h,55,cs) (by simp) rfl C
  simpa [di] using h2
 have j:=one 6 u (one 5 (U O a.pa) (one 4 (U O a.y) (one 3 (U O a.x) (one 2 (U O a.qu) (one 1 (U O a.kd) (one 0 (U O a.ad) B))))));unfold bP at j⊢;simp only[OB,OE,OD] at j;exact j
def sO (b:Nat) (v:Value) (xs:List ew):List aV:=⟨b,93,2,v,V xs,av ij xs⟩::xs.map λp=>⟨b,189,2,Y p.2.1 p.1.l.length p.2.2,p.1.l.length,av bj p.1.l⟩
theorem sP {b:Nat}{v:Value}{xs:List ew}:∀r∈sO b v xs,r.e≠55:=by
 intro r j;unfold sO at j;rcases Od.1 j with rfl|j
 ·simp
 ·obtain⟨p,_,rfl⟩:=OZ.1 j
  simp
theorem ua {w W:World}{h:Nat}{m:aT}{v:Value}{xs:List ew}{n e:Int}(j:ar w [(h,55,bP m v)] (sO w.heap.size v xs) W)(B:m.bl=xs.map (·.1)):kx w (m,n,e) (OI (OW #[Oe (bP m v),U O n,U O e])) W:=
 ⟨j.1,v,xs,rfl,B,j.2.2.head,λp C=>j.2.2.tail ⟨w.heap.size,189,2,Y p.2.1 p.1.l.length p.2.2,p.1.l.length,av bj p.1.l⟩ (OZ.2 ⟨p,C,rfl⟩)⟩
theorem It {j W:World}{g:Nat}{A:Option Addr}{n c:Nat}{s:aZ}{xs:List ew}{L:List aL}(h:ip j g A n c s xs W)(B:aa L W):ar j L (sO j.heap.size s.v xs) W:=by
 refine⟨h.below,B,ai.cons h.row (λr D=>?_)⟩;obtain⟨p,C,rfl⟩:=OZ.1 D;exact h.bl p C
theorem Kp {W:World}{h D:Nat}{m:aT}{v:Value}{x:Option (List Deferred)}(C:ab W h 55 (bP m v))(B:W.heap[D]? =some (.deferred x)):D≠h:=by
 rintro rfl;have j:W.heap[D]? =some (J (bP m v) 55 (0,0)):=C;rw[B] at j
 cases j
theorem Gj {W:World}{h D:Nat}(j:D≠h)(u0 u1 u2 u3 u4 u5 u6:Value):(((((((W.setCell ⟨h,0,none⟩ u0).setCell ⟨h,1,none⟩ u1).setCell ⟨h,2,none⟩ u2).setCell ⟨h,3,none⟩ u3).setCell ⟨h,4,none⟩ u4).setCell ⟨h,5,none⟩ u5).setCell ⟨h,6,none⟩ u6).heap[D]? =W.heap[D]? :=by
 rw[Below.heap_setCell _ _ _ D j,Below.heap_setCell _ _ _ D j,Below.heap_setCell _ _ _ D j,Below.heap_setCell _ _ _ D j,Below.heap_setCell _ _ _ D j,Below.heap_setCell _ _ _ D j,Below.heap_setCell _ _ _ D j]
theorem Bh {w W:World}{h D:Nat}{m:aT}{v:Value}{R:List aV}(C:ar w [(h,55,bP m v)] R W)(M:w.heap.size<=h)(K:∀r∈R,r.e≠55) (B:W.heap[D]? =some (.deferred (some []))) (I:w.heap.size<=D) (a:aT) (u:Value):
  (((((((W.setCell ⟨h,0,none⟩ (U O a.ad)).setCell ⟨h,1,none⟩ (U O a.kd)).setCell ⟨h,2,none⟩ (U O a.qu)).setCell ⟨h,3,none⟩ (U O a.x)).setCell ⟨h,4,none⟩ (U O a.y)).setCell ⟨h,5,none⟩ (U O a.pa)).setCell ⟨h,6,none⟩ u).drew.heap[D]? =some (.deferred (some []))/\
  ar w [(h,55,bP a u)] R ((((((((W.setCell ⟨h,0,none⟩ (U O a.ad)).setCell ⟨h,1,none⟩ (U O a.kd)).setCell ⟨h,2,none⟩ (U O a.qu)).setCell ⟨h,3,none⟩ (U O a.x)).setCell ⟨h,4,none⟩ (U O a.y)).setCell ⟨h,5,none⟩ (U O a.pa)).setCell ⟨h,6,none⟩ u).drew.putObj D (.deferred none)):=by
 have hd:∀N:World,N.heap[D]? =some (.deferred (some []))->N.drew.heap[D]? =some (.deferred (some [])):= λN h=>h;have j:=(Gj (Kp C.2.1.head B) (U O a.ad) (U O a.kd) (U O a.qu) (U O a.x) (U O a.y) (U O a.pa) u).trans B;have G:=jV C M K a u;generalize ((((((W.setCell ⟨h,0,none⟩ (U O a.ad)).setCell ⟨h,1,none⟩ (U O a.kd)).setCell ⟨h,2,none⟩ (U O a.qu)).setCell ⟨h,3,none⟩ (U O a.x)).setCell ⟨h,4,none⟩ (U O a.y)).setCell ⟨h,5,none⟩ (U O a.pa)).setCell ⟨h,6,none⟩ u=N at j G⊢;exact⟨hd N j,iu (bR G) (hd N j) rfl I⟩
def gw (g j C B:Nat):List aL:=(j,206,#[X (some ⟨g,0,none⟩)])::[(C,55,bP m0 (Y none 0 0)),(B,26,#[U O 0])]
theorem lO {W:World}{g C G j:Nat}(h:aa (gw g C G j) W):aa (gw g C G j) (W.setCell ⟨j,0,none⟩ (U O 0)):=by
 unfold gw at*;have D:=h.head;have h2:=h.tail.head;have B:=h.tail.tail.head;refine aa.cons (D.far (p:=⟨j,0,none⟩) (aU D B (by simp)) _) (aa.cons (h2.far (p:=⟨j,0,none⟩) (aU h2 B (by simp)) _) (aa.cons ?_ (ag _)));exact B.set_ 0 (U O 0)
theorem nD {w W:World}{g M N j:Nat}{A:Option Addr}{n c:Nat}{l:List UInt8}{C:aZ}{ts:List Nat}{t:Nat}{er E:Int}(I:w.heap.size<=j)(hE:(jB l C).2=E)(h:uv w g A n c l C (gw g M N j) ts t er W)(B:er≠0):Ja w g A n c (aF l C 0).1.1.pt C.x C.y M N j E (.exit 1) (W.setCell ⟨j,0,none⟩ (U O er)):=by
 obtain⟨hb,D,⟨s,T,h1⟩,_,K⟩:=h;have he:E=er:=hE.symm.trans (K B);unfold gw at D;have k1:=D.head;have k2:=D.tail.head;have G:=D.tail.tail.head;refine⟨rfl,by rw[he];exact B,⟨aa.cons (k1.far (p:=⟨j,0,none⟩) (aU k1 G (by simp)) _) (ag _),s,T.far (p:=⟨j,0,none⟩) (aU T G (by simp)) _,h1⟩,k2.far (p:=⟨j,0,none⟩) (aU k2 G (by simp)) _,?_,hb.setCell (p:=⟨j,0,none⟩) I _⟩;rw[he];exact G.set_ 0 (U O er)
theorem Ep (A:Option Addr)(n c:Nat)(l:List UInt8)(i ad:Int)(x:bi)(w:World)(hA:Sl w A (l.map af))(hn:V l=n)(hsz:n<=2 ^ 47)(hT:Ts w)(hi: -9223372036854775808<=i/\i<=9223372036854775807):
  Calls ON 145 #[Y A n c,U O i,U O ad,dK x] w (kx w (b9 l i ad x)):=by
 obtain⟨r,hr⟩:∃r,b9 l i ad x=r:=⟨_,rfl⟩;have Ip:=Z (λW=>qS x ad W);have KQ:=Z (λW h1 h2 h3=>mM x ad W h1 h2 h3);have kz:=Z (λv h1 h2=>Gk l i ad x v h1 h2);rw[hr] at kz⊢;have HA:=Z hA;have HN:=Z hn;have HT:=Z hT;clear hA hn hT;have L6:Below w.heap.size w (w.alloc (J #[U O x.ad,OA x.had,U O x.x,U O x.y] 102)):=(Below.refl _ _).alloc (Ob _) _;have Lm:=L6.alloc L6.size (J #[U O 0,U O 0,U O 0,U O 0,U O 0,U O 0,Y none 0 0] 55);have Lp:ab ((w.alloc (J #[U O x.ad,OA x.had,U O x.x,U O x.y] 102)).alloc (J #[U O 0,U O 0,U O 0,U O 0,U O 0,U O 0,Y none 0 0] 55)) (w.heap.size+1) 55 (bP m0 (Y none 0 0)):=aH (ab.new _ _ _) (by simp);have gy:=Z Lm;have jT:=Z Lp;clear L6 Lm Lp
 by_cases h1:i<0\/ad<1\/33<ad
 ·have Le:r=(m0,0,3):=by rw[<-hr];unfold b9;rw[if_pos h1]
  subst Le;unfold dK;clear hr kz Ip KQ;rcases Decidable.em (i<0) with h2|h2
  ·skip
   refine(callsIn_wide (n:=5)).1 ?_;refine callsIn_of_wp_marks OR rfl trivial ?_ rfl;simp only[OQ,OH,OK,OF,OL,OO,Array.replicate_succ,Array.replicate_zero,OG,OC,OM,OJ];refine wpIn_wide.2 ?_;go_wp2_with fail
   go_step3
   go_wp2_with fail
   rw[Exit.noGoto_ret];exact iD (jW (w.heap.size+1) m0 (Y none 0 0) 0 3 _ _ jT.out rfl rfl rfl) (fL 3 gy.out)
  ·rcases Decidable.em (ad<1) with h3|h3
   ·skip
    refine(callsIn_wide (n:=5)).1 ?_;refine callsIn_of_wp_marks OR rfl trivial ?_ rfl;simp only[OQ,OH,OK,OF,OL,OO,Array.replicate_succ,Array.replicate_zero,OG,OC,OM,OJ];refine wpIn_wide.2 ?_;go_wp2_with fail
    go_step3
    go_wp2_with fail
    rw[Exit.noGoto_ret];exact iD (jW (w.heap.size+1) m0 (Y none 0 0) 0 3 _ _ jT.out rfl rfl rfl) (fL 3 gy.out)
   ·have h4:33<ad:=by omega
    refine(callsIn_wide (n:=5)).1 ?_;refine callsIn_of_wp_marks OR rfl trivial ?_ rfl;simp only[OQ,OH,OK,OF,OL,OO,Array.replicate_succ,Array.replicate_zero,OG,OC,OM,OJ];refine wpIn_wide.2 ?_;go_wp2_with fail
    go_step3
    go_wp2_with fail
    rw[Exit.noGoto_ret];exact iD (jW (w.heap.size+1) m0 (Y none 0 0) 0 3 _ _ jT.out rfl rfl rfl) (fL 3 gy.out)
 have KY:=Z h1;have k1:¬i<0:=by omega
 have k2:¬ad<1:=by omega
 have k3:¬33<ad:=by omega
 clear h1
 cases hx:cu x ad with
 |false=>
  have Le:r=(m0,0,2):=(by rw[<-hr];unfold b9;rw[if_neg KY.out,hx];rfl);subst Le;rw[hx] at Ip;have K0:=Ip;unfold dK at K0⊢;clear hr kz Ip KQ;refine(callsIn_wide (n:=5)).1 ?_;refine callsIn_of_wp_marks OR rfl trivial ?_ rfl;simp only[OQ,OH,OK,OF,OL,OO,Array.replicate_succ,Array.replicate_zero,OG,OC,OM,OJ];refine wpIn_wide.2 ?_;go_wp2_with fail
  go_step3
  go_wp2_with (go_at_call 105;refine(K0.out _).mono ?_;rintro e w2 ⟨rfl,rX⟩;have K1:=Z rX;have K2:=Z (jT.out.below rX jT.out.lt);clear rX;have cz:=K2.out;unfold bP m0 at cz;have z0:=cz.frozen 0;have z1:=cz.frozen 1;have z2:=cz.frozen 2;have z3:=cz.frozen 3;have z4:=cz.frozen 4;have z5:=cz.frozen 5;have z6:=cz.frozen 6;have y0:=cz.cell 0;have y1:=cz.cell 1;have y2:=cz.cell 2;have y3:=cz.cell 3;have y4:=cz.cell 4;have y5:=cz.cell 5;have y6:=cz.cell 6;clear cz;simp at y0 y1 y2 y3 y4 y5 y6)
  rw[Exit.noGoto_ret];exact iD (jW (w.heap.size+1) m0 (Y none 0 0) 0 2 _ _ (Bi K2.out m0 (Y none 0 0)) rfl rfl rfl) (fL 2 (Gi (gy.out.trans (K1.out.mono gy.out.size)) (by omega) m0 (Y none 0 0)))
 |true=>
  rw[hx] at Ip;have KE:=hx;unfold cu at KE;simp only[Bool.and_eq_true,decide_eq_true_eq] at KE;have K9:=Z (λW=>KQ.out W KE.1.1.1.1 KE.1.1.1.2 (by omega));have K8:=Z (vq hx);have KV:=Z (λv=>kz.out v KY.out hx);have K0:=Ip;obtain⟨⟨px,py⟩,Ld⟩:∃pr,cH ad (ad - x.ad) x.had x.x x.y=pr:=⟨_,rfl⟩;rw[Ld] at K9 K8;have Lk:Hid (∀v,sV i ad x v=⟨i,(false,false,false,false,false),ad,0,0,0,0,0,v,px,py⟩):=Z (λv=>by unfold sV;rw[Ld]);unfold dK at K0 K9⊢;dsimp only at K9;clear hr kz Ip KQ KE Ld hx;refine(callsIn_wide (n:=5)).1 ?_;refine callsIn_of_wp_marks OR rfl trivial ?_ rfl;simp only[OQ,OH,OK,OF,OL,OO,Array.replicate_succ,Array.replicate_zero,OG,OC,OM,OJ];refine wpIn_wide.2 ?_;go_wp2_with fail
  go_step3
  go_wp2_with (first|(go_at_call 105;refine(K0.out _).mono ?_;rintro e w2 ⟨rfl,rX⟩;have K1:=Z (gy.out.trans (rX.mono gy.out.size));have K2:=Z (jT.out.below rX jT.out.lt);have K4:=((ab.new w 102 #[U O x.ad,OA x.had,U O x.x,U O x.y]).alloc (J #[U O 0,U O 0,U O 0,U O 0,U O 0,U O 0,Y none 0 0] 55)).below rX (by simp;omega);clear rX;have Lf:=Z K4;have x0:=K4.cell 0;have x1:=K4.cell 1;have x2:=K4.cell 2;have x3:=K4.cell 3;clear K4;(try dsimp only at x0 x1 x2 x3);obtain⟨g,hg⟩:∃g,w2.heap.size=g:=⟨_,rfl⟩;have KF:=Lf.out.alloc (J #[Y A n c,U O i,OA false,OA false,OA false,OA false,OA false,U O ad,U O 0,U O 0,U O 0,U O 0,U O 0,Y none 0 0,U O 0,U O 0] 208);have u0:=KF.cell 0;have u1:=KF.cell 1;have u2:=KF.cell 2;have u3:=KF.cell 3;clear KF;(try dsimp only at u0 u1 u2 u3);have L5:=Z (aH (ab.new w2 208 #[Y A n c,U O i,OA false,OA false,OA false,OA false,OA false,U O ad,U O 0,U O 0,U O 0,U O 0,U O 0,Y none 0 0,U O 0,U O 0]) hg);have L4:=Z (K2.out.alloc (J #[Y A n c,U O i,OA false,OA false,OA false,OA false,OA false,U O ad,U O 0,U O 0,U O 0,U O 0,U O 0,Y none 0 0,U O 0,U O 0] 208));have KZ:=Z (K1.out.alloc K1.out.size (J #[Y A n c,U O i,OA false,OA false,OA false,OA false,OA false,U O ad,U O 0,U O 0,U O 0,U O 0,U O 0,Y none 0 0,U O 0,U O 0] 208));have HG:=Z (show w.heap.size+2<=g by have h:=K1.out.size;have h2:=K2.out.lt;rw[hg] at h2;omega))|(go_at_call 108;refine(K9.out _).mono ?_;rintro e w3 ⟨rfl,KR⟩;clear u0 u1 u2 u3 x0 x1 x2 x3;have K5:=L5.out.below KR L5.out.lt;have Li:=Z (L4.out.below KR L4.out.lt);have KK:=Z (KZ.out.trans (KR.mono KZ.out.size));clear KR;have u14:=K5.cell 14;have u15:=K5.cell 15;have Lv:=K5.frozen 14;have Lw:=K5.frozen 15;have KW:=Z K5;clear K5;(try dsimp only at u14 u15 Lv Lw)))
  have fW:w.heap.size<=g:=by have:=HG.out;omega
  have L9:ip w g A n c ⟨i,(false,false,false,false,false),ad,0,0,0,0,0,Y none 0 0,px,py⟩ [] (((w3.setCell ⟨g,14,none⟩ (U O px)).setCell ⟨g,15,none⟩ (U O py)).alloc (J #[U O 0] 26)):=by
   refine⟨(((KK.out.setCell (p:=⟨g,14,none⟩) fW _).setCell (p:=⟨g,15,none⟩) fW _).alloc (by have h:=KK.out.size;simpa using h) _),?_,OU _ _ _ _,λp hp=>by cases hp⟩;have h1:=((KW.out.set_ 14 (U O px)).set_ 15 (U O py)).alloc (J #[U O 0] 26);simp only[OB,OE,OD] at h1;exact h1
  have KO:ab (((w3.setCell ⟨g,14,none⟩ (U O px)).setCell ⟨g,15,none⟩ (U O py)).alloc (J #[U O 0] 26)) (w.heap.size+1) 55 (bP m0 (Y none 0 0)):=((Li.out.far (p:=⟨g,14,none⟩) (by have:=HG.out;show w.heap.size+1≠g;omega) _).far (p:=⟨g,15,none⟩) (by have:=HG.out;show w.heap.size+1≠g;omega) _).alloc _;have KN:ab (((w3.setCell ⟨g,14,none⟩ (U O px)).setCell ⟨g,15,none⟩ (U O py)).alloc (J #[U O 0] 26)) w3.heap.size 26 #[U O 0]:=aH (ab.new _ _ _) (by simp);generalize ((w3.setCell ⟨g,14,none⟩ (U O px)).setCell ⟨g,15,none⟩ (U O py)).alloc (J #[U O 0] 26)=W5 at L9 KO KN⊢;obtain⟨ge,Lc⟩:∃ge,w3.heap.size=ge:=⟨_,rfl⟩;rw[Lc] at KN⊢;obtain⟨N,Lt⟩:∃N,w.heap.size+1=N:=⟨_,rfl⟩;rw[Lt] at KO⊢;have Lh:=Z (show w.heap.size<=N by omega);have dE:=Z (show w.heap.size<=ge by rw[<-Lc];exact KK.out.size);have Kr:=Z L9;have Io:=Z KO;have eE:=Z KN;clear L9 KO KN Lc Lt KK KW Li KZ L4 L5 Lf K2 K1 gy jT HG u14 u15 Lv Lw hg;obtain⟨bc,Lr⟩:∃bc,W5.heap.size=bc:=⟨_,rfl⟩;go_step3
  go_wp2_with (go_at_call 188;refine(GI _ _).mono ?_;rintro e w' ⟨rfl,rfl⟩)
  have Lo:∀q∈gw g bc N ge,q.2.1≠93/\q.1≠g:=by
   have e1:N≠g:=aU Io.out Kr.out.cell (by simp);have e2:ge≠g:=aU eE.out Kr.out.cell (by simp);have e3:bc≠g:=(by have:=Kr.out.cell.lt;omega);intro q hq;simp only[gw,Od,List.mem_nil_iff,or_false] at hq;rcases hq with rfl|rfl|rfl
   ·exact⟨by simp,e3⟩
   ·exact⟨by simp,e1⟩
   ·exact⟨by simp,e2⟩
  have ja:=Z Lo;obtain⟨C,KJ⟩:∃C:aZ,(⟨i,(false,false,false,false,false),ad,0,0,0,0,0,Y none 0 0,px,py⟩:aZ)=C:=⟨_,rfl⟩;have Lz:=Z KJ;have K3:Hid (C.a=i/\C.x=px/\C.y=py):=Z (by rw[<-KJ];exact⟨rfl,rfl,rfl⟩);have Lq:ip w g A n c C [] (W5.alloc (J #[X (some ⟨g,0,none⟩)] 206)):=by rw[<-KJ];exact Kr.out.mono ((Below.refl _ _).alloc (Ob _) _)
  have Ln:dG w g A n c l C (gw g bc N ge) [] 0 (W5.alloc (J #[X (some ⟨g,0,none⟩)] 206)):=
   ⟨⟨C,[],C.v,[],rfl,Lq,rfl⟩,aa.cons (aH (ab.new _ _ _) Lr) (aa.cons (Io.out.alloc _) (aa.cons (eE.out.alloc _) (ag _)))⟩
  have K8:=Z (show aK C.x=true/\aK C.y=true by rw[K3.out.2.1,K3.out.2.2];exact K8.out)
  have K6:Hid (∀(ts:List Nat)(s:aZ)(v:Value)(bl:List bH)(xs:List ew),(∃us,ts=0::us)->bz l ts C []=((s,bl),0)->xs.map (·.1)=bl->(∃u,ts++[u]<+:ej l C)->0<=s.a/\s.a<=8*(V l:Int)/\V xs<=100/\s.x=C.x/\s.y=C.y):=Z (by
   rintro ts s v bl xs ⟨us,rfl⟩ j hm ⟨u,hu⟩;have hk:=(jD l j).1
   have N:C.a<=8*(V l:Int):=by
    by_cases h:C.a<=8*(V l:Int)
    ·exact h
    ·exact absurd hk (oK (ns:=aG) rz (by omega)).2
   have b:=rO l _ j (by rw[K3.out.1];omega) N;have LC:=hu.length_le;have LN:=G0 l C;rw[OY] at LC;have e:V xs=(V bl):=(by rw[<-hm,List.length_map]);have b3:=b.2.2.1;rw[OF] at b3;exact⟨b.1,b.2.1,by omega,b.2.2.2.1,b.2.2.2.2⟩)
  have J2:=Z (KV.out (Y none 0 0));rw[Lk.out] at J2;rw[KJ] at J2;obtain⟨E,hE⟩:∃E,(jB l C).2=E:=⟨_,rfl⟩;have hU:=Z hE;clear KJ Lo Lq hE;have L0:=Z Ln;clear Ln;have gJ:Hid (w.heap.size<=(W5.alloc (J #[X (some ⟨g,0,none⟩)] 206)).heap.size):=Z (by obtain⟨⟨s,bl,v,xs,_,hr,_⟩,_⟩:=L0.out;exact hr.below.size);generalize W5.alloc (J #[X (some ⟨g,0,none⟩)] 206)=W6 at L0 gJ⊢;clear Kr Io eE Lk KV K9 K0 Lr;refine(wpIn_wide (n:=5)).1 ?_
  refine Kc (α:=jo) (enc:= λx=> #[mu g x]) (IS:=Jj w g A n c l C (gw g bc N ge)) (I:=Jg w g A n c l C (gw g bc N ge)) (I2:=Jh w g A n c l C (gw g bc N ge)) (IE:=Ji w g A n c l C (gw g bc N ge)) (S:= λxs=>cE xs=ej l C) (Sp:= λpre=>cE pre<+:ej l C)
   (St:=kA g A n c (aF l C 0).1.1.pt C.x C.y [(bc,206,#[X (some ⟨g,0,none⟩)])])
   rfl (by decide) (gf:=223) (lb:= #[X (some ⟨bc,0,none⟩)]) rfl trivial (enters_of Tryz.func223 (by kernel_rfl) rfl)
   (Fe 4 (by decide) w g bc A n c l C [(N,55,bP m0 (Y none 0 0)),(ge,26,#[U O 0])] fW (λq hq=>(ja.out q hq).2)) (λ_=>rfl)
   (λcd _ W=>Ja w g A n c (aF l C 0).1.1.pt C.x C.y bc N ge E cd W) (λcd pre W h=>h.st)
   (λpre x _ W=>Jg w g A n c l C (gw g bc N ge) pre x W)
   (qz gJ.out (λ_:List jo=>[]) 0) (qz gJ.out cE 5) (qz gJ.out cE 0) (λcd=>Iu gJ.out) (λx k=>OwnFrom.and (qz gJ.out cE x.1) (ID x)) L0.out ?round ?done ?stop
  case round=>
   apply Exists.intro;refine And.intro ?_ ?_
   ·rintro lp pre x W' hI bE
    have HI:=Z hI;clear hI bE;dsimp only;gi_wp2
    obtain⟨g0,LO⟩:∃g0,W'.heap.size=g0:=⟨_,rfl⟩;exact⟨⟨g0,rfl,HI.out⟩,KeepsFrom.refl _ _⟩
   ·rintro lp pre ⟨t,b0,b1,b2⟩ k W' ⟨hI,hP⟩ bE
    have hI:dG w g A n c l C (gw g bc N ge) (cE pre) t W':=hI;have K:cE pre++[t]<+:ej l C:=(by rw[<-bY pre (t,b0,b1,b2)];exact bE);rcases yM l C K with⟨M,rfl⟩|⟨us,M,LF,LD,LE⟩
    ·skip
     have A0:∀{s:aZ}{bl:List bH},bz l (cE pre) C []=((s,bl),0)->s.a=i:= λj=>by
      rw[M] at j;simp only[bz,Prod.mk.injEq,and_true] at j;rw[<-j.1];exact K3.out.1
     have hC:Calls ON 224 #[X (some ⟨g,0,none⟩)] W' λe W2=>∃er,e=OI (U O er)/\(∀B,KeepsFrom B W' W2)/\uv w g A n c l C (gw g bc N ge) (cE pre) 0 er W2:=by
      refine j7 hI K ja.out (λs v bl xs j hr hm=>?_);exact Fg hr fW HA.out HN.out hsz (by rw[(bp s 0).1,A0 j];omega) (by rw[(bp s 0).1,A0 j];omega)
     have HC:=Z hC;have HS:=Z bE;clear hC hI hP bE K M;dsimp only[mu];gi_wp2_with (refine⟨trivial,?_⟩;gi_at_call 224;refine(callsIn_wide.2 HC.out).mono ?_;rintro e w2 ⟨er,rfl,aC,hE⟩;have aB:=Z aC;have HE:=Z hE;have G:=hE.cl.tail.tail.head;clear aC hE HC;have y0:=G.cell 0;have y1:=G.frozen 0;have T:=Z G;clear G;(try dsimp only at y0 y1);have y2:=(T.out.set_ 0 (U O er)).cell 0;(try dsimp only at y2))
     ·exact⟨aq (aB.out _) _ _,nD dE.out hU.out HE.out (by rename_i h;simpa using h)⟩
     ·have he:er=0:=by rename_i h;simpa using h
      subst he;refine⟨aq (aB.out _) _ _,trivial,?_⟩;show dG w g A n c l C (gw g bc N ge) (cE (pre++[_])) 0 _;rw[bY];exact(HE.out.ok rfl).setE dE.out T.out (U O 0) (lO HE.out.cl)
    ·have M:∃us,cE pre=0::us:=⟨us,M⟩
     have ht:t=1\/t=2\/t=3\/t=4\/t=5:=(by omega);clear LF LD LE;rcases ht with rfl|rfl|rfl|rfl|rfl
     ·skip
      have hC:Calls ON 225 #[X (some ⟨g,0,none⟩)] W' λe W2=>∃er,e=OI (U O er)/\(∀B,KeepsFrom B W' W2)/\uv w g A n c l C (gw g bc N ge) (cE pre) 1 er W2:=by
       refine j7 hI K ja.out (λs v bl xs j hr hm=>?_);obtain⟨B0,B1,BL,BX,BY⟩:=K6.out (cE pre) s v bl xs M j hm ⟨_,K⟩;have B0:0<=({ax s 1 with v:=v}:aZ).a:=(by show 0<=(ax s 1).a;rw[(bp s 1).1];exact B0);have B1:({ax s 1 with v:=v}:aZ).a<=8*(V l:Int):=(by show (ax s 1).a<=_;rw[(bp s 1).1];exact B1);have BX:({ax s 1 with v:=v}:aZ).x=C.x:=(by show (ax s 1).x=_;rw[(bp s 1).2.1];exact BX);have BY:({ax s 1 with v:=v}:aZ).y=C.y:=(by show (ax s 1).y=_;rw[(bp s 1).2.2.1];exact BY);exact Fj hr fW HA.out HN.out hsz B0 B1
      have HC:=Z hC;have HS:=Z bE;clear hC hI hP bE K M;dsimp only[mu];gi_wp2_with (refine⟨trivial,?_⟩;gi_at_call 225;refine(callsIn_wide.2 HC.out).mono ?_;rintro e w2 ⟨er,rfl,aC,hE⟩;have aB:=Z aC;have HE:=Z hE;have G:=hE.cl.tail.tail.head;clear aC hE HC;have y0:=G.cell 0;have y1:=G.frozen 0;have T:=Z G;clear G;(try dsimp only at y0 y1);have y2:=(T.out.set_ 0 (U O er)).cell 0;(try dsimp only at y2))
      ·exact⟨aq (aB.out _) _ _,nD dE.out hU.out HE.out (by rename_i h;simpa using h)⟩
      ·have he:er=0:=by rename_i h;simpa using h
       subst he;refine⟨aq (aB.out _) _ _,trivial,?_⟩;show dG w g A n c l C (gw g bc N ge) (cE (pre++[_])) 0 _;rw[bY];exact(HE.out.ok rfl).setE dE.out T.out (U O 0) (lO HE.out.cl)
     ·skip
      have hC:Calls ON 255 #[X (some ⟨b0,0,none⟩),X (some ⟨b1,0,none⟩),X (some ⟨b2,0,none⟩)] W' λe W2=>∃er,e=OI (U O er)/\(∀B,KeepsFrom B W' W2)/\uv w g A n c l C (gw g bc N ge) (cE pre) 2 er W2:=by
       refine j7 hI K ja.out (λs v bl xs j hr hm=>?_);obtain⟨B0,B1,BL,BX,BY⟩:=K6.out (cE pre) s v bl xs M j hm ⟨_,K⟩;have B0:0<=({ax s 2 with v:=v}:aZ).a:=(by show 0<=(ax s 2).a;rw[(bp s 2).1];exact B0);have B1:({ax s 2 with v:=v}:aZ).a<=8*(V l:Int):=(by show (ax s 2).a<=_;rw[(bp s 2).1];exact B1);have BX:({ax s 2 with v:=v}:aZ).x=C.x:=(by show (ax s 2).x=_;rw[(bp s 2).2.1];exact BX);have BY:({ax s 2 with v:=v}:aZ).y=C.y:=(by show (ax s 2).y=_;rw[(bp s 2).2.2.1];exact BY);exact Fh hr fW HA.out HN.out hsz B0 B1 (by rw[BX];exact K8.out.1) hP.1 (by rw[BX];exact hP.2.1) hP.2.2
      have HC:=Z hC;have HS:=Z bE;clear hC hI hP bE K M;dsimp only[mu];gi_wp2_with (refine⟨trivial,?_⟩;gi_at_call 255;refine(callsIn_wide.2 HC.out).mono ?_;rintro e w2 ⟨er,rfl,aC,hE⟩;have aB:=Z aC;have HE:=Z hE;have G:=hE.cl.tail.tail.head;clear aC hE HC;have y0:=G.cell 0;have y1:=G.frozen 0;have T:=Z G;clear G;(try dsimp only at y0 y1);have y2:=(T.out.set_ 0 (U O er)).cell 0;(try dsimp only at y2))
      ·exact⟨aq (aB.out _) _ _,nD dE.out hU.out HE.out (by rename_i h;simpa using h)⟩
      ·have he:er=0:=by rename_i h;simpa using h
       subst he;refine⟨aq (aB.out _) _ _,trivial,?_⟩;show dG w g A n c l C (gw g bc N ge) (cE (pre++[_])) 0 _;rw[bY];exact(HE.out.ok rfl).setE dE.out T.out (U O 0) (lO HE.out.cl)
     ·skip
      have hC:Calls ON 255 #[X (some ⟨b0,0,none⟩),X (some ⟨b1,0,none⟩),X (some ⟨b2,0,none⟩)] W' λe W2=>∃er,e=OI (U O er)/\(∀B,KeepsFrom B W' W2)/\uv w g A n c l C (gw g bc N ge) (cE pre) 3 er W2:=by
       refine j7 hI K ja.out (λs v bl xs j hr hm=>?_);obtain⟨B0,B1,BL,BX,BY⟩:=K6.out (cE pre) s v bl xs M j hm ⟨_,K⟩;have B0:0<=({ax s 3 with v:=v}:aZ).a:=(by show 0<=(ax s 3).a;rw[(bp s 3).1];exact B0);have B1:({ax s 3 with v:=v}:aZ).a<=8*(V l:Int):=(by show (ax s 3).a<=_;rw[(bp s 3).1];exact B1);have BX:({ax s 3 with v:=v}:aZ).x=C.x:=(by show (ax s 3).x=_;rw[(bp s 3).2.1];exact BX);have BY:({ax s 3 with v:=v}:aZ).y=C.y:=(by show (ax s 3).y=_;rw[(bp s 3).2.2.1];exact BY);exact Fi hr fW HA.out HN.out hsz B0 B1 (by rw[BY];exact K8.out.2) hP.1 (by rw[BY];exact hP.2.1) hP.2.2
      have HC:=Z hC;have HS:=Z bE;clear hC hI hP bE K M;dsimp only[mu];gi_wp2_with (refine⟨trivial,?_⟩;gi_at_call 255;refine(callsIn_wide.2 HC.out).mono ?_;rintro e w2 ⟨er,rfl,aC,hE⟩;have aB:=Z aC;have HE:=Z hE;have G:=hE.cl.tail.tail.head;clear aC hE HC;have y0:=G.cell 0;have y1:=G.frozen 0;have T:=Z G;clear G;(try dsimp only at y0 y1);have y2:=(T.out.set_ 0 (U O er)).cell 0;(try dsimp only at y2))
      ·exact⟨aq (aB.out _) _ _,nD dE.out hU.out HE.out (by rename_i h;simpa using h)⟩
      ·have he:er=0:=by rename_i h;simpa using h
       subst he;refine⟨aq (aB.out _) _ _,trivial,?_⟩;show dG w g A n c l C (gw g bc N ge) (cE (pre++[_])) 0 _;rw[bY];exact(HE.out.ok rfl).setE dE.out T.out (U O 0) (lO HE.out.cl)
     ·skip
      have hC:Calls ON 227 #[X (some ⟨g,0,none⟩)] W' λe W2=>∃er,e=OI (U O er)/\(∀B,KeepsFrom B W' W2)/\uv w g A n c l C (gw g bc N ge) (cE pre) 4 er W2:=by
       refine j7 hI K ja.out (λs v bl xs j hr hm=>?_);obtain⟨B0,B1,BL,BX,BY⟩:=K6.out (cE pre) s v bl xs M j hm ⟨_,K⟩;have B0:0<=({ax s 4 with v:=v}:aZ).a:=(by show 0<=(ax s 4).a;rw[(bp s 4).1];exact B0);have B1:({ax s 4 with v:=v}:aZ).a<=8*(V l:Int):=(by show (ax s 4).a<=_;rw[(bp s 4).1];exact B1);have BX:({ax s 4 with v:=v}:aZ).x=C.x:=(by show (ax s 4).x=_;rw[(bp s 4).2.1];exact BX);have BY:({ax s 4 with v:=v}:aZ).y=C.y:=(by show (ax s 4).y=_;rw[(bp s 4).2.2.1];exact BY);exact Aa hr fW HA.out (HT.out) HN.out hsz B0 B1
      have HC:=Z hC;have HS:=Z bE;clear hC hI hP bE K M;dsimp only[mu];gi_wp2_with (refine⟨trivial,?_⟩;gi_at_call 227;refine(callsIn_wide.2 HC.out).mono ?_;rintro e w2 ⟨er,rfl,aC,hE⟩;have aB:=Z aC;have HE:=Z hE;have G:=hE.cl.tail.tail.head;clear aC hE HC;have y0:=G.cell 0;have y1:=G.frozen 0;have T:=Z G;clear G;(try dsimp only at y0 y1);have y2:=(T.out.set_ 0 (U O er)).cell 0;(try dsimp only at y2))
      ·exact⟨aq (aB.out _) _ _,nD dE.out hU.out HE.out (by rename_i h;simpa using h)⟩
      ·have he:er=0:=by rename_i h;simpa using h
       subst he;refine⟨aq (aB.out _) _ _,trivial,?_⟩;show dG w g A n c l C (gw g bc N ge) (cE (pre++[_])) 0 _;rw[bY];exact(HE.out.ok rfl).setE dE.out T.out (U O 0) (lO HE.out.cl)
     ·skip
      have hC:Calls ON 228 #[X (some ⟨g,0,none⟩)] W' λe W2=>∃er,e=OI (U O er)/\(∀B,KeepsFrom B W' W2)/\uv w g A n c l C (gw g bc N ge) (cE pre) 5 er W2:=by
       refine j7 hI K ja.out (λs v bl xs j hr hm=>?_);obtain⟨B0,B1,BL,BX,BY⟩:=K6.out (cE pre) s v bl xs M j hm ⟨_,K⟩;have B0:0<=({ax s 5 with v:=v}:aZ).a:=(by show 0<=(ax s 5).a;rw[(bp s 5).1];exact B0);have B1:({ax s 5 with v:=v}:aZ).a<=8*(V l:Int):=(by show (ax s 5).a<=_;rw[(bp s 5).1];exact B1);have BX:({ax s 5 with v:=v}:aZ).x=C.x:=(by show (ax s 5).x=_;rw[(bp s 5).2.1];exact BX);have BY:({ax s 5 with v:=v}:aZ).y=C.y:=(by show (ax s 5).y=_;rw[(bp s 5).2.2.1];exact BY);exact Ff hr fW HA.out (HT.out) HN.out hsz B0 B1 BL
      have HC:=Z hC;have HS:=Z bE;clear hC hI hP bE K M;dsimp only[mu];gi_wp2_with (refine⟨trivial,?_⟩;gi_at_call 228;refine(callsIn_wide.2 HC.out).mono ?_;rintro e w2 ⟨er,rfl,aC,hE⟩;have aB:=Z aC;have HE:=Z hE;have G:=hE.cl.tail.tail.head;clear aC hE HC;have y0:=G.cell 0;have y1:=G.frozen 0;have T:=Z G;clear G;(try dsimp only at y0 y1);have y2:=(T.out.set_ 0 (U O er)).cell 0;(try dsimp only at y2))
      ·exact⟨aq (aB.out _) _ _,nD dE.out hU.out HE.out (by rename_i h;simpa using h)⟩
      ·have he:er=0:=by rename_i h;simpa using h
       subst he;refine⟨aq (aB.out _) _ _,trivial,?_⟩;show dG w g A n c l C (gw g bc N ge) (cE (pre++[_])) 0 _;rw[bY];exact(HE.out.ok rfl).setE dE.out T.out (U O 0) (lO HE.out.cl)
  case done=>
   rintro D xs W2 hD hS LB hK;obtain⟨⟨s,bl,v,Iq,j,hr,hm⟩,La⟩:=LB;rw[hS] at j;rw[Jw l j] at hr;obtain⟨A2,c2,hv⟩:=aP hr.row;dsimp only at hv;subst hv;have KH:jB l C=((s,bl),0):=(vt l C).trans j
   have KI:r=(⟨ad,s.kd,s.qu,s.mx,s.my,s.pa,bl⟩,s.a - i,0):=by
    rcases J2.out with⟨_,_,h3⟩|⟨_,s',LM,h2,h3⟩
    ·rw[KH] at h3;exact absurd rfl h3
    ·rw[KH] at h2
     obtain⟨rfl,rfl⟩:=Prod.mk.inj h2;exact h3
   have had:s.ad=ad:=(by rw[BD l _ j,<-Lz.out]);have hk:=(jD l j).1
   have Ll:C.a<=8*(V l:Int):=by
    by_cases h:C.a<=8*(V l:Int)
    ·exact h
    ·exact absurd hk (oK (ns:=aG) rz (by omega)).2
   have hb:=rO l _ j (by rw[K3.out.1];omega) Ll;have Lu:Oa.wrap (s.a - i)=s.a - i:=(by have h1:=K3.out.1;have h2:=HN.out;have h3:=hb.1;have h4:=hb.2.1;rw[OV];omega);have KM:=Z KI;have HM:=Z hm;have HK:=Z hK;have HD:=Z hD;have LA:=Z Lu;clear KI hm hb Lu hk Ll hS KH j hK hD;have Ly:=Z hr;have L8:ar w [(N,55,bP m0 (Y none 0 0))] (sO w.heap.size (Y A2 (V Iq) c2) Iq) W2:=It hr (aa.cons La.tail.head (ag _));have Lj:=Z L8;have KL:=Z (show ab W2.drew g 208 (gj A n c {s with v:=Y A2 (V Iq) c2}) from hr.cell);have dD:=L8.2.1.head;have Ls:=La.tail.tail.head;clear hr L8 La;have y0:=Ls.cell 0;have q0:=dD.frozen 0;have q1:=dD.frozen 1;have q2:=dD.frozen 2;have q3:=dD.frozen 3;have q4:=dD.frozen 4;have q5:=dD.frozen 5;have q6:=dD.frozen 6;have r0:=dD.cell 0;have r1:=dD.cell 1;have r2:=dD.cell 2;have r3:=dD.cell 3;have r4:=dD.cell 4;have r5:=dD.cell 5;have r6:=dD.cell 6;unfold bP m0 at r0 r1 r2 r3 r4 r5 r6;simp at r0 r1 r2 r3 r4 r5 r6;(try dsimp only at y0 q0 q1 q2 q3 q4 q5 q6);clear Ls dD;obtain⟨sa,pt,KU,kd,qu,mx,my,pa,sv,sx,sy⟩:=s;dsimp only at had;subst had;unfold gj at KL;dsimp only at KL KM Ly Lj;have wj:=Z (λ(W:World) (i:Nat) (u:Value) (h:aa [(g,208,#[Y A n c,U O sa,OA pt.1,OA pt.2.1,OA pt.2.2.1,OA pt.2.2.2.1,OA pt.2.2.2.2,U O KU,U O kd,U O qu,U O mx,U O my,U O pa,Y A2 (V Iq) c2,U O sx,U O sy])] W)=>aa.far h (p:=⟨N,i,none⟩) (λq hq=>by rw[OT] at hq;subst hq;exact λe=>(ja.out _ (by simp[gw];exact .inr (.inl rfl)):_/\N≠g).2 e.symm) u);gi_wp2_with fail
   go_wp2_with fail
   refine bf (λw'=>aa [(g,208,#[Y A n c,U O sa,OA pt.1,OA pt.2.1,OA pt.2.2.1,OA pt.2.2.2.1,OA pt.2.2.2.2,U O KU,U O kd,U O qu,U O mx,U O my,U O pa,Y A2 (V Iq) c2,U O sx,U O sy])] w') 11 (OS 0 (OS 1 (OS 2 (OS 3 (OS 4 (OS 5 (OS 6 (OS 7 (OS 8 (OS 9 (Of 10 .done))))))))))) (aa.cons KL.out (ag _)) (λPE KC=>?_)
   iterate 10
    refine aj (v:=?_) rfl (by rfl) ?_ ?_
    rotate_left
    ·intro _ dY;(try dsimp only at dY);have z1:=dY.head.cell 1;have z7:=dY.head.cell 7;have z8:=dY.head.cell 8;have z9:=dY.head.cell 9;have LG:=dY.head.cell 10;have LH:=dY.head.cell 11;have LI:=dY.head.cell 12;have LJ:=dY.head.cell 13;dsimp only at z1 z7 z8 z9 LG LH LI LJ;go_simp;(try with_reducible rfl)
    simp only[OB,OE,OD]
   refine bG _ (w':=?_) rfl (by rfl) ?_ ?_ ?_;rotate_left 1
   ·go_simp;(first|(with_reducible rfl)|(constructor<;>with_reducible rfl)|skip)
   ·exact aa.drew (wj.out _ _ _ (wj.out _ _ _ (wj.out _ _ _ (wj.out _ _ _ (wj.out _ _ _ (wj.out _ _ _ (wj.out _ _ _ (aa.cons KL.out (ag _)))))))))
   refine KC _ _ ?_;clear KC PE;simp only[OX,Oc];go_wp2_with fail
   refine⟨rfl,?_⟩;go_wp2_with fail
   rw[Exit.noGoto_ret,KM.out];obtain⟨L7,KG⟩:=Bh Lj.out Lh.out sP HK.out (OP gJ.out HD.out) ⟨KU,kd,qu,mx,my,pa,bl⟩ (Y A2 (V Iq) c2);exact el L7 (jW N ⟨KU,kd,qu,mx,my,pa,bl⟩ (Y A2 (V Iq) c2) (sa - i) 0 _ _ KG.2.1.head rfl (congrArg (Value.int O) LA.out) rfl) (ua KG HM.out.symm)
  case stop=>
   rintro D cd pre W2 hD bE hX hK;obtain⟨rfl,KT,_,dt,Lb,KX⟩:=hX
   have KI:r=(m0,0,E):=by
    rcases J2.out with⟨_,h2,_⟩|⟨h1,_⟩
    ·rw[h2,hU.out]
    ·rw[hU.out] at h1;exact absurd h1 KT
   have KM:=Z KI;have LL:=Z KT;have Io:=Z dt;have eE:=Z Lb;have Lg:=Z KX;have HK:=Z hK;have HD:=Z hD;have y0:=Lb.cell 0;have q0:=dt.frozen 0;have q1:=dt.frozen 1;have q2:=dt.frozen 2;have q3:=dt.frozen 3;have q4:=dt.frozen 4;have q5:=dt.frozen 5;have q6:=dt.frozen 6;have r0:=dt.cell 0;have r1:=dt.cell 1;have r2:=dt.cell 2;have r3:=dt.cell 3;have r4:=dt.cell 4;have r5:=dt.cell 5;have r6:=dt.cell 6;unfold bP m0 at r0 r1 r2 r3 r4 r5 r6;simp at r0 r1 r2 r3 r4 r5 r6;(try dsimp only at y0 q0 q1 q2 q3 q4 q5 q6);have LK:(E !=0)=true:=(by simpa using KT);clear KI dt Lb KX hK hD bE KT;gi_wp2_with fail
   have Lx:=Z (show ab W2.drew ge 26 #[U O E] from eE.out);go_wp2_with fail
   refine bf (λw'=>aa [(ge,26,#[U O E])] w') 4 (OS 0 (OS 1 (Of 2 (Of 3 .done)))) (aa.cons Lx.out (ag _)) (λPE KC=>?_)
   iterate 2
    refine aj (v:=?_) rfl (by rfl) ?_ ?_
    rotate_left
    ·intro _ dY;(try dsimp only at dY);have z1:=dY.head.cell 0;dsimp only at z1;go_simp;(try with_reducible rfl)
    simp only[OB,OE,OD]
   refine bG _ (w':=?_) rfl (by rfl) ?_ ?_ ?_;rotate_left 1
   ·go_simp;(first|(with_reducible rfl)|(constructor<;>with_reducible rfl)|skip)
   ·have hf:∀(W:World)(i:Nat)(u:Value),aa [(ge,26,#[U O E])] W->aa [(ge,26,#[U O E])] (W.setCell ⟨N,i,none⟩ u):= λW i u h=>aa.far h (p:=⟨N,i,none⟩) (λq hq=>by rw[OT] at hq;subst hq;exact aU eE.out Io.out (by simp)) u
    exact aa.drew (hf _ _ _ (hf _ _ _ (hf _ _ _ (hf _ _ _ (hf _ _ _ (hf _ _ _ (hf _ _ _ (aa.cons eE.out (ag _)))))))))
   refine az (v:=?_) (w':=?_) rfl (by rfl) ?_ ?_ ?_;rotate_left 2
   ·go_simp;(try (constructor<;>with_reducible rfl))
   ·have hf:∀(W:World)(i:Nat)(u:Value),aa [(ge,26,#[U O E])] W->aa [(ge,26,#[U O E])] (W.setCell ⟨N,i,none⟩ u):= λW i u h=>aa.far h (p:=⟨N,i,none⟩) (λq hq=>by rw[OT] at hq;subst hq;exact aU eE.out Io.out (by simp)) u
    exact aa.drew (hf _ _ _ (hf _ _ _ (hf _ _ _ (hf _ _ _ (hf _ _ _ (hf _ _ _ (hf _ _ _ (aa.cons eE.out (ag _)))))))))
   simp only[OB,OE,OD];refine KC _ _ ?_;clear KC PE;simp only[OX,Oc];go_wp2_with fail
   refine⟨rfl,?_⟩;go_wp2_with fail
   rw[Exit.noGoto_ret,KM.out];obtain⟨L7,KG⟩:=Bh (R:=sO w.heap.size (Y none 0 0) []) ⟨Lg.out,aa.cons Io.out (ag _),ai.cons (OU _ _ _ _) (aA _)⟩ Lh.out sP HK.out (OP gJ.out HD.out) m0 (Y none 0 0);exact el L7 (jW N m0 (Y none 0 0) 0 E _ _ KG.2.1.head rfl rfl rfl) (ua KG rfl)
def kw (h:Nat) (i e:Int):List aL:=[(h,3,#[U O i]),(h+1,26,#[U O e])]
def oO (h:Nat) (A:Option Addr) (m c:Nat) (r:Nat) (u:Value):List aL:=(h+4,3,#[u])::(h+3,25,#[Y A m c])::(h+2,3,#[U O (r:Int)])::kw h 0 0
def o4 (l:List UInt8) (a q:Nat):Prop:=a<=q/\gp l q/\∀j,a<=j->j<q->¬gp l j
def Fw (l:List UInt8) (a:Nat) (w:World) (e:Ending) (w':World):Prop:=Below w.heap.size w w'/\((∃q:Nat,e=OI (OW #[U O (q:Int),U O 0])/\o4 l a q)\/(e=OI (OW #[U O 0,U O 5])/\∀j,a<=j->¬gp l j))
def ut (w:World) (A:Option Addr) (m c:Nat) (l:List UInt8) (a:Nat):List Nat->World->Prop:=
 cY w (λpre (_:Value)=>ky l a (V pre)) (λpre u=>oO w.heap.size A m c (gX l a (V pre)) u) (λ_ _=>[])
theorem Jv {w W:World}{A:Option Addr}{m c:Nat}{l:List UInt8}{a:Nat}{pre:List Nat}(v:Value)(h:ut w A m c l a pre W):ut w A m c l a pre (W.setCell ⟨w.heap.size+4,0,none⟩ v):=by
 obtain⟨⟨u,B,j⟩⟩:=h;refine⟨⟨v,B,?_⟩⟩;have h2:=aW j (g:=w.heap.size+4) (by omega) 0 v (w.heap.size+4,3,#[u]) (by simp[oO]) rfl (by simp)
 simpa [di,oO,kw] using h2
theorem Ef (h:Nat)(i e:Int)(tmps:Array Value)(W:World)(j:aa (kw h i e) W)(I:tmps.getD 4 undef=X (some ⟨h,0,none⟩))(K:tmps.getD 5 undef=X (some ⟨h+1,0,none⟩)):
  (results Tryz.f83 tmps).run ON W= .ok (OW #[U O i,U O e]) W:=by
 unfold kw at j;have D:W.cell? ⟨h,0,none⟩=some (U O i):=j.head.cell 0;have G:W.cell? ⟨h+1,0,none⟩=some (U O e):=j.tail.head.cell 0;have B:tmps[4]?.getD undef=X (some ⟨h,0,none⟩):=by simpa using I
 have C:tmps[5]?.getD undef=X (some ⟨h+1,0,none⟩):=by simpa using K
 simp[results,Tryz.results83,B,C,asAddr,D,G,go_sem]
theorem DW (A:Option Addr)(m c:Nat)(l:List UInt8)(a:Nat)(w:World)(hA:Sl w A (l.map af))(hl:V l=m)(hsz:m<=2 ^ 40)(ha:a<=8*m):
  Calls ON 83 #[Y A m c,U O (a:Int)] w (Fw l a w):=by
 have HA:=Z hA;have HL:=Z hl;have K9:=Z ha;have h0:¬((a:Int)<0):=by omega
 clear hA hl ha;refine(callsIn_wide (n:=5)).1 ?_;refine callsIn_of_wp_marks Tryz.func83 rfl trivial ?_ rfl;simp only[Tryz.ntmps83,OH,OK,OF,OL,OO,Array.replicate_succ,Array.replicate_zero,OG,OC,OM,OJ];refine wpIn_wide.2 ?_;go_wp2_with fail
 go_step3
 go_wp2_with fail
 go_step3
 go_wp2_with (go_at_call 139;refine(uB _ _ _ _ _).mono ?_;rintro e w' ⟨rfl,rfl⟩)
 simp only[Nat.add_assoc,OL]
 have dD:ar w (oO w.heap.size A m c 0 (U O (a:Int))) [] (((((w.alloc (J #[U O 0] 3)).alloc (J #[U O 0] 26)).alloc (J #[U O 0] 3)).alloc (J #[Y A m c] 25)).alloc (J #[U O (a:Int)] 3)):=by
  refine⟨((((((Below.refl _ _).alloc (Ob _) _).alloc (by simp) _).alloc (by simp;omega) _).alloc (by simp;omega) _).alloc (by simp;omega) _),?_,aA _⟩;unfold oO kw;refine aa.cons ?_ (aa.cons ?_ (aa.cons ?_ (aa.cons ?_ (aa.cons ?_ (ag _)))))
  all_goals (repeat (first|(refine aH (ab.new _ _ _) ?_;simp[World.size_alloc];done)|refine ab.alloc ?_ _))
 have fW:(((((w.alloc (J #[U O 0] 3)).alloc (J #[U O 0] 26)).alloc (J #[U O 0] 3)).alloc (J #[Y A m c] 25)).alloc (J #[U O (a:Int)] 3)).heap.size=w.heap.size+5:=by simp
 generalize ((((w.alloc (J #[U O 0] 3)).alloc (J #[U O 0] 26)).alloc (J #[U O 0] 3)).alloc (J #[Y A m c] 25)).alloc (J #[U O (a:Int)] 3)=W at dD fW⊢;have N:Hid (w.heap.size<=W.heap.size):=Z (by rw[fW];omega);have KF:=Z fW;have Kr:=Z (show ab W (w.heap.size+4) 3 #[U O (a:Int)] from dD.2.1.head);have KE:Hid (ut w A m c l a [] W):=Z ⟨⟨U O (a:Int),qU l a,dD⟩⟩;clear dD fW;refine(wpIn_wide (n:=5)).1 ?_
 refine tE (α:=Nat) (enc:=tS l)
  (IS:= λpre W=>ut w A m c l a pre W/\ab W (w.heap.size+4) 3 #[U O (a:Int)])
  (I:= λpre W=>ut w A m c l a pre W/\ab W (w.heap.size+4) 3 #[U O ((a+V pre:Nat):Int)])
  (I2:= λpre W=>ut w A m c l a pre W/\ab W (w.heap.size+4) 3 #[U O (((a+V pre:Nat):Int) - 1)])
  (IE:= λpre W=>ut w A m c l a pre W/\ab W (w.heap.size+4) 3 #[U O ((a+V pre:Nat):Int)])
  (S:= λxs=>o7 l a xs/\8*m<=a+V xs) (Sp:=o7 l a)
  rfl (by decide) (gf:=183) (lb:= #[X (some ⟨w.heap.size+4,0,none⟩),X (some ⟨w.heap.size+3,0,none⟩)]) rfl trivial (enters_of Tryz.func183 (by kernel_rfl) rfl)
  (uQ 4 (by decide) (w.heap.size+4) (w.heap.size+3) A m c l a HL.out hsz K9.out _ (λpre W v h=>Jv v h) (λpre A B h hb=>gS pre A B h hb) ?hCs) (λ_=>rfl)
  (λcd pre W=>m7 w (kw w.heap.size (((a+V pre:Nat):Int) - 16) 0) cd W/\o4 l a (a+V pre - 16)/\16<=a+V pre)
  (λpre x g W=>ut w A m c l a pre W/\ab W (w.heap.size+4) 3 #[U O ((a+V pre:Nat):Int)])
  (OwnFrom.and (bw N.out _ _ _) (bq _ _ _)) (OwnFrom.and (bw N.out _ _ _) (bq _ _ _)) (OwnFrom.and (bw N.out _ _ _) (bq _ _ _))
  (λcd=>?hIx) (λx g=>OwnFrom.and (bw N.out _ _ _) (bq _ _ _)) ⟨KE.out,Kr.out⟩ ?round ?done ?stop
 case hCs=>
  rintro pre W' ⟨⟨u,hp,hc⟩⟩;have K:=hc.2.1;unfold oO at K;exact⟨K.tail.head,HA.out.below hc.1⟩
 case hIx=>
  rintro s W1 W2 row ⟨⟨h1,h2⟩,h3⟩ hg hr;exact⟨⟨h1,h2.grown hg (λr e=>⟨OP N.out (hr r e).1,(hr r e).2⟩)⟩,h3⟩
 case round=>
  apply Exists.intro;refine And.intro ?_ ?_
  ·rintro lp pre x W' ⟨hI,hb⟩ aB
   have HI:=Z hI;have HB:=Z hb;clear hI hb aB;dsimp only[tS];gi_wp2
   obtain⟨g0,KJ⟩:∃g0,W'.heap.size=g0:=⟨_,rfl⟩;exact⟨⟨g0,rfl,HI.out,HB.out⟩,KeepsFrom.refl _ _⟩
  ·rintro lp pre x g W' ⟨⟨⟨u,hp,hc⟩⟩,hb⟩ aB
   obtain⟨K5,K6⟩:=yB aB;have hu:=ny (show ab W' (w.heap.size+4) 3 #[u] from hc.2.1.head) hb;simp at hu;subst hu;have HC:=Z hc;have HP:=Z hp;have G:=Z K5;have jT:=Z K6;have K:=hc.2.1;unfold oO kw at K;have y0:=K.tail.tail.head.cell 0;have y1:=K.tail.tail.head.frozen 0;have y2:=K.tail.tail.tail.head.cell 0;have y3:=K.tail.tail.tail.head.frozen 0;have y4:=K.tail.tail.tail.tail.head.cell 0;have y5:=K.tail.tail.tail.tail.head.frozen 0;(try dsimp only at y0 y1 y2 y3 y4 y5);clear K hc hb aB hp K5 K6;have eE:=qC l a (V pre);obtain⟨r,hr⟩:∃r,gX l a (V pre)=r:=⟨_,rfl⟩;have HR:=Z hr;rw[hr] at y0 eE;have T:V pre<=8*(V l):=(by have:=G.out;have:=jT.out;omega);have dE:=HL.out;have gy:=jT.out;rw[dE] at T gy;have dY:(pre++[x]).length=V pre+1:=(by rw[OY,List.length_singleton]);have C:=Z dY
   by_cases aC:aS l x=0
   ·have dt:((aS l x:Nat):Int)=0:=by omega
    have KI:Oa.wrap ((r:Int)+1)=(r:Int)+1:=(by rw[OV];omega);have Io:=Z aC;clear aC hr eE T gy dE dY;rw[dt];gi_wp2_with fail
    refine⟨aq (KeepsFrom.refl _ _) _ _,trivial,⟨⟨U O ((a+V pre:Nat):Int),?_,?_⟩⟩,?_⟩
    ·rw[C.out];exact oU HP.out (by rw[<-G.out];exact Io.out)
    ·have h2:=aW HC.out (g:=w.heap.size+2) (by omega) 0 (U O ((r:Int)+1)) (w.heap.size+2,3,#[U O (r:Int)]) (by simp[oO,HR.out]) rfl (by simp)
     have e1:gX l a (pre++[x]).length=r+1:=(by rw[C.out,gX,if_pos (by rw[<-G.out];exact Io.out),HR.out]);rw[e1]
     simpa [di,oO,kw,HR.out] using h2
    ·have h2:=HC.out.2.1.head.far (p:=⟨w.heap.size+2,0,none⟩) (by simp) (U O ((r:Int)+1))
     refine cast (congrArg (λv:Int=>ab _ _ _ #[U O v]) ?_) h2;have:=C.out;omega
   ·have kz:=kD l x aC
    have dt:((aS l x:Nat):Int)=1:=(by omega);have wj:=Z kz;rcases Nat.lt_or_ge r 15 with M|M
    ·have cz:¬((15:Int)<=(r:Int)):=by omega
     have rX:decide ((15:Int)<=(r:Int))=false:=(by simpa using cz);have Iq:=Z M;clear aC kz hr eE T gy dE dY M;rw[dt];gi_wp2_with fail
     refine⟨aq (KeepsFrom.refl _ _) _ _,trivial,⟨⟨U O ((a+V pre:Nat):Int),?_,?_⟩⟩,?_⟩
     ·rw[C.out];exact sR HP.out (by rw[HR.out];exact Iq.out)
     ·have h2:=aW HC.out (g:=w.heap.size+2) (by omega) 0 (U O 0) (w.heap.size+2,3,#[U O (r:Int)]) (by simp[oO,HR.out]) rfl (by simp)
      have e1:gX l a (pre++[x]).length=0:=(by rw[C.out,gX,if_neg (by rw[<-G.out,wj.out];decide)]);rw[e1]
      simpa [di,oO,kw,HR.out] using h2
     ·have h2:=HC.out.2.1.head.far (p:=⟨w.heap.size+2,0,none⟩) (by simp) (U O 0)
      refine cast (congrArg (λv:Int=>ab _ _ _ #[U O v]) ?_) h2;have:=C.out;omega
    ·have cz:((15:Int)<=(r:Int)):=by omega
     have rX:decide ((15:Int)<=(r:Int))=true:=(by simpa using cz);have bE:=sn HP.out (by rw[<-G.out];exact jT.out) (by rw[HR.out];exact M) (by rw[<-G.out];exact wj.out);have hU:15<=x:=(by have:=G.out;omega);have KI:Oa.wrap ((x:Int) - 15)=(x:Int) - 15:=(by rw[OV];omega);have ja:=Z bE;have J2:=Z hU;clear aC kz hr eE T gy dE dY M bE hU;rw[dt];gi_wp2_with fail
     refine⟨aq (aq (KeepsFrom.refl _ _) _ _) _ _,⟨rfl,?_⟩,?_,?_⟩
     ·have e1:((a+(pre++[x]).length:Nat):Int) - 16=(x:Int) - 15:=by have:=G.out;rw[C.out];omega
      rw[e1];have h2:=aw (aw (aw HC.out));have h3:=aW h2 (g:=w.heap.size) (by omega) 0 (U O ((x:Int) - 15)) (w.heap.size,3,#[U O 0]) (by simp[kw]) rfl (by simp);have h4:=aW h3 (g:=w.heap.size+1) (by omega) 0 (U O 0) (w.heap.size+1,26,#[U O 0]) (by simp[kw,di]) rfl (by simp)
      simpa [di,kw] using h4
     ·have e1:a+(pre++[x]).length - 16=a+V pre - 15:=by rw[C.out];omega
      rw[e1];have h:=ja.out;exact⟨by omega,h.2⟩
     ·have:=G.out;have:=J2.out;rw[C.out];omega
 case done=>
  rintro D xs W2 hD ⟨hS,K4⟩ ⟨⟨⟨u,hp,hc⟩⟩,hb⟩ hK;have HC:=Z hc;have HK:=Z hK;have HD:=Z hD;have HN:Hid (∀j,a<=j->¬gp l j):=Z (λj h1 h2=>hp j h1 (by have:=h2.1;have:=HL.out;omega) h2);have K:=hc.2.1;unfold oO kw at K;have y2:=K.tail.tail.tail.head.cell 0;have y3:=K.tail.tail.tail.head.frozen 0;have y4:=K.tail.tail.tail.tail.head.cell 0;have y5:=K.tail.tail.tail.tail.head.frozen 0;(try dsimp only at y2 y3 y4 y5);clear K hc hb hS K4 hp hK hD;gi_wp2_with fail
  go_wp2_with fail
  have KG:ar w (kw w.heap.size 0 5) [] ((W2.setCell ⟨w.heap.size,0,none⟩ (U O 0)).setCell ⟨w.heap.size+1,0,none⟩ (U O 5)):=by
   have h2:=aw (aw (aw HC.out));have h3:=aW h2 (g:=w.heap.size) (by omega) 0 (U O 0) (w.heap.size,3,#[U O 0]) (by simp[kw]) rfl (by simp);have h4:=aW h3 (g:=w.heap.size+1) (by omega) 0 (U O 5) (w.heap.size+1,26,#[U O 0]) (by simp[kw,di]) rfl (by simp)
   simpa [di,kw] using h4
  have K1:((W2.setCell ⟨w.heap.size,0,none⟩ (U O 0)).setCell ⟨w.heap.size+1,0,none⟩ (U O 5)).heap[D]? =some (.deferred (some [])):=by
   have KH:=HD.out;rw[KF.out] at KH;rw[Below.heap_setCell _ _ _ D (by show D≠w.heap.size+1;omega),Below.heap_setCell _ _ _ D (by show D≠w.heap.size;omega)];exact HK.out
  have K2:=iu (o':= .deferred none) KG K1 rfl (by have:=HD.out;have:=N.out;omega);exact el K1 (Ef w.heap.size 0 5 _ _ K2.2.1 rfl rfl) ⟨K2.1,.inr ⟨rfl,HN.out⟩⟩
 case stop=>
  rintro D cd pre W2 hD aB ⟨⟨rfl,gJ,K3,_⟩,bE,K0⟩ hK;have Ip:=Z gJ;have KC:=Z K3;have HK:=Z hK;have HD:=Z hD;have ja:=Z bE;have K8:=Z K0;clear gJ K3 hK aB hD bE K0;gi_wp2_with fail
  exact el HK.out (Ef w.heap.size _ 0 _ _ (cR (o':= .deferred none) KC.out HK.out rfl) rfl rfl) ⟨cA Ip.out (OP N.out HD.out),.inl ⟨a+V pre - 16,by rw[show ((a+V pre - 16:Nat):Int)=((a+V pre:Nat):Int) - 16 by have:=K8.out;omega],ja.out⟩⟩
theorem Gu {w:World}{b D:Nat}{e:TypeId}{size n:Nat}{v:Value}{xs:List Value}(h:w.ownsRow b e size v n xs)(K:D<=b):w.ownsRow D e size v n xs:=by
 refine⟨h.1,?_⟩;rcases h.2 with h2|⟨g,j,B,G,C,I⟩
 ·exact .inl h2
 ·exact .inr ⟨g,j,B,G,OP K C,I⟩
def Hl (base:Nat) (p:ew):aV:=⟨base,189,2,Y p.2.1 p.1.l.length p.2.2,p.1.l.length,av bj p.1.l⟩
theorem H9 (j:List ew)(p:ew):av ij (j++[p])=av ij j++[U O p.1.dc,Y p.2.1 p.1.l.length p.2.2]:=by rw[eo,dV];rfl
end Go.Proofs.YthhijgcfbjcgiaaGreatDoor
