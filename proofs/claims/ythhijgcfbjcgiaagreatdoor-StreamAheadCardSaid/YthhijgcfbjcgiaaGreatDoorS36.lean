/- MOk, SameS -/
import Derived.Test.YthhijgcfbjcgiaaGreatDoorS31
import Derived.Test.YthhijgcfbjcgiaaGreatDoorS02
import Derived.Test.YthhijgcfbjcgiaaGreatDoorS29
import Derived.Test.YthhijgcfbjcgiaaGreatDoorS18
import Derived.Test.YthhijgcfbjcgiaaGreatDoorS35
import Derived.Test.YthhijgcfbjcgiaaGreatDoorS30
import Derived.Test.YthhijgcfbjcgiaaGreatDoorS03
namespace Go.Proofs.YthhijgcfbjcgiaaGreatDoor
open Go Go.RowKit

end Go.Proofs.YthhijgcfbjcgiaaGreatDoor
namespace Go.Proofs.YthhijgcfbjcgiaaGreatDoor
open Go Go.RowKit
attribute [local go_sem] Oper.semAt_some
open Go.Lib renaming hid→zAA
open List renaming setIfInBounds_toArray→zAB,set_cons_succ→zAC,set_cons_zero→zAD,getElem?_eq_getElem→zAE,getElem_mem→zAF,getElem?_cons_succ→zAG,getElem?_cons_zero→zAH,getElem?_toArray→zAI,drop_succ_cons→zAJ,getElem?_map→zAK,drop_nil→zAO,map_cons→zAP,map_nil→zAQ
open Go.IntKind renaming wrap_i64→zAL,i64→zAR
open Option renaming getD_some→zAM,map_some→zAN
open Nat renaming le_refl→zAS
set_option maxRecDepth 100000 in
theorem kK (A B:Option Addr) (n m c d:Nat) (l k:List UInt8) (w:World) (hA:Sl w A (l.map af)) (hB:Sl w B (k.map af)) (hn:l.length=n) (hm:k.length=m):
  Calls Tryz.prog 14 #[.slice A n c,.slice B m d] w fun e w'=>e= .returned (.bool (l==k))∧w=w':=by
 have h1:∀(A:Option Addr) (l:List UInt8) (n c:Nat),Sl w A (l.map af)→l.length=n→(convert 25 9 (.slice A n c)).run Tryz.prog w= .ok (.string (bs l)) w:=fun A l n c h hn=>oX (P:=Tryz.prog) 25 9 5 (by kernel_rfl) (by kernel_rfl) (by kernel_rfl) h n c hn
 have g1:=h1 A l n c hA hn
 have g2:=h1 B k m d hB hm
 clear h1 hA hB hn hm
 go_enter Tryz.func14,Tryz.ntmps14
 go_wp2_with fail
 go_ret
 exact ⟨rfl,rfl⟩
set_option maxRecDepth 100000 in
theorem xm (tm ty:Int) (l:List UInt8) (A B:Option Addr) (n c d:Nat) (w:World) (hA:Sl w A (l.map af)) (hB:Sl w B (l.map af)) (hn:l.length=n):
  Calls Tryz.prog 97 #[.agg #[.int .i64 tm,.int .i64 ty,.slice A n c],.agg #[.int .i64 tm,.int .i64 ty,.slice B n d]] w fun e w'=>e= .returned (.bool true)∧Below w.heap.size w w':=by
 have hb1:Below w.heap.size w ((w.alloc (.cells #[.int .i64 tm,.int .i64 ty,.slice A n c] 32)).alloc (.cells #[.int .i64 tm,.int .i64 ty,.slice B n d] 32)):=((Below.refl _ _).alloc (zAS _) _).alloc (by simp) _
 have C:=zAA (kK A B n n c d l l _ (hA.below hb1) (hB.below hb1) hn hn)
 rw [beq_self_eq_true] at C
 have HB:=zAA hb1
 clear hA hB hn hb1
 go_enter Tryz.func97,Tryz.ntmps97
 go_wp2_with (go_at_call 14;refine C.out.mono ?_;rintro e w2 ⟨rfl,rfl⟩)
 go_ret
 exact ⟨rfl,HB.out⟩
set_option maxRecDepth 100000 in
set_option maxHeartbeats 8000000 in
theorem vJ (p q:cV) (w:World) (he:p.g=q.g) (hp:jZ w p) (hq:jZ w q) (hsp:ra p) (hsq:ra q):
  Calls Tryz.prog 98 #[pl p,pl q] w fun e w'=>e= .returned (.bool true)∧Below w.heap.size w w':=by
 obtain ⟨num,qu,sp,sA,sc,xs,A,c⟩:=p
 obtain ⟨num2,qu2,sp2,sB,sd,ys,B,d⟩:=q
 unfold cV.g at he
 dsimp only at he
 injection he with h1 h2 h3 h4
 subst h1 h2 h3
 obtain ⟨hp1,hp2,hp3⟩:=hp
 obtain ⟨hq1,hq2,hq3⟩:=hq
 obtain ⟨_,hl1,hs1⟩:=hsp
 obtain ⟨_,_,hs2⟩:=hsq
 unfold pl
 dsimp only at hp1 hp2 hp3 hq1 hq2 hq3 hl1 hs1 hs2⊢
 have hlen:ys.length=xs.length:=by have h:=congrArg List.length h4;simpa using h.symm
 obtain ⟨n,hn⟩:∃n,xs.length=n:=⟨_,rfl⟩
 obtain ⟨k,hk⟩:∃k,sp.length=k:=⟨_,rfl⟩
 rw [hlen,hn,hk]
 rw [hn] at hlen hl1
 have hb1:Below w.heap.size w ((w.alloc (.cells #[.int .i64 num,.int .i64 qu,.slice sA k sc,.slice A n c] 51)).alloc (.cells #[.int .i64 num,.int .i64 qu,.slice sB k sd,.slice B n d] 51)):=((Below.refl _ _).alloc (zAS _) _).alloc (by simp) _
 have CB:=zAA (kK sA sB k k sc sd sp sp _ (hp1.below hb1) (hq1.below hb1) hk hk)
 rw [beq_self_eq_true] at CB
 obtain ⟨g1,hg1⟩:∃g,w.heap.size=g:=⟨_,rfl⟩
 have HG1:=zAA hg1
 have hc1:ab ((w.alloc (.cells #[.int .i64 num,.int .i64 qu,.slice sA k sc,.slice A n c] 51)).alloc (.cells #[.int .i64 num,.int .i64 qu,.slice sB k sd,.slice B n d] 51)) g1 51 #[.int .i64 num,.int .i64 qu,.slice sA k sc,.slice A n c]:=(aD (ab.new _ _ _) hg1).alloc _
 have hc2:ab ((w.alloc (.cells #[.int .i64 num,.int .i64 qu,.slice sA k sc,.slice A n c] 51)).alloc (.cells #[.int .i64 num,.int .i64 qu,.slice sB k sd,.slice B n d] 51)) (g1+1) 51 #[.int .i64 num,.int .i64 qu,.slice sB k sd,.slice B n d]:=aD (ab.new _ _ _) (by simp [hg1])
 have HA1:=zAA (hp2.below hb1);have HB1:=zAA (hq2.below hb1)
 have HM1:=zAA (fun m hm=>(hp3 m hm).below hb1);have HM2:=zAA (fun m hm=>(hq3 m hm).below hb1)
 have HS1:=zAA hs1;have HS2:=zAA hs2;have HEQ:=zAA h4;have HBE:=zAA hb1;have HN:=zAA hn;have HK:=zAA hlen;have HC1:=zAA hc1;have HC2:=zAA hc2
 have x0:=hc1.cell 0;have x1:=hc1.cell 1;have x2:=hc1.cell 2;have x3:=hc1.cell 3
 have v0:=hc2.cell 0;have v1:=hc2.cell 1;have v2:=hc2.cell 2;have v3:=hc2.cell 3
 (try dsimp only at x0 x1 x2 x3 v0 v1 v2 v3)
 clear hp1 hp2 hp3 hq1 hq2 hq3 hs1 hs2 h4 hlen hn hk hb1 hc1 hc2
 go_enter Tryz.func98,Tryz.ntmps98
 go_wp2_with (go_at_call 14;refine CB.out.mono ?_;rintro e w2 ⟨rfl,rfl⟩)
 generalize (w.alloc (.cells #[.int .i64 num,.int .i64 qu,.slice sA k sc,.slice A n c] 51)).alloc (.cells #[.int .i64 num,.int .i64 qu,.slice sB k sd,.slice B n d] 51)=W1 at*
 clear CB x0 x1 x2 x3 v0 v1 v2 v3 hg1
 go_loopg [5] n (fun g i=>fun wr=>∃(j:Nat),j+g=n∧i= .int .i64 (j:Int)∧Hid (Below W1.heap.size W1 wr))
 case atStart=>exact ⟨0,by omega,rfl,zAA (Below.refl _ _)⟩
 case round=>
  obtain ⟨j,hj,rfl,HI⟩:=hrel
  have hz:=(HC1.out.below HI.out HC1.out.lt).cell 3
  (try dsimp only at hz)
  cases gk with
  |zero=>
   have hlt:¬((j:Int)<(n:Int)):=by omega
   clear hj
   go_wp2_with fail
   go_ret
   exact ⟨rfl,by have h:=HBE.out;rw [←HG1.out] at*;exact h.trans (HI.out.mono h.size)⟩
  |succ g=>
   have hlt:((j:Int)<(n:Int)):=by omega
   have hlt0:¬((j:Int)<0):=by omega
   have hjl:j<xs.length:=by rw [HN.out];omega
   have hjm:j<ys.length:=by rw [HK.out];omega
   obtain ⟨a,rfl,ha0⟩:=mo (HA1.out.below HI.out) j hjl
   obtain ⟨b,rfl,hb0⟩:=mo (HB1.out.below HI.out) j hjm
   obtain ⟨p,hp⟩:∃p,xs[j]=p:=⟨_,rfl⟩
   obtain ⟨q,hq⟩:∃q,ys[j]=q:=⟨_,rfl⟩
   have HC:Hid (∀W,Sl W (some a) (av eT xs)∧Sl W (some b) (av eT ys)→(W.cell? (a.add (j*7))=some (.int .i64 p.m.ad)∧W.cell? ⟨(a.add (j*7)).block,(a.add (j*7)).off+1,none⟩=some (.int .i64 p.m.kd)∧W.cell? ⟨(a.add (j*7)).block,(a.add (j*7)).off+2,none⟩=some (.int .i64 p.m.qu)∧W.cell? ⟨(a.add (j*7)).block,(a.add (j*7)).off+3,none⟩=some (.int .i64 p.m.x)∧W.cell? ⟨(a.add (j*7)).block,(a.add (j*7)).off+4,none⟩=some (.int .i64 p.m.y)∧W.cell? ⟨(a.add (j*7)).block,(a.add (j*7)).off+5,none⟩=some (.int .i64 p.m.pa)∧W.cell? ⟨(a.add (j*7)).block,(a.add (j*7)).off+6,none⟩=some (.slice p.A p.xs.length p.c))∧(W.cell? (b.add (j*7))=some (.int .i64 q.m.ad)∧W.cell? ⟨(b.add (j*7)).block,(b.add (j*7)).off+1,none⟩=some (.int .i64 q.m.kd)∧W.cell? ⟨(b.add (j*7)).block,(b.add (j*7)).off+2,none⟩=some (.int .i64 q.m.qu)∧W.cell? ⟨(b.add (j*7)).block,(b.add (j*7)).off+3,none⟩=some (.int .i64 q.m.x)∧W.cell? ⟨(b.add (j*7)).block,(b.add (j*7)).off+4,none⟩=some (.int .i64 q.m.y)∧W.cell? ⟨(b.add (j*7)).block,(b.add (j*7)).off+5,none⟩=some (.int .i64 q.m.pa)∧W.cell? ⟨(b.add (j*7)).block,(b.add (j*7)).off+6,none⟩=some (.slice q.A q.xs.length q.c))):=zAA fun W hW=>by
    obtain ⟨a',e1,_,c0,c1,c2,c3,c4,c5,c6⟩:=mo hW.1 j hjl
    obtain ⟨b',e2,_,d0,d1,d2,d3,d4,d5,d6⟩:=mo hW.2 j hjm
    cases e1;cases e2
    rw [hp] at c0 c1 c2 c3 c4 c5 c6
    rw [hq] at d0 d1 d2 d3 d4 d5 d6
    exact ⟨⟨c0,c1,c2,c3,c4,c5,c6⟩,d0,d1,d2,d3,d4,d5,d6⟩
   have hw1:zAR.wrap ((j:Int)+1)=(j:Int)+1:=by rw [zAL];omega
   have HJJ:=zAA hj
   have hI0:Below W1.heap.size W1 wr.drew:=HI.out.drew
   have HI2:=zAA hI0
   have hpm:p∈xs:=by rw [←hp];exact zAF hjl
   have hqm:q∈ys:=by rw [←hq];exact zAF hjm
   have hpq:p.m=q.m:=by
    have h:=congrArg (fun l=>l[j]?) HEQ.out
    simp only [zAK,zAE hjl,zAE hjm,zAN,Option.some.injEq] at h
    rw [hp,hq] at h
    exact h
   have HST:Hid ((aa [(g1,51,#[.int .i64 num,.int .i64 qu,.slice sA k sc,.slice (some a) n c]),(g1+1,51,#[.int .i64 num,.int .i64 qu,.slice sB k sd,.slice (some b) n d])] wr.drew)∧Sl wr.drew (some a) (av eT xs)∧Sl wr.drew (some b) (av eT ys)):=zAA ⟨aa.cons (HC1.out.below hI0 HC1.out.lt) (aa.cons (HC2.out.below hI0 HC2.out.lt) (ag _)),HA1.out.below hI0,HB1.out.below hI0⟩
   have hsb:=vK p.m q.m p.xs q.xs p.A q.A p.c q.c wr.drew (HM1.out p hpm).e (HM2.out q hqm).e (((HM1.out p hpm).below hI0).bks (HS1.out p hpm)) (((HM2.out q hqm).below hI0).bks (HS2.out q hqm))
   rw [pR.2 hpq] at hsb
   unfold fx at hsb
   have HSB:=zAA hsb
   clear hsb
   clear ha0 hb0 hj hp hq hI0 hpm hqm hpq hjl hjm
   go_wp2_with fail
   refine ai (fun W=>(aa [(g1,51,#[.int .i64 num,.int .i64 qu,.slice sA k sc,.slice (some a) n c]),(g1+1,51,#[.int .i64 num,.int .i64 qu,.slice sB k sd,.slice (some b) n d])] W)∧Sl W (some a) (av eT xs)∧Sl W (some b) (av eT ys)) 12 (.take 0 (.take 1 (.take 2 (.take 3 (.take 4 (.take 5 (.take 6 (.take 7 (.take 8 (.take 9 (.step 10 (.take 11 .done)))))))))))) (by kernel_rfl) (by kernel_rfl) (by simp only [aR.out,Array.getD_eq_getD_getElem?,zAI,zAH,zAG,zAM];rfl) (by simp only [zAP,zAQ];rfl) (HST.out) (fun PE hPE=>?_)
   iterate 10
    refine ah (v:=?_) rfl (by rfl) ?_ ?_
    rotate_left
    ·intro _ hSw;(try dsimp only at hSw);obtain ⟨⟨z0,z1,z2,z3,z4,z5,z6⟩,y0,y1,y2,y3,y4,y5,y6⟩:=HC.out _ hSw.2;have z7:=hSw.1.head.cell 3;have z8:=hSw.1.tail.head.cell 3;(try dsimp only at z7 z8);go_simp;(try with_reducible rfl)
    simp only [zAB,zAD,zAC]
   refine aV (f:=151) rfl (by rfl) (by first|(go_simp;done)|(go_simp;rfl)) HSB.out ?_
   rintro e w2 ⟨rfl,hb2⟩
   have HI3:=zAA (HI2.out.trans (hb2.mono HI2.out.size))
   refine ⟨_,rfl,_,fun _ h=>h,⟨HST.out.1.below hb2,HST.out.2.1.below hb2,HST.out.2.2.below hb2⟩,?_⟩
   simp only [zAB,zAD,zAC]
   refine ah (v:=?_) rfl (by rfl) ?_ ?_
   rotate_left
   ·intro _ hSw;(try dsimp only at hSw);go_simp;(try with_reducible rfl)
   simp only [zAB,zAD,zAC]
   refine hPE _ _ ?_
   clear hPE PE
   simp only [zAJ,zAO]
   clear hb2 hz
   go_wp2_with fail
   refine ⟨rfl,?_⟩
   go_wp2_with fail
   go_roundg g
   case measure=>omega
   case rel=>exact ⟨j+1,by have:=HJJ.out;omega,rfl,HI3⟩
set_option maxRecDepth 100000 in
set_option maxHeartbeats 8000000 in
theorem xn (p q:bh) (w:World) (he:p.s=q.s) (hp:ek w p) (hq:ek w q) (hsp:fL p) (hsq:fL q):
  Calls Tryz.prog 54 #[eE p,eE q] w fun e w'=>e= .returned (.bool true)∧Below w.heap.size w w':=by
 obtain ⟨num,qu,sp,sA,sc,xs,A,c⟩:=p
 obtain ⟨num2,qu2,sp2,sB,sd,ys,B,d⟩:=q
 unfold bh.s at he
 dsimp only at he
 injection he with h1 h4
 injection h1 with h1 h2 h3
 subst h1 h2 h3
 obtain ⟨hp1,hp2,hp3⟩:=hp
 obtain ⟨hq1,hq2,hq3⟩:=hq
 obtain ⟨_,hl1,hs1⟩:=hsp
 obtain ⟨_,_,hs2⟩:=hsq
 unfold eE
 dsimp only at hp1 hp2 hp3 hq1 hq2 hq3 hl1 hs1 hs2⊢
 have hlen:ys.length=xs.length:=by have h:=congrArg List.length h4;simpa using h.symm
 obtain ⟨n,hn⟩:∃n,xs.length=n:=⟨_,rfl⟩
 obtain ⟨k,hk⟩:∃k,sp.length=k:=⟨_,rfl⟩
 rw [hlen,hn,hk]
 rw [hn] at hlen hl1
 have hb1:Below w.heap.size w ((w.alloc (.cells #[.int .i64 num,.int .i64 qu,.slice sA k sc,.slice A n c] 35)).alloc (.cells #[.int .i64 num,.int .i64 qu,.slice sB k sd,.slice B n d] 35)):=((Below.refl _ _).alloc (zAS _) _).alloc (by simp) _
 have CB:=zAA (xm num qu sp sA sB k sc sd _ (hp1.below hb1) (hq1.below hb1) hk)
 obtain ⟨g1,hg1⟩:∃g,w.heap.size=g:=⟨_,rfl⟩
 have HG1:=zAA hg1
 have hc1:ab ((w.alloc (.cells #[.int .i64 num,.int .i64 qu,.slice sA k sc,.slice A n c] 35)).alloc (.cells #[.int .i64 num,.int .i64 qu,.slice sB k sd,.slice B n d] 35)) g1 35 #[.int .i64 num,.int .i64 qu,.slice sA k sc,.slice A n c]:=(aD (ab.new _ _ _) hg1).alloc _
 have hc2:ab ((w.alloc (.cells #[.int .i64 num,.int .i64 qu,.slice sA k sc,.slice A n c] 35)).alloc (.cells #[.int .i64 num,.int .i64 qu,.slice sB k sd,.slice B n d] 35)) (g1+1) 35 #[.int .i64 num,.int .i64 qu,.slice sB k sd,.slice B n d]:=aD (ab.new _ _ _) (by simp [hg1])
 have HAZ:=zAA (hp2.below hb1);have HBZ:=zAA (hq2.below hb1)
 have HMX:=zAA (fun m hm=>(hp3 m hm).below hb1);have HMY:=zAA (fun m hm=>(hq3 m hm).below hb1)
 have HS1:=zAA hs1;have HS2:=zAA hs2;have HEQ:=zAA h4;have HBE:=zAA hb1;have HN:=zAA hn;have HK:=zAA hlen;have HCZ:=zAA (And.intro hc1 hc2)
 have x0:=hc1.cell 0;have x1:=hc1.cell 1;have x2:=hc1.cell 2;have x3:=hc1.cell 3
 have v0:=hc2.cell 0;have v1:=hc2.cell 1;have v2:=hc2.cell 2;have v3:=hc2.cell 3
 (try dsimp only at x0 x1 x2 x3 v0 v1 v2 v3)
 clear hp1 hp2 hp3 hq1 hq2 hq3 hs1 hs2 h4 hlen hn hk hb1 hc1 hc2
 go_enter Tryz.func54,Tryz.ntmps54
 go_wp2_with (go_at_call 97;refine CB.out.mono ?_;rintro e W1 ⟨rfl,hb2⟩;have hc3:=HCZ.out.1.below hb2 HCZ.out.1.lt;have hc4:=HCZ.out.2.below hb2 HCZ.out.2.lt;have HC1:=zAA hc3;have HC2:=zAA hc4;have HB2:=zAA hb2;have HA1:=zAA (HAZ.out.below hb2);have HB1:=zAA (HBZ.out.below hb2);have HM1:=zAA (fun m hm=>(HMX.out m hm).below hb2);have HM2:=zAA (fun m hm=>(HMY.out m hm).below hb2);have u3:=hc3.cell 3;have w3:=hc4.cell 3;(try dsimp only at u3 w3);clear hb2 hc3 hc4 x0 x1 x2 x3 v0 v1 v2 v3)
 clear CB u3 w3 hg1
 go_loopg [5] n (fun g i=>fun wr=>∃(j:Nat),j+g=n∧i= .int .i64 (j:Int)∧Hid (Below W1.heap.size W1 wr))
 case atStart=>exact ⟨0,by omega,rfl,zAA (Below.refl _ _)⟩
 case round=>
  obtain ⟨j,hj,rfl,HI⟩:=hrel
  have hz:=(HC1.out.below HI.out HC1.out.lt).cell 3
  (try dsimp only at hz)
  cases gk with
  |zero=>
   have hlt:¬((j:Int)<(n:Int)):=by omega
   clear hj
   go_wp2_with fail
   go_ret
   exact ⟨rfl,by have h:=HBE.out.trans (HB2.out.mono HBE.out.size);rw [←HG1.out] at*;exact h.trans (HI.out.mono h.size)⟩
  |succ g=>
   have hlt:((j:Int)<(n:Int)):=by omega
   have hlt0:¬((j:Int)<0):=by omega
   have hjl:j<xs.length:=by rw [HN.out];omega
   have hjm:j<ys.length:=by rw [HK.out];omega
   obtain ⟨a,rfl,ha0⟩:=mj (HA1.out.below HI.out) j hjl
   obtain ⟨b,rfl,hb0⟩:=mj (HB1.out.below HI.out) j hjm
   obtain ⟨p,hp⟩:∃p,xs[j]=p:=⟨_,rfl⟩
   obtain ⟨q,hq⟩:∃q,ys[j]=q:=⟨_,rfl⟩
   have HC:Hid (∀W,Sl W (some a) (av fN xs)∧Sl W (some b) (av fN ys)→(W.cell? (a.add (j*4))=some (.int .i64 p.num)∧W.cell? ⟨(a.add (j*4)).block,(a.add (j*4)).off+1,none⟩=some (.int .i64 p.qu)∧W.cell? ⟨(a.add (j*4)).block,(a.add (j*4)).off+2,none⟩=some (.slice p.sA p.sp.length p.sc)∧W.cell? ⟨(a.add (j*4)).block,(a.add (j*4)).off+3,none⟩=some (.slice p.A p.ms.length p.c))∧(W.cell? (b.add (j*4))=some (.int .i64 q.num)∧W.cell? ⟨(b.add (j*4)).block,(b.add (j*4)).off+1,none⟩=some (.int .i64 q.qu)∧W.cell? ⟨(b.add (j*4)).block,(b.add (j*4)).off+2,none⟩=some (.slice q.sA q.sp.length q.sc)∧W.cell? ⟨(b.add (j*4)).block,(b.add (j*4)).off+3,none⟩=some (.slice q.A q.ms.length q.c))):=zAA fun W hW=>by
    obtain ⟨a',e1,_,c0,c1,c2,c3⟩:=mj hW.1 j hjl
    obtain ⟨b',e2,_,d0,d1,d2,d3⟩:=mj hW.2 j hjm
    cases e1;cases e2
    rw [hp] at c0 c1 c2 c3
    rw [hq] at d0 d1 d2 d3
    exact ⟨⟨c0,c1,c2,c3⟩,d0,d1,d2,d3⟩
   have hw1:zAR.wrap ((j:Int)+1)=(j:Int)+1:=by rw [zAL];omega
   have HJJ:=zAA hj
   have hI0:Below W1.heap.size W1 wr.drew:=HI.out.drew
   have HI2:=zAA hI0
   have hpm:p∈xs:=by rw [←hp];exact zAF hjl
   have hqm:q∈ys:=by rw [←hq];exact zAF hjm
   have hpq:p.g=q.g:=by
    have h:=congrArg (fun l=>l[j]?) HEQ.out
    simp only [zAK,zAE hjl,zAE hjm,zAN,Option.some.injEq] at h
    rw [hp,hq] at h
    exact h
   have HST:Hid ((aa [(g1,35,#[.int .i64 num,.int .i64 qu,.slice sA k sc,.slice (some a) n c]),(g1+1,35,#[.int .i64 num,.int .i64 qu,.slice sB k sd,.slice (some b) n d])] wr.drew)∧Sl wr.drew (some a) (av fN xs)∧Sl wr.drew (some b) (av fN ys)):=zAA ⟨aa.cons (HC1.out.below hI0 HC1.out.lt) (aa.cons (HC2.out.below hI0 HC2.out.lt) (ag _)),HA1.out.below hI0,HB1.out.below hI0⟩
   have hsb:=vJ p q wr.drew hpq ((HM1.out p hpm).below hI0) ((HM2.out q hqm).below hI0) (HS1.out p hpm) (HS2.out q hqm)
   unfold pl at hsb
   have HSB:=zAA hsb
   clear hsb
   clear ha0 hb0 hj hp hq hI0 hpm hqm hpq hjl hjm
   go_wp2_with fail
   refine ai (fun W=>(aa [(g1,35,#[.int .i64 num,.int .i64 qu,.slice sA k sc,.slice (some a) n c]),(g1+1,35,#[.int .i64 num,.int .i64 qu,.slice sB k sd,.slice (some b) n d])] W)∧Sl W (some a) (av fN xs)∧Sl W (some b) (av fN ys)) 12 (.take 0 (.take 1 (.take 2 (.take 3 (.take 4 (.take 5 (.take 6 (.take 7 (.take 8 (.take 9 (.step 10 (.take 11 .done)))))))))))) (by kernel_rfl) (by kernel_rfl) (by simp only [aR.out,Array.getD_eq_getD_getElem?,zAI,zAH,zAG,zAM];rfl) (by simp only [zAP,zAQ];rfl) (HST.out) (fun PE hPE=>?_)
   iterate 10
    refine ah (v:=?_) rfl (by rfl) ?_ ?_
    rotate_left
    ·intro _ hSw;(try dsimp only at hSw);obtain ⟨⟨z0,z1,z2,z3⟩,y0,y1,y2,y3⟩:=HC.out _ hSw.2;have z7:=hSw.1.head.cell 3;have z8:=hSw.1.tail.head.cell 3;(try dsimp only at z7 z8);go_simp;(try with_reducible rfl)
    simp only [zAB,zAD,zAC]
   refine aV (f:=98) rfl (by rfl) (by first|(go_simp;done)|(go_simp;rfl)) HSB.out ?_
   rintro e w2 ⟨rfl,hb2⟩
   have HI3:=zAA (HI2.out.trans (hb2.mono HI2.out.size))
   refine ⟨_,rfl,_,fun _ h=>h,⟨HST.out.1.below hb2,HST.out.2.1.below hb2,HST.out.2.2.below hb2⟩,?_⟩
   simp only [zAB,zAD,zAC]
   refine ah (v:=?_) rfl (by rfl) ?_ ?_
   rotate_left
   ·intro _ hSw;(try dsimp only at hSw);go_simp;(try with_reducible rfl)
   simp only [zAB,zAD,zAC]
   refine hPE _ _ ?_
   clear hPE PE
   simp only [zAJ,zAO]
   clear hb2 hz
   go_wp2_with fail
   refine ⟨rfl,?_⟩
   go_wp2_with fail
   go_roundg g
   case measure=>omega
   case rel=>exact ⟨j+1,by have:=HJJ.out;omega,rfl,HI3⟩
set_option maxRecDepth 100000 in
set_option maxHeartbeats 8000000 in
theorem gP (xs ys:List bh) (A B:Option Addr) (n m c d:Nat) (W1:World) (hn:xs.length=n) (hm:ys.length=m) (he:xs.map (·.s)=ys.map (·.s)) (hp:dR W1 A xs) (hq:dR W1 B ys) (hsp:∀s∈xs,fL s) (hsq:∀s∈ys,fL s) (hl1:n≤2 ^ 60):
  Calls Tryz.prog 21 #[.slice A n c,.slice B m d] W1 fun e w'=>e= .returned (.bool true)∧Below W1.heap.size W1 w':=by
 obtain ⟨hp2,hp3⟩:=hp
 obtain ⟨hq2,hq3⟩:=hq
 have hlen:ys.length=xs.length:=by have h:=congrArg List.length he;simpa using h.symm
 have hmn:n=m:=by omega
 subst hmn
 have HA1:=zAA hp2;have HB1:=zAA hq2
 have HM1:=zAA hp3;have HM2:=zAA hq3
 have HS1:=zAA hsp;have HS2:=zAA hsq;have HEQ:=zAA he;have HN:=zAA hn;have HK:=zAA hm
 clear hp2 hp3 hq2 hq3 hsp hsq he hlen hn hm
 go_enter Tryz.func21,Tryz.ntmps21
 go_wp2_with fail
 go_loopg [5] n (fun g i=>fun wr=>∃(j:Nat),j+g=n∧i= .int .i64 (j:Int)∧Hid (Below W1.heap.size W1 wr))
 case atStart=>exact ⟨0,by omega,rfl,zAA (Below.refl _ _)⟩
 case round=>
  obtain ⟨j,hj,rfl,HI⟩:=hrel
  have _t:=trivial
  cases gk with
  |zero=>
   have hlt:¬((j:Int)<(n:Int)):=by omega
   clear hj
   go_wp2_with fail
   go_ret
   exact ⟨rfl,HI.out⟩
  |succ g=>
   have hlt:((j:Int)<(n:Int)):=by omega
   have hlt0:¬((j:Int)<0):=by omega
   have hjl:j<xs.length:=by rw [HN.out];omega
   have hjm:j<ys.length:=by rw [HK.out];omega
   obtain ⟨a,rfl,ha0⟩:=iU (HA1.out.below HI.out) j hjl
   obtain ⟨b,rfl,hb0⟩:=iU (HB1.out.below HI.out) j hjm
   obtain ⟨p,hp⟩:∃p,xs[j]=p:=⟨_,rfl⟩
   obtain ⟨q,hq⟩:∃q,ys[j]=q:=⟨_,rfl⟩
   have HC:Hid (∀W,Sl W (some a) (av ci xs)∧Sl W (some b) (av ci ys)→(W.cell? (a.add (j*4))=some (.int .i64 p.tm)∧W.cell? ⟨(a.add (j*4)).block,(a.add (j*4)).off+1,none⟩=some (.int .i64 p.ty)∧W.cell? ⟨(a.add (j*4)).block,(a.add (j*4)).off+2,none⟩=some (.slice p.sA p.sp.length p.sc)∧W.cell? ⟨(a.add (j*4)).block,(a.add (j*4)).off+3,none⟩=some (.slice p.A p.gs.length p.c))∧(W.cell? (b.add (j*4))=some (.int .i64 q.tm)∧W.cell? ⟨(b.add (j*4)).block,(b.add (j*4)).off+1,none⟩=some (.int .i64 q.ty)∧W.cell? ⟨(b.add (j*4)).block,(b.add (j*4)).off+2,none⟩=some (.slice q.sA q.sp.length q.sc)∧W.cell? ⟨(b.add (j*4)).block,(b.add (j*4)).off+3,none⟩=some (.slice q.A q.gs.length q.c))):=zAA fun W hW=>by
    obtain ⟨a',e1,_,c0,c1,c2,c3⟩:=iU hW.1 j hjl
    obtain ⟨b',e2,_,d0,d1,d2,d3⟩:=iU hW.2 j hjm
    cases e1;cases e2
    rw [hp] at c0 c1 c2 c3
    rw [hq] at d0 d1 d2 d3
    exact ⟨⟨c0,c1,c2,c3⟩,d0,d1,d2,d3⟩
   have hw1:zAR.wrap ((j:Int)+1)=(j:Int)+1:=by rw [zAL];omega
   have HJJ:=zAA hj
   have hI0:Below W1.heap.size W1 wr.drew:=HI.out.drew
   have HI2:=zAA hI0
   have hpm:p∈xs:=by rw [←hp];exact zAF hjl
   have hqm:q∈ys:=by rw [←hq];exact zAF hjm
   have hpq:p.s=q.s:=by
    have h:=congrArg (fun l=>l[j]?) HEQ.out
    simp only [zAK,zAE hjl,zAE hjm,zAN,Option.some.injEq] at h
    rw [hp,hq] at h
    exact h
   have HST:Hid (Sl wr.drew (some a) (av ci xs)∧Sl wr.drew (some b) (av ci ys)):=zAA ⟨HA1.out.below hI0,HB1.out.below hI0⟩
   have hsb:=xn p q wr.drew hpq ((HM1.out p hpm).below hI0) ((HM2.out q hqm).below hI0) (HS1.out p hpm) (HS2.out q hqm)
   unfold eE at hsb
   have HSB:=zAA hsb
   clear hsb
   clear ha0 hb0 hj hp hq hI0 hpm hqm hpq hjl hjm
   go_wp2_with fail
   refine ai (fun W=>Sl W (some a) (av ci xs)∧Sl W (some b) (av ci ys)) 10 (.take 0 (.take 1 (.take 2 (.take 3 (.take 4 (.take 5 (.take 6 (.take 7 (.step 8 (.take 9 .done)))))))))) (by kernel_rfl) (by kernel_rfl) (by simp only [aR.out,Array.getD_eq_getD_getElem?,zAI,zAH,zAG,zAM];rfl) (by simp only [zAP,zAQ];rfl) (HST.out) (fun PE hPE=>?_)
   iterate 8
    refine ah (v:=?_) rfl (by rfl) ?_ ?_
    rotate_left
    ·intro _ hSw;(try dsimp only at hSw);obtain ⟨⟨z0,z1,z2,z3⟩,y0,y1,y2,y3⟩:=HC.out _ hSw;go_simp;(try with_reducible rfl)
    simp only [zAB,zAD,zAC]
   refine aV (f:=54) rfl (by rfl) (by first|(go_simp;done)|(go_simp;rfl)) HSB.out ?_
   rintro e w2 ⟨rfl,hb2⟩
   have HI3:=zAA (HI2.out.trans (hb2.mono HI2.out.size))
   refine ⟨_,rfl,_,fun _ h=>h,⟨HST.out.1.below hb2,HST.out.2.below hb2⟩,?_⟩
   simp only [zAB,zAD,zAC]
   refine ah (v:=?_) rfl (by rfl) ?_ ?_
   rotate_left
   ·intro _ hSw;(try dsimp only at hSw);go_simp;(try with_reducible rfl)
   simp only [zAB,zAD,zAC]
   refine hPE _ _ ?_
   clear hPE PE
   simp only [zAJ,zAO]
   clear hb2
   go_wp2_with fail
   refine ⟨rfl,?_⟩
   go_wp2_with fail
   go_roundg g
   case measure=>omega
   case rel=>exact ⟨j+1,by have:=HJJ.out;omega,rfl,HI3⟩
end Go.Proofs.YthhijgcfbjcgiaaGreatDoor
