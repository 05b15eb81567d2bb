/- BGet -/
import Derived.Test.YthhijgcfbjcgiaaGreatDoorQ29
namespace Go.Proofs.YthhijgcfbjcgiaaGreatDoor
open Go Go.RowKit
attribute [local go_sem] Oper.semAt_some
open Go.Value renaming slice→O,int→Y,bool→J,pointer→OA,agg→Oi
open Go.Lib renaming hid→U
open List renaming length→Z,append_toArray→OE,length_cons→OF,length_nil→OH,push_toArray→OI,size_toArray→OJ,cons_append→OL,nil_append→OM,setIfInBounds_toArray→OT,drop_succ_cons→OU,set_cons_succ→OV,set_cons_zero→OW,length_map→Oa,map_append→Ob,drop_zero→Oc
open Go.IntKind renaming i64→V,wrap_i64→OK,i64→ON
open Go.Obj renaming cells→X
open Nat renaming reduceAdd→OB,le_refl→OC,add_assoc→OO,reduceSub→OP,le_trans→Of
open Go.World renaming ownsRow_nil→OD,size_alloc→OG,size_setCell→OY,ownsRow→Od,setCell→Oe,drew→Oh
open Tryz renaming ntmps259→OQ,func259→OR,prog→OX,func288→Og
open Go.Proofs.YthhijgcfbjcgiaaGreatDoor.cb renaming take→OS
open Int renaming toNat_natCast→OZ
open Go.Ending renaming returned→Oj
def pX (l:List UInt8) (i:Int) (first:Bool) (k:Nat) (left:Int):List (Int×Int)×Int×Int:=a8 l (66 - k) (cF l i first k) (iv first k) left
structure im (l:List UInt8) (i:Int) (first:Bool) (left0:Int) (pre:List gx) (left:Int):Prop where
 pos:0<=left
 sum:(Z pre:Int)+left<=64
 zero:∀x∈pre,x.2=0
 eq:a8 l 66 i first left0=(pre.map (·.1)++(pX l i first (Z pre) left).1,(pX l i first (Z pre) left).2)
theorem El (l:List UInt8)(i:Int)(first:Bool){left0:Int}(j:0<=left0)(B:left0<=64):im l i first left0 [] left0:=by
 refine⟨j,by simpa using B,(λx C=>by cases C),?_⟩;have e:iv first 0=first:=by cases first<;>rfl
 unfold pX;show _=(a8 l (66 - 0) i (iv first 0) left0);rw[e]
theorem F1 (first:Bool)(k:Nat):iv first (k+1)=false:=by cases first<;>rfl
theorem oE (l:List UInt8)(i:Int)(first:Bool)(k:Nat)(left:Int)(j:k<=65):pX l i first k left=
  if (gK l i first k).2.1 then([],cF l i first (k+1),0) else if (gK l i first k).2.2.2 !=0 then([],0,(gK l i first k).2.2.2) else
  if left - ((gK l i first k).1.1+1)<0 then([],0,11) else
  ((gK l i first k).1::(pX l i first (k+1) (left - ((gK l i first k).1.1+1))).1,(pX l i first (k+1) (left - ((gK l i first k).1.1+1))).2.1,(pX l i first (k+1) (left - ((gK l i first k).1.1+1))).2.2):=by
 unfold pX;rw[F1,show 66 - k=(66 - (k+1))+1 by omega];rfl
theorem mt {l:List UInt8}{i:Int}{first:Bool}{pre:List gx}{x:gx}(h:mF l i first (pre++[x])):x=((gK l i first (Z pre)).1,(gK l i first (Z pre)).2.2.2)/\(gK l i first (Z pre)).2.1=false:=h (Z pre) x (by simp)
section
variable {l:List UInt8} {i:Int} {first:Bool} {left0:Int} {pre:List gx} {left:Int} {x:gx}
theorem im.len (h:im l i first left0 pre left):Z pre<=64:=by have:=h.pos;have:=h.sum;omega
theorem im.err (h:im l i first left0 pre left)(C:mF l i first (pre++[x]))(he:x.2≠0):(a8 l 66 i first left0).2.2=x.2:=by
 obtain⟨D,j⟩:=mt C;have B:(gK l i first (Z pre)).2.2.2=x.2:=by rw[D]
 rw[h.eq,oE _ _ _ _ _ (by have:=h.len;omega),j,if_neg (by decide),B,if_pos (by simpa using he)]
theorem im.run (h:im l i first left0 pre left)(G:mF l i first (pre++[x]))(he:x.2=0)(hl:left - (x.1.1+1)<0):(a8 l 66 i first left0).2.2=11:=by
 obtain⟨D,j⟩:=mt G;have C:(gK l i first (Z pre)).2.2.2=x.2:=by rw[D]
 have B:(gK l i first (Z pre)).1=x.1:=by rw[D]
 rw[h.eq,oE _ _ _ _ _ (by have:=h.len;omega),j,if_neg (by decide),C,B,he,if_neg (by decide),if_pos hl]
theorem im.next (h:im l i first left0 pre left)(I:mF l i first (pre++[x]))(he:x.2=0)(hl:0<=left - (x.1.1+1))(K:0<=x.1.1):im l i first left0 (pre++[x]) (left - (x.1.1+1)):=by
 obtain⟨G,B⟩:=mt I;have D:(gK l i first (Z pre)).2.2.2=x.2:=by rw[G]
 have C:(gK l i first (Z pre)).1=x.1:=by rw[G]
 refine⟨hl,by have:=h.sum;simp only[List.length_append,OF,OH];omega,λy j=>?_,?_⟩
 ·rcases List.mem_append.1 j with j|j
  ·exact h.zero y j
  ·rw[List.mem_singleton] at j;rw[j];exact he
 ·rw[h.eq,oE _ _ _ _ _ (by have:=h.len;omega),B,if_neg (by decide),D,C,he,if_neg (by decide),if_neg (by omega)]
  simp
theorem im.fin (h:im l i first left0 pre left)(he:(gK l i first (Z pre)).2.1=true):a8 l 66 i first left0=(pre.map (·.1),cF l i first (Z pre+1),0):=by
 rw[h.eq,oE _ _ _ _ _ (by have:=h.len;omega),he,if_pos rfl];simp
end
def fp (h:Nat) (dc:Int) (v:Value) (n e:Int):List aL:=[(h,93,#[Y V dc,v]),(h+1,3,#[Y V n]),(h+2,26,#[Y V e])]
def DM (r:bH×Int×Int) (w:World) (e:Ending) (w':World):Prop:=∃v,e=Oj (.tuple #[Oi #[Y V r.1.dc,v],Y V r.2.1,Y V r.2.2])/\Below w.heap.size w w'/\w'.ownsRow w.heap.size 189 2 v r.1.l.length (av bj r.1.l)
theorem pm:eY OX 91 189 2 16:= .mk' (z:=Oi #[Y V 0,Y V 0]) (by kernel_rfl) (by kernel_rfl) rfl (by decide) (by decide)
theorem gO (h:Nat)(dc:Int)(v:Value)(n e:Int)(tmps:Array Value)(W:World)(j:aa (fp h dc v n e) W)(N:tmps.getD 6 undef=OA (some ⟨h,0,none⟩))(T:tmps.getD 7 undef=OA (some ⟨h+1,0,none⟩))
  (t8:tmps.getD 8 undef=OA (some ⟨h+2,0,none⟩)):(results Tryz.f259 tmps).run OX W= .ok (.tuple #[Oi #[Y V dc,v],Y V n,Y V e]) W:=by
 unfold fp at j;have I:W.cell? ⟨h,0,none⟩=some (Y V dc):=j.head.cell 0;have B:W.cell? ⟨h,1,none⟩=some v:=j.head.cell 1;have K:W.cell? ⟨h+1,0,none⟩=some (Y V n):=j.tail.head.cell 0;have M:W.cell? ⟨h+2,0,none⟩=some (Y V e):=j.tail.tail.head.cell 0;have C:tmps[6]?.getD undef=OA (some ⟨h,0,none⟩):=by simpa using N
 have D:tmps[7]?.getD undef=OA (some ⟨h+1,0,none⟩):=by simpa using T
 have G:tmps[8]?.getD undef=OA (some ⟨h+2,0,none⟩):=by simpa using t8
 simp[results,Tryz.results259,C,D,G,asAddr,I,B,K,M,go_sem]
theorem o9 (j:Nat)(first:Bool)(w:World):Calls OX 277 #[OA (some ⟨j,0,none⟩),J first] w λe w'=>e=Oj (.func (.func 288) #[] #[OA (some ⟨w.heap.size,0,none⟩),OA (some ⟨w.heap.size+1,0,none⟩)])/\w'=(w.alloc (X #[OA (some ⟨j,0,none⟩)] 300)).alloc (X #[J first] 4):=by
 go_enter Tryz.func277,Tryz.ntmps277
 go_wp2_with fail
 go_ret;exact⟨by simp,rfl⟩
theorem aP {w:World}{base e size n:Nat}{v:Value}{xs:List Value}(h:w.ownsRow base e size v n xs):∃A c,v=O A n c:=by
 rcases h.2 with⟨rfl,rfl⟩|⟨g,j,B,rfl,_⟩
 ·exact⟨none,0,rfl⟩
 ·exact⟨_,j,rfl⟩
def di (g i:Nat) (u:Value) (L:List aL):List aL:=L.map λc=>if c.1=g then(c.1,c.2.1,c.2.2.setIfInBounds i u) else c
theorem D7 {L:List aL}{W:World}(h:aa L W)(g i:Nat)(u:Value):aa (di g i u L) (W.setCell ⟨g,i,none⟩ u):=by
 intro p B;unfold di at B;obtain⟨c,C,rfl⟩:=List.mem_map.1 B;have j:=h c C
 by_cases he:c.1=g
 ·rw[if_pos he]
  dsimp only;subst he;exact j.set_ i u
 ·rw[if_neg he]
  exact j.far (p:=⟨g,i,none⟩) he u
theorem aW {w W:World}{L:List aL}{R:List aV}(j:ar w L R W){g:Nat}(G:w.heap.size<=g)(i:Nat)(u:Value)(c:aL)(I:c∈L)(B:c.1=g)(D:∀r∈R,r.e≠c.2.1):ar w (di g i u L) R (W.setCell ⟨g,i,none⟩ u):=by
 subst B;exact⟨j.1.setCell (p:=⟨c.1,i,none⟩) G u,D7 j.2.1 _ i u,λr C=>eR (j.2.2 r C) ⟨c.1,i,none⟩ u (ba (j.2.2 r C) (j.2.1 c I) (D r C))⟩
theorem ny {W:World}{g:Nat}{t B:TypeId}{cs j:Array Value}(h:ab W g t cs)(C:ab W g B j):cs=j:=by
 have h2:ab W g t cs=(W.heap[g]? =some (X cs t (0,0))):=rfl;rw[h2] at h;have D:ab W g B j=(W.heap[g]? =some (X j B (0,0))):=rfl;rw[D,h] at C
 simpa using (congrArg (λo=>match o with|some (Obj.cells c _ _)=>c|_=> #[]) C)
theorem aU {W:World}{g g':Nat}{t B:TypeId}{cs j:Array Value}(h:ab W g t cs)(D:ab W g' B j)(C:t≠B):g≠g':=by
 rintro rfl;have h2:ab W g t cs=(W.heap[g]? =some (X cs t (0,0))):=rfl;rw[h2] at h;have G:ab W g B j=(W.heap[g]? =some (X j B (0,0))):=rfl;rw[G,h] at D;exact C (by simpa using (congrArg (λo=>match o with|some (Obj.cells _ t _)=>t|_=>0) D))
def dT (h:Nat) (A:Option Addr) (n c:Nat) (intra:Bool) (dc left:Int) (v u1 u2:Value):List aL:=
 (h+4,197,#[Y V dc,v,J intra])::(h+5,3,#[Y V left])::(h+6,300,#[OA (some ⟨h+3,0,none⟩)])::(h+3,302,#[O A n c,u1])::(h+7,4,#[u2])::fp h 0 (O none 0 0) 0 0
abbrev Kd:Type:=Int×Value×Value×Value
def lV (w:World) (A:Option Addr) (n c:Nat) (intra:Bool) (dc:Int) (l:List UInt8) (i:Int) (first:Bool) (left0:Int):List gx->World->Prop:=
 cY w (λpre (k:Kd)=>im l i first left0 pre k.1) (λ_ k=>dT w.heap.size A n c intra dc k.1 k.2.1 k.2.2.1 k.2.2.2) (λpre k=>[⟨w.heap.size,189,2,k.2.1,Z pre,av bj (pre.map (·.1))⟩])
def I8 (w:World) (A:Option Addr) (n c:Nat) (intra:Bool) (dc:Int) (l:List UInt8) (i:Int) (first:Bool) (left0:Int) (x:gx) (g:Nat):List gx->World->Prop:=
 cY w (λpre (k:Kd)=>im l i first left0 pre k.1) (λ_ k=>(g,189,#[Y V x.1.1,Y V x.1.2])::dT w.heap.size A n c intra dc k.1 k.2.1 k.2.2.1 k.2.2.2) (λpre k=>[⟨w.heap.size,189,2,k.2.1,Z pre,av bj (pre.map (·.1))⟩])
section
variable {w W:World} {A:Option Addr} {n c:Nat} {intra:Bool} {dc:Int} {l:List UInt8} {i:Int} {first:Bool} {left0:Int} {pre:List gx}
theorem AU (v:Value)(h:lV w A n c intra dc l i first left0 pre W):lV w A n c intra dc l i first left0 pre (W.setCell ⟨w.heap.size+3,1,none⟩ v):=by
 obtain⟨⟨⟨left,C,u1,u2⟩,B,j⟩⟩:=h;refine⟨⟨(left,C,v,u2),B,?_⟩⟩;have h2:=aW j (g:=w.heap.size+3) (by omega) 1 v (w.heap.size+3,302,#[O A n c,u1]) (by simp[dT]) rfl (by simp)
 simpa [di,dT,fp] using h2
theorem AV (v:Value)(h:lV w A n c intra dc l i first left0 pre W):lV w A n c intra dc l i first left0 pre (W.setCell ⟨w.heap.size+7,0,none⟩ v):=by
 obtain⟨⟨⟨left,C,u1,u2⟩,B,j⟩⟩:=h;refine⟨⟨(left,C,u1,v),B,?_⟩⟩;have h2:=aW j (g:=w.heap.size+7) (by omega) 0 v (w.heap.size+7,4,#[u2]) (by simp[dT]) rfl (by simp)
 simpa [di,dT,fp] using h2
theorem Jp (h:lV w A n c intra dc l i first left0 pre W){a:Int}{f:Bool}(G:ab W (w.heap.size+3) 302 #[O A n c,Y V a])(h2:ab W (w.heap.size+7) 4 #[J f]):
  ∃left v,im l i first left0 pre left/\ar w (dT w.heap.size A n c intra dc left v (Y V a) (J f)) [⟨w.heap.size,189,2,v,Z pre,av bj (pre.map (·.1))⟩] W:=by
 obtain⟨⟨⟨left,K,u1,u2⟩,I,j⟩⟩:=h;refine⟨left,K,I,?_⟩;have B:=j.2.1;unfold dT at B;have C:=ny B.tail.tail.tail.head G;have D:=ny B.tail.tail.tail.tail.head h2;simp at C D;dsimp only at j;rw[C,D] at j;exact j
theorem He {x:gx}{g:Nat}(h:I8 w A n c intra dc l i first left0 x g pre W){a:Int}{f:Bool}(G:ab W (w.heap.size+3) 302 #[O A n c,Y V a])(h2:ab W (w.heap.size+7) 4 #[J f]):
  ∃left v,im l i first left0 pre left/\ar w ((g,189,#[Y V x.1.1,Y V x.1.2])::dT w.heap.size A n c intra dc left v (Y V a) (J f)) [⟨w.heap.size,189,2,v,Z pre,av bj (pre.map (·.1))⟩] W:=by
 obtain⟨⟨⟨left,K,u1,u2⟩,I,j⟩⟩:=h;refine⟨left,K,I,?_⟩;have B:=j.2.1;unfold dT at B;have C:=ny B.tail.tail.tail.tail.head G;have D:=ny B.tail.tail.tail.tail.tail.head h2;simp at C D;dsimp only at j;rw[C,D] at j;exact j
theorem wV {left:Int}{v u1 u2:Value}(C:im l i first left0 pre left)(B:ar w (dT w.heap.size A n c intra dc left v u1 u2) [⟨w.heap.size,189,2,v,Z pre,av bj (pre.map (·.1))⟩] W):
  lV w A n c intra dc l i first left0 pre W/\ab W (w.heap.size+3) 302 #[O A n c,u1]/\ab W (w.heap.size+7) 4 #[u2]:=by
 have j:=B.2.1;unfold dT at j;exact⟨⟨⟨(left,v,u1,u2),C,B⟩⟩,j.tail.tail.tail.head,j.tail.tail.tail.tail.head⟩
theorem lK {left:Int}{v u1 u2:Value}{R:List aV}(j:ar w (dT w.heap.size A n c intra dc left v u1 u2) R W):ar w (fp w.heap.size 0 (O none 0 0) 0 0) R W:=aw (aw (aw (aw (aw j))))
theorem lz {L:List aL}{R:List aV}(j:ar w L R W):ar w L [] W:=⟨j.1,j.2.1,aA _⟩
theorem wW {j:World}{B:Int}{first:Bool}(N:ar w ((w.heap.size+4,197,#[Y V dc,O none 0 0,J intra])::(w.heap.size+5,3,#[Y V left0])::(w.heap.size+3,302,#[O A n c,Y V B])::fp w.heap.size 0 (O none 0 0) 0 0) [] j)(D:j.heap.size=w.heap.size+6)(K:0<=left0)(M:left0<=64):
  lV w A n c intra dc l i first left0 [] ((j.alloc (X #[OA (some ⟨w.heap.size+3,0,none⟩)] 300)).alloc (X #[J first] 4))/\ab ((j.alloc (X #[OA (some ⟨w.heap.size+3,0,none⟩)] 300)).alloc (X #[J first] 4)) (w.heap.size+3) 302 #[O A n c,Y V B]/\ab ((j.alloc (X #[OA (some ⟨w.heap.size+3,0,none⟩)] 300)).alloc (X #[J first] 4)) (w.heap.size+7) 4 #[J first]:=by
 have h2:=ao (ao N (X #[OA (some ⟨w.heap.size+3,0,none⟩)] 300)) (X #[J first] 4);have G:ab ((j.alloc (X #[OA (some ⟨w.heap.size+3,0,none⟩)] 300)).alloc (X #[J first] 4)) (w.heap.size+6) 300 #[OA (some ⟨w.heap.size+3,0,none⟩)]:=(aH (ab.new _ _ _) D).alloc _;have I:ab ((j.alloc (X #[OA (some ⟨w.heap.size+3,0,none⟩)] 300)).alloc (X #[J first] 4)) (w.heap.size+7) 4 #[J first]:=aH (ab.new _ _ _) (by rw[OG,D]);have C:=h2.2.1;refine wV (left:=left0) (v:=O none 0 0) (El l i first K M) ⟨h2.1,?_,ai.cons (OD _ _ _ _) (aA _)⟩;unfold dT;exact aa.cons C.head (aa.cons C.tail.head (aa.cons G (aa.cons C.tail.tail.head (aa.cons I C.tail.tail.tail))))
theorem je {B:Int}{G:Value}{n0 I:Int}{R:List aV}(dc:Int)(v:Value)(D e:Int)(T:ar w (fp w.heap.size B G n0 I) R W)(C:∀r∈R,r.e=189):ar w (fp w.heap.size dc v D e) R ((((W.setCell ⟨w.heap.size,0,none⟩ (Y V dc)).setCell ⟨w.heap.size,1,none⟩ v).setCell ⟨w.heap.size+1,0,none⟩ (Y V D)).setCell ⟨w.heap.size+2,0,none⟩ (Y V e)):=by
 unfold fp at T⊢;have K:=aW T (g:=w.heap.size) (OC _) 0 (Y V dc) (w.heap.size,93,#[Y V B,G]) (by simp) rfl (λr j=>by rw[C r j];simp);simp[di] at K;have h2:=aW K (g:=w.heap.size) (OC _) 1 v (w.heap.size,93,#[Y V dc,G]) (by simp) rfl (λr j=>by rw[C r j];simp);simp[di] at h2;have M:=aW h2 (g:=w.heap.size+1) (by omega) 0 (Y V D) (w.heap.size+1,3,#[Y V n0]) (by simp) rfl (λr j=>by rw[C r j];simp);simp[di] at M;have N:=aW M (g:=w.heap.size+2) (by omega) 0 (Y V e) (w.heap.size+2,26,#[Y V I]) (by simp) rfl (λr j=>by rw[C r j];simp);simp[di] at N;exact N
end
set_option maxRecDepth 100000 in
set_option maxHeartbeats 40000000 in
theorem D3 (A:Option Addr)(n c:Nat)(l:List UInt8)(i:Int)(intra:Bool)(w:World)(hA:Sl w A (l.map af))(hn:Z l=n)(hsz:n<=2 ^ 47)(hT:Ts w):
  Calls OX 259 #[O A n c,Y V i,J intra] w (DM (a9 l i intra) w):=by
 obtain⟨r,hr⟩:∃r,a9 l i intra=r:=⟨_,rfl⟩;rw[hr];unfold a9 at hr;rw[hn] at hr;have HA:=U hA;have HN:=U hn;have HT:=U hT;clear hA hn hT
 by_cases Lf:i<0
 ·rw[if_pos Lf] at hr
  subst hr;refine(callsIn_wide (n:=5)).1 ?_;refine callsIn_of_wp_marks OR rfl trivial ?_ rfl;simp only[OQ,OJ,OF,OH,OB,OP,Array.replicate_succ,Array.replicate_zero,OI,OE,OM,OL];refine wpIn_wide.2 ?_;go_wp2_with fail
  simp only[OO,OB];refine iD (gO w.heap.size 0 (O none 0 0) 0 3 _ _ ?_ rfl rfl rfl) ⟨O none 0 0,rfl,?_,OD _ _ _ _⟩
  ·unfold fp
   refine aa.cons ?_ (aa.cons ?_ (aa.cons ?_ (ag _)))
   all_goals (repeat (first|(refine aH (ab.new _ _ _) ?_;simp[OG];done)|refine ab.alloc ?_ _))
  ·exact(((Below.refl _ _).alloc (OC _) _).alloc (by simp) _).alloc (by simp;omega) _
 rw[if_neg Lf] at hr
 by_cases Lg:8*(n:Int)<i
 ·rw[if_pos Lg] at hr
  subst hr;refine(callsIn_wide (n:=5)).1 ?_;refine callsIn_of_wp_marks OR rfl trivial ?_ rfl;simp only[OQ,OJ,OF,OH,OB,OP,Array.replicate_succ,Array.replicate_zero,OI,OE,OM,OL];refine wpIn_wide.2 ?_;go_wp2_with (go_at_call 84;refine(dm A n c _ hsz).mono ?_;rintro e w' ⟨rfl,rfl⟩)
  simp only[OO,OB];refine iD (gO w.heap.size 0 (O none 0 0) 0 5 _ _ ?_ rfl rfl rfl) ⟨O none 0 0,rfl,?_,OD _ _ _ _⟩
  ·unfold fp
   refine aa.cons ?_ (aa.cons ?_ (aa.cons ?_ (ag _)))
   all_goals (repeat (first|(refine aH (ab.new _ _ _) ?_;simp[OG];done)|refine ab.alloc ?_ _))
  ·exact(((Below.refl _ _).alloc (OC _) _).alloc (by simp) _).alloc (by simp;omega) _
 rw[if_neg Lg] at hr;obtain⟨k,rfl⟩:∃k:Nat,i=(k:Int):=⟨i.toNat,by omega⟩;rw[OZ] at hr;have hk:k<=8*n:=by omega
 cases intra with
 |false=>
  refine(callsIn_wide (n:=5)).1 ?_;refine callsIn_of_wp_marks OR rfl trivial ?_ rfl;simp only[OQ,OJ,OF,OH,OB,OP,Array.replicate_succ,Array.replicate_zero,OI,OE,OM,OL];refine wpIn_wide.2 ?_;go_wp2_with (first|(go_at_call 84;refine(dm A n c _ hsz).mono ?_;rintro e w' ⟨rfl,rfl⟩)|(go_at_call 277;refine(o9 _ _ _).mono ?_;rintro e w' ⟨rfl,rfl⟩))
  rw[if_neg (show ¬(false=true) by decide)] at hr
  have T:ar w ((w.heap.size+4,197,#[Y V 0,O none 0 0,J false])::(w.heap.size+5,3,#[Y V 64])::(w.heap.size+3,302,#[O A n c,Y V (k:Int)])::fp w.heap.size 0 (O none 0 0) 0 0) [] ((((((w.alloc (X #[Y V 0,O none 0 0] 93)).alloc (X #[Y V 0] 3)).alloc (X #[Y V 0] 26)).alloc (X #[O A n c,Y V (k:Int)] 302)).alloc (X #[Y V 0,O none 0 0,J false] 197)).alloc (X #[Y V 64] 3)):=by
   refine⟨(((((((Below.refl _ _).alloc (OC _) _).alloc (by simp) _).alloc (by simp;omega) _).alloc (by simp;omega) _).alloc (by simp;omega) _).alloc (by simp;omega) _),?_,aA _⟩;unfold fp;refine aa.cons ?_ (aa.cons ?_ (aa.cons ?_ (aa.cons ?_ (aa.cons ?_ (aa.cons ?_ (ag _))))))
   all_goals (repeat (first|(refine aH (ab.new _ _ _) ?_;simp[OG];done)|refine ab.alloc ?_ _))
  have gJ:((((((w.alloc (X #[Y V 0,O none 0 0] 93)).alloc (X #[Y V 0] 3)).alloc (X #[Y V 0] 26)).alloc (X #[O A n c,Y V (k:Int)] 302)).alloc (X #[Y V 0,O none 0 0,J false] 197)).alloc (X #[Y V 64] 3)).heap.size=w.heap.size+6:=(by simp);simp only[OO,OB];generalize (((((w.alloc (X #[Y V 0,O none 0 0] 93)).alloc (X #[Y V 0] 3)).alloc (X #[Y V 0] 26)).alloc (X #[O A n c,Y V (k:Int)] 302)).alloc (X #[Y V 0,O none 0 0,J false] 197)).alloc (X #[Y V 64] 3)=W6 at T gJ⊢;obtain⟨q,hq⟩:∃q,a8 l 66 (k:Int) true 64=q:=⟨_,rfl⟩;rw[hq] at hr;have HR:=U hr;have HQ:=U hq;clear hr hq;obtain⟨Iq,J2,K0⟩:=wW (A:=A) (n:=n) (c:=c) (intra:=false) (dc:=0) (l:=l) (i:=(k:Int)) (left0:=64) (first:=true) T gJ (by decide) (by decide);have K3:((W6.alloc (X #[OA (some ⟨w.heap.size+3,0,none⟩)] 300)).alloc (X #[J true] 4)).heap.size=w.heap.size+8:=(by simp[gJ]);generalize (W6.alloc (X #[OA (some ⟨w.heap.size+3,0,none⟩)] 300)).alloc (X #[J true] 4)=W at Iq J2 K0 K3⊢;have L0:=U Iq;have KT:=U J2;have KU:=U K0;have K9:=U K3;clear Iq J2 K0 K3 T gJ;have aC:Hid (w.heap.size<=W.heap.size):=U (by rw[K9.out];omega);refine(wpIn_wide (n:=5)).1 ?_
  refine tE (α:=gx) (enc:= λx:gx=> #[Oi #[Y V x.1.1,Y V x.1.2],Y V x.2])
   (IS:= λpre W=>lV w A n c false 0 l (k:Int) true 64 pre W/\ab W (w.heap.size+3) 302 #[O A n c,Y V (k:Int)]/\ab W (w.heap.size+7) 4 #[J true])
   (I:= λpre W=>lV w A n c false 0 l (k:Int) true 64 pre W/\ab W (w.heap.size+3) 302 #[O A n c,Y V (cF l (k:Int) true (Z pre+1))]/\ab W (w.heap.size+7) 4 #[J false])
   (I2:= λpre W=>lV w A n c false 0 l (k:Int) true 64 pre W/\ab W (w.heap.size+3) 302 #[O A n c,Y V (cF l (k:Int) true (Z pre))]/\ab W (w.heap.size+7) 4 #[J false])
   (IE:= λpre W=>lV w A n c false 0 l (k:Int) true 64 pre W/\ab W (w.heap.size+3) 302 #[O A n c,Y V (cF l (k:Int) true (Z pre+1))]/\ab W (w.heap.size+7) 4 #[J false])
   (S:= λxs=>mF l (k:Int) true xs/\(gK l (k:Int) true (Z xs)).2.1=true) (Sp:=mF l (k:Int) true)
   rfl (by decide) (gf:=288) (lb:= #[OA (some ⟨w.heap.size+6,0,none⟩),OA (some ⟨w.heap.size+7,0,none⟩)]) rfl trivial (enters_of Og (by kernel_rfl) rfl)
   (vk 4 (by decide) (w.heap.size+3) (w.heap.size+6) (w.heap.size+7) A n c l (k:Int) true HN.out hsz (by omega) (by rw[HN.out];omega) (by omega) _ (λpre W v h=>AU v h) (λpre W v h=>AV v h) (λpre A B h hb=>gS pre A B h hb) ?hC0 ?hCs) (λ_=>rfl)
   (λcd _ W=>m7 w (fp w.heap.size 0 (O none 0 0) 0 q.2.2) cd W/\q.2.2≠0)
   (λpre x g W=>I8 w A n c false 0 l (k:Int) true 64 x g pre W/\ab W (w.heap.size+3) 302 #[O A n c,Y V (cF l (k:Int) true (Z pre+1))]/\ab W (w.heap.size+7) 4 #[J false])
   (OwnFrom.and (bw aC.out _ _ _) (OwnFrom.and (bq _ _ _) (bq _ _ _))) (OwnFrom.and (bw aC.out _ _ _) (OwnFrom.and (bq _ _ _) (bq _ _ _))) (OwnFrom.and (bw aC.out _ _ _) (OwnFrom.and (bq _ _ _) (bq _ _ _)))
   (λcd=>OwnFrom.and (iA aC.out _ _) (ownFrom_pure _ _)) (λx g=>OwnFrom.and (bw aC.out _ _ _) (OwnFrom.and (bq _ _ _) (bq _ _ _))) ⟨L0.out,KT.out,KU.out⟩ ?round ?done ?stop
  case hC0=>
   rintro pre W' ⟨⟨k',hp,_⟩⟩;exact hp.zero
  case hCs=>
   rintro pre W' ⟨⟨k',hp,C⟩⟩;have j:=C.2.1;unfold dT at j;exact⟨j.tail.tail.head,HA.out.below C.1,HT.out.below C.1⟩
  case round=>
   apply Exists.intro;refine And.intro ?_ ?_
   ·rintro lp pre x W' ⟨⟨⟨k',hp,C⟩⟩,M,N⟩ aB
    have HP:=U hp;have HC:=U C;have KQ:=U M;have KR:=U N;clear hp C M N aB;dsimp only;gi_wp2
    obtain⟨g0,KF⟩:∃g0,W'.heap.size=g0:=⟨_,rfl⟩;have L7:=dZ (ao HC.out (X #[Y V x.1.1,Y V x.1.2] 189)) (aH (ab.new W' 189 #[Y V x.1.1,Y V x.1.2]) KF);rw[KF];exact⟨⟨g0,rfl,⟨⟨k',HP.out,L7⟩⟩,KQ.out.alloc _,KR.out.alloc _⟩,cy (KeepsFrom.refl _ _) _⟩
   ·rintro lp pre x g W' ⟨hJ,M,N⟩ aB
    obtain⟨left,v,hp,C⟩:=He hJ M N;clear hJ M N;have dt:=mt aB;obtain⟨⟨q1,q2⟩,er⟩:=x;dsimp only at C;obtain⟨A2,c2,dE⟩:=aP C.2.2.head;dsimp only at dE;subst dE;have HP:=U hp;have HC:=U C;have kz:=U aB;have L4:=U dt;have j:=C.2.1;clear hp C aB dt;unfold dT fp at j;have La:g≠w.heap.size+5:=aU j.head j.tail.tail.head (by simp);have Le:w.heap.size+5≠g:= λh=>La h.symm;have p0:=j.head.cell 0;have p1:=j.head.cell 1;have k0:=j.tail.head.cell 0;have k1:=j.tail.head.cell 1;have k2:=j.tail.head.cell 2;have Ld:=j.tail.head.frozen 1;have l0:=j.tail.tail.head.cell 0;have lf:=j.tail.tail.head.frozen 0;have b0:=j.tail.tail.tail.tail.tail.tail.head.cell 0;have b1:=j.tail.tail.tail.tail.tail.tail.head.cell 1;have b2:=j.tail.tail.tail.tail.tail.tail.tail.head.cell 0;have b3:=j.tail.tail.tail.tail.tail.tail.tail.tail.head.cell 0;have rX:=j.tail.tail.tail.tail.tail.tail.head.frozen 0;have wj:=j.tail.tail.tail.tail.tail.tail.head.frozen 1;have Io:=j.tail.tail.tail.tail.tail.tail.tail.head.frozen 0;have Ip:=j.tail.tail.tail.tail.tail.tail.tail.tail.head.frozen 0;dsimp only at p0 p1 k0 k1 k2 Ld l0 lf b0 b1 b2 b3 rX wj Io Ip;clear j
    cases he:(er !=0) with
    |true=>
     have dD:er≠0:=(by simpa using he);have eE:=U dD;clear dD;have G:q.2.2=er:=(by rw[<-HQ.out];exact HP.out.err kz.out eE.out);have K:=U G;clear G;gi_wp2_with fail
     refine⟨aq (aq (aq (aq (KeepsFrom.refl _ _) _ _) _ _) _ _) _ _,⟨rfl,?_⟩,by rw[K.out];exact eE.out⟩;rw[K.out];exact je 0 (O none 0 0) 0 er (lz (lK (aw HC.out))) (by simp)
    |false=>
     have L8:er=0:=(by simpa using he);subst L8;have L9:=L4.out;obtain⟨K1,KG⟩:=L9;have KM:=lL l (cF l (k:Int) true (Z pre)) (iv true (Z pre)) (jh l (k:Int) true (by omega) (by rw[HN.out];omega) _).1 (jh l (k:Int) true (by omega) (by rw[HN.out];omega) _).2
     have Lc:0<=q1/\q1<=63:=by
      have h1:=(Prod.mk.inj K1).1;have h2:=(Prod.mk.inj K1).2;have h3:=KM.2.2.2.1 h2.symm KG;have h4:(aR l (cF l (k:Int) true (Z pre)) (iv true (Z pre))).1=(q1,q2):=h1.symm;rw[h4] at h3;exact⟨h3.1,h3.2.1⟩
     obtain⟨Lo,Lk⟩:=Lc;clear KM K1 KG;have KI:=HP.out.pos;have KK:=HP.out.sum;have Lp:ON.wrap (q1+1)=q1+1:=(by rw[OK];omega);have KO:ON.wrap (left - (q1+1))=left - (q1+1):=(by rw[OK];omega);have Lm:=U KK;have Ll:=U KI;clear KK KI;obtain⟨lv,KL⟩:∃lv,left - (q1+1)=lv:=⟨_,rfl⟩;rw[KL] at KO;have Lq:ON.wrap lv=lv:=KO;have K8:=U KL
     have dY:Hid (ar w (dT w.heap.size A n c false 0 lv (O A2 (Z pre) c2) (Y V (cF l (k:Int) true (Z pre+1))) (J false)) [⟨w.heap.size,189,2,O A2 (Z pre) c2,Z pre,av bj (pre.map (·.1))⟩] (W'.setCell ⟨w.heap.size+5,0,none⟩ (Y V lv))):=U (by
      have h2:=aW (aw HC.out) (g:=w.heap.size+5) (by omega) 0 (Y V lv) (w.heap.size+5,3,#[Y V left]) (by simp[dT]) rfl (by simp)
      simpa [di,dT,fp] using h2)
     by_cases Lh:lv<0
     ·have G:q.2.2=11:=by rw[<-HQ.out];exact HP.out.run kz.out rfl (by show left - (q1+1)<0;omega)
      have K:=U G;clear G;gi_wp2_with fail
      refine⟨aq (aq (aq (aq (aq (KeepsFrom.refl _ _) _ _) _ _) _ _) _ _) _ _,⟨rfl,?_⟩,by rw[K.out];decide⟩;rw[K.out];exact je 0 (O none 0 0) 0 11 (lz (lK dY.out)) (by simp)
     ·have L5:=U (show (Z pre)<=64 from HP.out.len)
      gi_wp2_with (gi_at_builtin;refine ld pm rfl rfl 1 [Y V q1,Y V q2] rfl dY.out (by rw[OY];rfl) rfl (by intro u hu;simp at hu;rcases hu with rfl|rfl<;>rfl) (by have:=L5.out;omega) ⟨OC _,dY.out.1.size⟩ (by simp[dT,fp]) (by simp) ?_;intro v5 W5 bE KH;obtain⟨A5,c5,e5⟩:=aP bE.2.2.head;dsimp only at e5;subst e5;have KV:=U bE;have KZ:=U KH;have hy:=bE.2.1;clear bE KH;unfold dT at hy;have y0:=hy.head.cell 0;have y1:=hy.head.cell 1;have y2:=hy.head.cell 2;have yf:=hy.head.frozen 1;dsimp only at y0 y1 y2 yf;clear hy)
      have KJ:(pre++[(((q1,q2),0):gx)]).length=Z pre+1:=by simp
      have KX:ar w (dT w.heap.size A n c false 0 lv (O A5 (Z pre+1) c5) (Y V (cF l (k:Int) true (Z pre+1))) (J false)) [⟨w.heap.size,189,2,O A5 (Z pre+1) c5,(pre++[(((q1,q2),0):gx)]).length,av bj ((pre++[(((q1,q2),0):gx)]).map (·.1))⟩] (W5.setCell ⟨w.heap.size+4,1,none⟩ (O A5 (Z pre+1) c5)):=by
       have h2:=aW KV.out (g:=w.heap.size+4) (by omega) 1 (O A5 (Z pre+1) c5) (w.heap.size+4,197,#[Y V 0,O A2 (Z pre) c2,J false]) (by simp[dT]) rfl (by simp);rw[KJ,Ob,eo]
       simpa [di,dT,fp,dV,bj] using h2
      have h9:=wV (pre:=pre++[(((q1,q2),0):gx)]) (HP.out.next kz.out rfl (by show 0<=left - (q1+1);have:=K8.out;omega) (by show 0<=q1;omega)) (by show ar w (dT w.heap.size A n c false 0 (left - (q1+1)) _ _ _) _ _;rw[K8.out];exact KX);refine⟨aq (dx (aq (KeepsFrom.refl _ _) _ _) (iy (KeepsFrom.refl _ _) KZ.out (gM dY.out.2.2.head))) _ _,trivial,h9.1,?_,h9.2.2⟩;rw[KJ];exact h9.2.1
  case done=>
   rintro D xs W2 hD ⟨hS,jT⟩ ⟨hI,M,N⟩ hK;obtain⟨left,v,hp,C⟩:=Jp hI M N;have G:=hp.fin jT;have K2:=jh l (k:Int) true (by omega) (by rw[HN.out];omega) (Z xs+1);rw[HN.out] at K2;rw[HQ.out] at G;have K:=U G;clear hI M N hS jT hp G;obtain⟨A2,c2,dE⟩:=aP C.2.2.head;dsimp only at dE;subst dE;obtain⟨pz,KN⟩:∃pz,cF l (k:Int) true (Z xs+1)=pz:=⟨_,rfl⟩;rw[KN] at C K K2;obtain⟨Li,Lj⟩:=K2;have Lr:ON.wrap (pz - (k:Int))=pz - (k:Int):=(by rw[OK];omega);have HC:=U C;have HK:=U hK;have HD:=U hD;have KY:=U (bR C);have j:=C.2.1;have hU:=KY.out.2.1;clear C hK KN hD;unfold dT fp at j;unfold dT at hU;have K6:=U hU.head;have K5:=U hU.tail.tail.tail.head;clear hU;have b0:=j.tail.tail.tail.tail.tail.head.cell 0;have b1:=j.tail.tail.tail.tail.tail.head.cell 1;have b2:=j.tail.tail.tail.tail.tail.tail.head.cell 0;have b3:=j.tail.tail.tail.tail.tail.tail.tail.head.cell 0;have rX:=j.tail.tail.tail.tail.tail.head.frozen 0;have wj:=j.tail.tail.tail.tail.tail.head.frozen 1;have Io:=j.tail.tail.tail.tail.tail.tail.head.frozen 0;have Ip:=j.tail.tail.tail.tail.tail.tail.tail.head.frozen 0;dsimp only at b0 b1 b2 b3 rX wj Io Ip;clear j;gi_wp2_with fail
   go_wp2_with fail
   refine bf (λw'=>aa [(w.heap.size+4,197,#[Y V 0,O A2 (Z xs) c2,J false]),(w.heap.size+3,302,#[O A n c,Y V pz])] w') 9 (OS 0 (OS 1 (OS 2 (OS 3 (OS 4 (OS 5 (OS 6 (OS 7 (.step 8 .done))))))))) (aa.cons K6.out (aa.cons K5.out (ag _))) (λPE KC=>?_)
   iterate 8
    refine aj (v:=?_) rfl (by rfl) ?_ ?_
    rotate_left
    ·intro _ cz;(try dsimp only at cz);have z0:=cz.head.cell 0;have z1:=cz.head.cell 1;have z2:=cz.tail.head.cell 0;have z3:=cz.tail.head.cell 1;dsimp only at z0 z1 z2 z3;go_simp;(try with_reducible rfl)
    simp only[OT,OW,OV]
   refine bG _ (w':=?_) rfl (by rfl) ?_ ?_ ?_;rotate_left 1
   ·go_simp;(first|(with_reducible rfl)|(constructor<;>with_reducible rfl)|skip)
   ·exact aa.cons ((K6.out.far (p:=⟨w.heap.size,0,none⟩) (by simp) (Y V 0)).far (p:=⟨w.heap.size,1,none⟩) (by simp) (O A2 (Z xs) c2)) (aa.cons ((K5.out.far (p:=⟨w.heap.size,0,none⟩) (by simp) (Y V 0)).far (p:=⟨w.heap.size,1,none⟩) (by simp) (O A2 (Z xs) c2)) (ag _))
   refine KC _ _ ?_;clear KC PE;simp only[OU,Oc];go_wp2_with fail
   refine⟨rfl,?_⟩;go_wp2_with fail
   have bE:=bR (je 0 (O A2 (Z xs) c2) (pz - (k:Int)) 0 (lK HC.out) (by simp));have Ln:w.heap.size+8<=D:=by have:=HD.out;rw[K9.out] at this;exact this
   have Kr:(Oh ((((W2.setCell ⟨w.heap.size,0,none⟩ (Y V 0)).setCell ⟨w.heap.size,1,none⟩ (O A2 (Z xs) c2)).setCell ⟨w.heap.size+1,0,none⟩ (Y V (pz - (k:Int)))).setCell ⟨w.heap.size+2,0,none⟩ (Y V 0))).heap[D]? =some (.deferred (some [])):=by
    show (Oe _ _ _).heap[D]? =_;rw[Below.heap_setCell _ _ _ D (by show D≠w.heap.size+2;omega),Below.heap_setCell _ _ _ D (by show D≠w.heap.size+1;omega),Below.heap_setCell _ _ _ D (by show D≠w.heap.size;omega),Below.heap_setCell _ _ _ D (by show D≠w.heap.size;omega)];exact HK.out
   have T:=iu (o':= .deferred none) bE Kr rfl (by omega)
   have gy:r=(⟨0,xs.map (·.1)⟩,pz - (k:Int),0):=by
    have h:=HR.out;rw[K.out] at h;exact h.symm.trans (if_neg (by simp))
   rw[gy];exact el Kr (gO w.heap.size 0 (O A2 (Z xs) c2) (pz - (k:Int)) 0 _ _ T.2.1 rfl rfl rfl) ⟨O A2 (Z xs) c2,rfl,T.1,by show Od _ _ _ _ _ (xs.map (·.1)).length _;rw[Oa];exact T.2.2.head⟩
  case stop=>
   rintro D cd pre W2 hD aB ⟨⟨rfl,ja,KE,_⟩,dD⟩ hK;have K4:=U ja;have KW:=U KE;have HK:=U hK;have HD:=U hD;have eE:=U dD;clear ja KE hK aB hD dD
   have gy:r=(⟨0,[]⟩,0,q.2.2):=by
    have h:=HR.out;rw[if_pos (by simpa using eE.out)] at h;exact h.symm
   have L6:=U gy;clear gy;gi_wp2_with fail
   rw[L6.out];exact el HK.out (gO w.heap.size 0 (O none 0 0) 0 q.2.2 _ _ (cR (o':= .deferred none) KW.out HK.out rfl) rfl rfl rfl) ⟨O none 0 0,rfl,cA K4.out (Of aC.out HD.out),OD _ _ _ _⟩
 |true=>
  rw[if_pos (show true=true from rfl)] at hr
  by_cases fW:8*(n:Int)<(k:Int)+8
  ·rw[if_pos fW] at hr
   subst hr;have Rd:=U (λW=>dq A n c (k:Int) 8 W (by omega) (by decide) (by decide) (by omega) hsz);clear fW;refine(callsIn_wide (n:=5)).1 ?_;refine callsIn_of_wp_marks OR rfl trivial ?_ rfl;simp only[OQ,OJ,OF,OH,OB,OP,Array.replicate_succ,Array.replicate_zero,OI,OE,OM,OL];refine wpIn_wide.2 ?_;go_wp2_with (first|(go_at_call 84;refine(dm A n c _ hsz).mono ?_;rintro e w' ⟨rfl,rfl⟩)|(go_at_call 56;refine(Rd.out _).mono ?_;rintro e w' ⟨rfl,rfl⟩))
   simp only[OO,OB];refine iD (gO w.heap.size 0 (O none 0 0) 0 5 _ _ ?_ rfl rfl rfl) ⟨O none 0 0,rfl,?_,OD _ _ _ _⟩
   ·unfold fp
    refine aa.cons ?_ (aa.cons ?_ (aa.cons ?_ (ag _)))
    all_goals (repeat (first|(refine aH (ab.new _ _ _) ?_;simp[OG];done)|refine ab.alloc ?_ _))
   ·exact((((((Below.refl _ _).alloc (OC _) _).alloc (by simp) _).alloc (by simp;omega) _).alloc (by simp;omega) _).alloc (by simp;omega) _).alloc (by simp;omega) _
  ·rw[if_neg fW] at hr
   have Lt:k+8<=8*n:=(by omega);obtain⟨nb,Lb⟩:∃nb,au l k 8=nb:=⟨_,rfl⟩;dsimp only at hr;rw[Lb] at hr;have Rd:=U (λW h=>fY (nb:Int) A n c l (k:Int) 8 W (by rw[OZ];show ((au l k 8:Nat):Int)=_;rw[Lb]) h HN.out (by omega) (by decide) (by decide) (by omega) hsz);clear fW Lb
   cases hz:((nb==0)||(nb==128)) with
   |true=>
    rw[hz,if_pos rfl] at hr;subst hr;have Ls:nb=0\/nb=128:=(by simpa using hz);clear hz;rcases Ls with rfl|rfl
    ·skip
     refine(callsIn_wide (n:=5)).1 ?_;refine callsIn_of_wp_marks OR rfl trivial ?_ rfl;simp only[OQ,OJ,OF,OH,OB,OP,Array.replicate_succ,Array.replicate_zero,OI,OE,OM,OL];refine wpIn_wide.2 ?_;go_wp2_with (first|(go_at_call 84;refine(dm A n c _ hsz).mono ?_;rintro e w' ⟨rfl,rfl⟩)|(go_at_call 56;refine(Rd.out _ (HA.out.below (((((((Below.refl _ _).alloc (OC _) _).alloc (by simp) _).alloc (by simp;omega) _).alloc (by simp;omega) _).alloc (by simp;omega) _).alloc (by simp;omega) _))).mono ?_;rintro e w' ⟨rfl,rfl⟩))
     simp only[OO,OB];refine iD (gO w.heap.size 0 (O none 0 0) 0 10 _ _ ?_ rfl rfl rfl) ⟨O none 0 0,rfl,?_,OD _ _ _ _⟩
     ·unfold fp
      refine aa.cons ?_ (aa.cons ?_ (aa.cons ?_ (ag _)))
      all_goals (repeat (first|(refine aH (ab.new _ _ _) ?_;simp[OG];done)|refine ab.alloc ?_ _))
     ·exact((((((Below.refl _ _).alloc (OC _) _).alloc (by simp) _).alloc (by simp;omega) _).alloc (by simp;omega) _).alloc (by simp;omega) _).alloc (by simp;omega) _
    ·skip
     refine(callsIn_wide (n:=5)).1 ?_;refine callsIn_of_wp_marks OR rfl trivial ?_ rfl;simp only[OQ,OJ,OF,OH,OB,OP,Array.replicate_succ,Array.replicate_zero,OI,OE,OM,OL];refine wpIn_wide.2 ?_;go_wp2_with (first|(go_at_call 84;refine(dm A n c _ hsz).mono ?_;rintro e w' ⟨rfl,rfl⟩)|(go_at_call 56;refine(Rd.out _ (HA.out.below (((((((Below.refl _ _).alloc (OC _) _).alloc (by simp) _).alloc (by simp;omega) _).alloc (by simp;omega) _).alloc (by simp;omega) _).alloc (by simp;omega) _))).mono ?_;rintro e w' ⟨rfl,rfl⟩))
     simp only[OO,OB];refine iD (gO w.heap.size 0 (O none 0 0) 0 10 _ _ ?_ rfl rfl rfl) ⟨O none 0 0,rfl,?_,OD _ _ _ _⟩
     ·unfold fp
      refine aa.cons ?_ (aa.cons ?_ (aa.cons ?_ (ag _)))
      all_goals (repeat (first|(refine aH (ab.new _ _ _) ?_;simp[OG];done)|refine ab.alloc ?_ _))
     ·exact((((((Below.refl _ _).alloc (OC _) _).alloc (by simp) _).alloc (by simp;omega) _).alloc (by simp;omega) _).alloc (by simp;omega) _).alloc (by simp;omega) _
   |false=>
    rw[hz,if_neg (by decide)] at hr;have Lv:((nb:Int)==0)=false:=(by simp at hz⊢;omega);have Lw:((nb:Int)==128)=false:=(by simp at hz⊢;omega);have Lu:ON.wrap ((k:Int)+8)=(k:Int)+8:=(by rw[OK];omega);clear hz;refine(callsIn_wide (n:=5)).1 ?_;refine callsIn_of_wp_marks OR rfl trivial ?_ rfl;simp only[OQ,OJ,OF,OH,OB,OP,Array.replicate_succ,Array.replicate_zero,OI,OE,OM,OL];refine wpIn_wide.2 ?_;go_wp2_with (first|(go_at_call 84;refine(dm A n c _ hsz).mono ?_;rintro e w' ⟨rfl,rfl⟩)|(go_at_call 56;refine(Rd.out _ (HA.out.below (((((((Below.refl _ _).alloc (OC _) _).alloc (by simp) _).alloc (by simp;omega) _).alloc (by simp;omega) _).alloc (by simp;omega) _).alloc (by simp;omega) _))).mono ?_;rintro e w' ⟨rfl,rfl⟩)|(go_at_call 277;refine(o9 _ _ _).mono ?_;rintro e w' ⟨rfl,rfl⟩))
    have T:ar w ((w.heap.size+4,197,#[Y V (nb:Int),O none 0 0,J true])::(w.heap.size+5,3,#[Y V 63])::(w.heap.size+3,302,#[O A n c,Y V ((k:Int)+8)])::fp w.heap.size 0 (O none 0 0) 0 0) [] ((((((w.alloc (X #[Y V 0,O none 0 0] 93)).alloc (X #[Y V 0] 3)).alloc (X #[Y V 0] 26)).alloc (X #[O A n c,Y V ((k:Int)+8)] 302)).alloc (X #[Y V (nb:Int),O none 0 0,J true] 197)).alloc (X #[Y V 63] 3)):=by
     refine⟨(((((((Below.refl _ _).alloc (OC _) _).alloc (by simp) _).alloc (by simp;omega) _).alloc (by simp;omega) _).alloc (by simp;omega) _).alloc (by simp;omega) _),?_,aA _⟩;unfold fp;refine aa.cons ?_ (aa.cons ?_ (aa.cons ?_ (aa.cons ?_ (aa.cons ?_ (aa.cons ?_ (ag _))))))
     all_goals (repeat (first|(refine aH (ab.new _ _ _) ?_;simp[OG];done)|refine ab.alloc ?_ _))
    have gJ:((((((w.alloc (X #[Y V 0,O none 0 0] 93)).alloc (X #[Y V 0] 3)).alloc (X #[Y V 0] 26)).alloc (X #[O A n c,Y V ((k:Int)+8)] 302)).alloc (X #[Y V (nb:Int),O none 0 0,J true] 197)).alloc (X #[Y V 63] 3)).heap.size=w.heap.size+6:=(by simp);simp only[OO,OB];generalize (((((w.alloc (X #[Y V 0,O none 0 0] 93)).alloc (X #[Y V 0] 3)).alloc (X #[Y V 0] 26)).alloc (X #[O A n c,Y V ((k:Int)+8)] 302)).alloc (X #[Y V (nb:Int),O none 0 0,J true] 197)).alloc (X #[Y V 63] 3)=W6 at T gJ⊢;obtain⟨q,hq⟩:∃q,a8 l 66 ((k:Int)+8) false 63=q:=⟨_,rfl⟩;rw[hq] at hr;have HR:=U hr;have HQ:=U hq;clear hr hq;obtain⟨Iq,J2,K0⟩:=wW (A:=A) (n:=n) (c:=c) (intra:=true) (dc:=(nb:Int)) (l:=l) (i:=((k:Int)+8)) (left0:=63) (first:=false) T gJ (by decide) (by decide);have K3:((W6.alloc (X #[OA (some ⟨w.heap.size+3,0,none⟩)] 300)).alloc (X #[J false] 4)).heap.size=w.heap.size+8:=(by simp[gJ]);generalize (W6.alloc (X #[OA (some ⟨w.heap.size+3,0,none⟩)] 300)).alloc (X #[J false] 4)=W at Iq J2 K0 K3⊢;have L0:=U Iq;have KT:=U J2;have KU:=U K0;have K9:=U K3;clear Iq J2 K0 K3 T gJ;have aC:Hid (w.heap.size<=W.heap.size):=U (by rw[K9.out];omega);refine(wpIn_wide (n:=5)).1 ?_
    refine tE (α:=gx) (enc:= λx:gx=> #[Oi #[Y V x.1.1,Y V x.1.2],Y V x.2])
     (IS:= λpre W=>lV w A n c true (nb:Int) l ((k:Int)+8) false 63 pre W/\ab W (w.heap.size+3) 302 #[O A n c,Y V ((k:Int)+8)]/\ab W (w.heap.size+7) 4 #[J false])
     (I:= λpre W=>lV w A n c true (nb:Int) l ((k:Int)+8) false 63 pre W/\ab W (w.heap.size+3) 302 #[O A n c,Y V (cF l ((k:Int)+8) false (Z pre+1))]/\ab W (w.heap.size+7) 4 #[J false])
     (I2:= λpre W=>lV w A n c true (nb:Int) l ((k:Int)+8) false 63 pre W/\ab W (w.heap.size+3) 302 #[O A n c,Y V (cF l ((k:Int)+8) false (Z pre))]/\ab W (w.heap.size+7) 4 #[J false])
     (IE:= λpre W=>lV w A n c true (nb:Int) l ((k:Int)+8) false 63 pre W/\ab W (w.heap.size+3) 302 #[O A n c,Y V (cF l ((k:Int)+8) false (Z pre+1))]/\ab W (w.heap.size+7) 4 #[J false])
     (S:= λxs=>mF l ((k:Int)+8) false xs/\(gK l ((k:Int)+8) false (Z xs)).2.1=true) (Sp:=mF l ((k:Int)+8) false)
     rfl (by decide) (gf:=288) (lb:= #[OA (some ⟨w.heap.size+6,0,none⟩),OA (some ⟨w.heap.size+7,0,none⟩)]) rfl trivial (enters_of Og (by kernel_rfl) rfl)
     (vk 4 (by decide) (w.heap.size+3) (w.heap.size+6) (w.heap.size+7) A n c l ((k:Int)+8) false HN.out hsz (by omega) (by rw[HN.out];omega) (by omega) _ (λpre W v h=>AU v h) (λpre W v h=>AV v h) (λpre A B h hb=>gS pre A B h hb) ?hC0 ?hCs) (λ_=>rfl)
     (λcd _ W=>m7 w (fp w.heap.size 0 (O none 0 0) 0 q.2.2) cd W/\q.2.2≠0)
     (λpre x g W=>I8 w A n c true (nb:Int) l ((k:Int)+8) false 63 x g pre W/\ab W (w.heap.size+3) 302 #[O A n c,Y V (cF l ((k:Int)+8) false (Z pre+1))]/\ab W (w.heap.size+7) 4 #[J false])
     (OwnFrom.and (bw aC.out _ _ _) (OwnFrom.and (bq _ _ _) (bq _ _ _))) (OwnFrom.and (bw aC.out _ _ _) (OwnFrom.and (bq _ _ _) (bq _ _ _))) (OwnFrom.and (bw aC.out _ _ _) (OwnFrom.and (bq _ _ _) (bq _ _ _)))
     (λcd=>OwnFrom.and (iA aC.out _ _) (ownFrom_pure _ _)) (λx g=>OwnFrom.and (bw aC.out _ _ _) (OwnFrom.and (bq _ _ _) (bq _ _ _))) ⟨L0.out,KT.out,KU.out⟩ ?round ?done ?stop
    case hC0=>
     rintro pre W' ⟨⟨k',hp,_⟩⟩;exact hp.zero
    case hCs=>
     rintro pre W' ⟨⟨k',hp,C⟩⟩;have j:=C.2.1;unfold dT at j;exact⟨j.tail.tail.head,HA.out.below C.1,HT.out.below C.1⟩
    case round=>
     apply Exists.intro;refine And.intro ?_ ?_
     ·rintro lp pre x W' ⟨⟨⟨k',hp,C⟩⟩,M,N⟩ aB
      have HP:=U hp;have HC:=U C;have KQ:=U M;have KR:=U N;clear hp C M N aB;dsimp only;gi_wp2
      obtain⟨g0,KF⟩:∃g0,W'.heap.size=g0:=⟨_,rfl⟩;have L7:=dZ (ao HC.out (X #[Y V x.1.1,Y V x.1.2] 189)) (aH (ab.new W' 189 #[Y V x.1.1,Y V x.1.2]) KF);rw[KF];exact⟨⟨g0,rfl,⟨⟨k',HP.out,L7⟩⟩,KQ.out.alloc _,KR.out.alloc _⟩,cy (KeepsFrom.refl _ _) _⟩
     ·rintro lp pre x g W' ⟨hJ,M,N⟩ aB
      obtain⟨left,v,hp,C⟩:=He hJ M N;clear hJ M N;have dt:=mt aB;obtain⟨⟨q1,q2⟩,er⟩:=x;dsimp only at C;obtain⟨A2,c2,dE⟩:=aP C.2.2.head;dsimp only at dE;subst dE;have HP:=U hp;have HC:=U C;have kz:=U aB;have L4:=U dt;have j:=C.2.1;clear hp C aB dt;unfold dT fp at j;have La:g≠w.heap.size+5:=aU j.head j.tail.tail.head (by simp);have Le:w.heap.size+5≠g:= λh=>La h.symm;have p0:=j.head.cell 0;have p1:=j.head.cell 1;have k0:=j.tail.head.cell 0;have k1:=j.tail.head.cell 1;have k2:=j.tail.head.cell 2;have Ld:=j.tail.head.frozen 1;have l0:=j.tail.tail.head.cell 0;have lf:=j.tail.tail.head.frozen 0;have b0:=j.tail.tail.tail.tail.tail.tail.head.cell 0;have b1:=j.tail.tail.tail.tail.tail.tail.head.cell 1;have b2:=j.tail.tail.tail.tail.tail.tail.tail.head.cell 0;have b3:=j.tail.tail.tail.tail.tail.tail.tail.tail.head.cell 0;have rX:=j.tail.tail.tail.tail.tail.tail.head.frozen 0;have wj:=j.tail.tail.tail.tail.tail.tail.head.frozen 1;have Io:=j.tail.tail.tail.tail.tail.tail.tail.head.frozen 0;have Ip:=j.tail.tail.tail.tail.tail.tail.tail.tail.head.frozen 0;dsimp only at p0 p1 k0 k1 k2 Ld l0 lf b0 b1 b2 b3 rX wj Io Ip;clear j
      cases he:(er !=0) with
      |true=>
       have dD:er≠0:=(by simpa using he);have eE:=U dD;clear dD;have G:q.2.2=er:=(by rw[<-HQ.out];exact HP.out.err kz.out eE.out);have K:=U G;clear G;gi_wp2_with fail
       refine⟨aq (aq (aq (aq (KeepsFrom.refl _ _) _ _) _ _) _ _) _ _,⟨rfl,?_⟩,by rw[K.out];exact eE.out⟩;rw[K.out];exact je 0 (O none 0 0) 0 er (lz (lK (aw HC.out))) (by simp)
      |false=>
       have L8:er=0:=(by simpa using he);subst L8;have L9:=L4.out;obtain⟨K1,KG⟩:=L9;have KM:=lL l (cF l ((k:Int)+8) false (Z pre)) (iv false (Z pre)) (jh l ((k:Int)+8) false (by omega) (by rw[HN.out];omega) _).1 (jh l ((k:Int)+8) false (by omega) (by rw[HN.out];omega) _).2
       have Lc:0<=q1/\q1<=63:=by
        have h1:=(Prod.mk.inj K1).1;have h2:=(Prod.mk.inj K1).2;have h3:=KM.2.2.2.1 h2.symm KG;have h4:(aR l (cF l ((k:Int)+8) false (Z pre)) (iv false (Z pre))).1=(q1,q2):=h1.symm;rw[h4] at h3;exact⟨h3.1,h3.2.1⟩
       obtain⟨Lo,Lk⟩:=Lc;clear KM K1 KG;have KI:=HP.out.pos;have KK:=HP.out.sum;have Lp:ON.wrap (q1+1)=q1+1:=(by rw[OK];omega);have KO:ON.wrap (left - (q1+1))=left - (q1+1):=(by rw[OK];omega);have Lm:=U KK;have Ll:=U KI;clear KK KI;obtain⟨lv,KL⟩:∃lv,left - (q1+1)=lv:=⟨_,rfl⟩;rw[KL] at KO;have Lq:ON.wrap lv=lv:=KO;have K8:=U KL
       have dY:Hid (ar w (dT w.heap.size A n c true (nb:Int) lv (O A2 (Z pre) c2) (Y V (cF l ((k:Int)+8) false (Z pre+1))) (J false)) [⟨w.heap.size,189,2,O A2 (Z pre) c2,Z pre,av bj (pre.map (·.1))⟩] (W'.setCell ⟨w.heap.size+5,0,none⟩ (Y V lv))):=U (by
        have h2:=aW (aw HC.out) (g:=w.heap.size+5) (by omega) 0 (Y V lv) (w.heap.size+5,3,#[Y V left]) (by simp[dT]) rfl (by simp)
        simpa [di,dT,fp] using h2)
       by_cases Lh:lv<0
       ·have G:q.2.2=11:=by rw[<-HQ.out];exact HP.out.run kz.out rfl (by show left - (q1+1)<0;omega)
        have K:=U G;clear G;gi_wp2_with fail
        refine⟨aq (aq (aq (aq (aq (KeepsFrom.refl _ _) _ _) _ _) _ _) _ _) _ _,⟨rfl,?_⟩,by rw[K.out];decide⟩;rw[K.out];exact je 0 (O none 0 0) 0 11 (lz (lK dY.out)) (by simp)
       ·have L5:=U (show (Z pre)<=64 from HP.out.len)
        gi_wp2_with (gi_at_builtin;refine ld pm rfl rfl 1 [Y V q1,Y V q2] rfl dY.out (by rw[OY];rfl) rfl (by intro u hu;simp at hu;rcases hu with rfl|rfl<;>rfl) (by have:=L5.out;omega) ⟨OC _,dY.out.1.size⟩ (by simp[dT,fp]) (by simp) ?_;intro v5 W5 bE KH;obtain⟨A5,c5,e5⟩:=aP bE.2.2.head;dsimp only at e5;subst e5;have KV:=U bE;have KZ:=U KH;have hy:=bE.2.1;clear bE KH;unfold dT at hy;have y0:=hy.head.cell 0;have y1:=hy.head.cell 1;have y2:=hy.head.cell 2;have yf:=hy.head.frozen 1;dsimp only at y0 y1 y2 yf;clear hy)
        have KJ:(pre++[(((q1,q2),0):gx)]).length=Z pre+1:=by simp
        have KX:ar w (dT w.heap.size A n c true (nb:Int) lv (O A5 (Z pre+1) c5) (Y V (cF l ((k:Int)+8) false (Z pre+1))) (J false)) [⟨w.heap.size,189,2,O A5 (Z pre+1) c5,(pre++[(((q1,q2),0):gx)]).length,av bj ((pre++[(((q1,q2),0):gx)]).map (·.1))⟩] (W5.setCell ⟨w.heap.size+4,1,none⟩ (O A5 (Z pre+1) c5)):=by
         have h2:=aW KV.out (g:=w.heap.size+4) (by omega) 1 (O A5 (Z pre+1) c5) (w.heap.size+4,197,#[Y V (nb:Int),O A2 (Z pre) c2,J true]) (by simp[dT]) rfl (by simp);rw[KJ,Ob,eo]
         simpa [di,dT,fp,dV,bj] using h2
        have h9:=wV (pre:=pre++[(((q1,q2),0):gx)]) (HP.out.next kz.out rfl (by show 0<=left - (q1+1);have:=K8.out;omega) (by show 0<=q1;omega)) (by show ar w (dT w.heap.size A n c true (nb:Int) (left - (q1+1)) _ _ _) _ _;rw[K8.out];exact KX);refine⟨aq (dx (aq (KeepsFrom.refl _ _) _ _) (iy (KeepsFrom.refl _ _) KZ.out (gM dY.out.2.2.head))) _ _,trivial,h9.1,?_,h9.2.2⟩;rw[KJ];exact h9.2.1
    case done=>
     rintro D xs W2 hD ⟨hS,jT⟩ ⟨hI,M,N⟩ hK;obtain⟨left,v,hp,C⟩:=Jp hI M N;have G:=hp.fin jT;have K2:=jh l ((k:Int)+8) false (by omega) (by rw[HN.out];omega) (Z xs+1);rw[HN.out] at K2;rw[HQ.out] at G;have K:=U G;clear hI M N hS jT hp G;obtain⟨A2,c2,dE⟩:=aP C.2.2.head;dsimp only at dE;subst dE;obtain⟨pz,KN⟩:∃pz,cF l ((k:Int)+8) false (Z xs+1)=pz:=⟨_,rfl⟩;rw[KN] at C K K2;obtain⟨Li,Lj⟩:=K2;have Lr:ON.wrap (pz - (k:Int))=pz - (k:Int):=(by rw[OK];omega);have HC:=U C;have HK:=U hK;have HD:=U hD;have KY:=U (bR C);have j:=C.2.1;have hU:=KY.out.2.1;clear C hK KN hD;unfold dT fp at j;unfold dT at hU;have K6:=U hU.head;have K5:=U hU.tail.tail.tail.head;clear hU;have b0:=j.tail.tail.tail.tail.tail.head.cell 0;have b1:=j.tail.tail.tail.tail.tail.head.cell 1;have b2:=j.tail.tail.tail.tail.tail.tail.head.cell 0;have b3:=j.tail.tail.tail.tail.tail.tail.tail.head.cell 0;have rX:=j.tail.tail.tail.tail.tail.head.frozen 0;have wj:=j.tail.tail.tail.tail.tail.head.frozen 1;have Io:=j.tail.tail.tail.tail.tail.tail.head.frozen 0;have Ip:=j.tail.tail.tail.tail.tail.tail.tail.head.frozen 0;dsimp only at b0 b1 b2 b3 rX wj Io Ip;clear j;gi_wp2_with fail
     go_wp2_with fail
     refine bf (λw'=>aa [(w.heap.size+4,197,#[Y V (nb:Int),O A2 (Z xs) c2,J true]),(w.heap.size+3,302,#[O A n c,Y V pz])] w') 9 (OS 0 (OS 1 (OS 2 (OS 3 (OS 4 (OS 5 (OS 6 (OS 7 (.step 8 .done))))))))) (aa.cons K6.out (aa.cons K5.out (ag _))) (λPE KC=>?_)
     iterate 8
      refine aj (v:=?_) rfl (by rfl) ?_ ?_
      rotate_left
      ·intro _ cz;(try dsimp only at cz);have z0:=cz.head.cell 0;have z1:=cz.head.cell 1;have z2:=cz.tail.head.cell 0;have z3:=cz.tail.head.cell 1;dsimp only at z0 z1 z2 z3;go_simp;(try with_reducible rfl)
      simp only[OT,OW,OV]
     refine bG _ (w':=?_) rfl (by rfl) ?_ ?_ ?_;rotate_left 1
     ·go_simp;(first|(with_reducible rfl)|(constructor<;>with_reducible rfl)|skip)
     ·exact aa.cons ((K6.out.far (p:=⟨w.heap.size,0,none⟩) (by simp) (Y V (nb:Int))).far (p:=⟨w.heap.size,1,none⟩) (by simp) (O A2 (Z xs) c2)) (aa.cons ((K5.out.far (p:=⟨w.heap.size,0,none⟩) (by simp) (Y V (nb:Int))).far (p:=⟨w.heap.size,1,none⟩) (by simp) (O A2 (Z xs) c2)) (ag _))
     refine KC _ _ ?_;clear KC PE;simp only[OU,Oc];go_wp2_with fail
     refine⟨rfl,?_⟩;go_wp2_with fail
     have bE:=bR (je (nb:Int) (O A2 (Z xs) c2) (pz - (k:Int)) 0 (lK HC.out) (by simp));have Ln:w.heap.size+8<=D:=by have:=HD.out;rw[K9.out] at this;exact this
     have Kr:(Oh ((((W2.setCell ⟨w.heap.size,0,none⟩ (Y V (nb:Int))).setCell ⟨w.heap.size,1,none⟩ (O A2 (Z xs) c2)).setCell ⟨w.heap.size+1,0,none⟩ (Y V (pz - (k:Int)))).setCell ⟨w.heap.size+2,0,none⟩ (Y V 0))).heap[D]? =some (.deferred (some [])):=by
      show (Oe _ _ _).heap[D]? =_;rw[Below.heap_setCell _ _ _ D (by show D≠w.heap.size+2;omega),Below.heap_setCell _ _ _ D (by show D≠w.heap.size+1;omega),Below.heap_setCell _ _ _ D (by show D≠w.heap.size;omega),Below.heap_setCell _ _ _ D (by show D≠w.heap.size;omega)];exact HK.out
     have T:=iu (o':= .deferred none) bE Kr rfl (by omega)
     have gy:r=(⟨(nb:Int),xs.map (·.1)⟩,pz - (k:Int),0):=by
      have h:=HR.out;rw[K.out] at h;exact h.symm.trans (if_neg (by simp))
     rw[gy];exact el Kr (gO w.heap.size (nb:Int) (O A2 (Z xs) c2) (pz - (k:Int)) 0 _ _ T.2.1 rfl rfl rfl) ⟨O A2 (Z xs) c2,rfl,T.1,by show Od _ _ _ _ _ (xs.map (·.1)).length _;rw[Oa];exact T.2.2.head⟩
    case stop=>
     rintro D cd pre W2 hD aB ⟨⟨rfl,ja,KE,_⟩,dD⟩ hK;have K4:=U ja;have KW:=U KE;have HK:=U hK;have HD:=U hD;have eE:=U dD;clear ja KE hK aB hD dD
     have gy:r=(⟨0,[]⟩,0,q.2.2):=by
      have h:=HR.out;rw[if_pos (by simpa using eE.out)] at h;exact h.symm
     have L6:=U gy;clear gy;gi_wp2_with fail
     rw[L6.out];exact el HK.out (gO w.heap.size 0 (O none 0 0) 0 q.2.2 _ _ (cR (o':= .deferred none) KW.out HK.out rfl) rfl rfl rfl) ⟨O none 0 0,rfl,cA K4.out (Of aC.out HD.out),OD _ _ _ _⟩
end Go.Proofs.YthhijgcfbjcgiaaGreatDoor
