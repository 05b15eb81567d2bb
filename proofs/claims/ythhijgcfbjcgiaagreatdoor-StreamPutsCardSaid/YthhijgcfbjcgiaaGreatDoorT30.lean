/- BGet -/
import Derived.Test.YthhijgcfbjcgiaaGreatDoorT29
namespace Go.Proofs.YthhijgcfbjcgiaaGreatDoor
open Go Go.RowKit
attribute [local go_sem] Oper.semAt_some
open Go.Value renaming slice→O,int→Y,bool→J,pointer→OA,agg→Oi
open Go.Lib renaming hid→U
open List renaming length→Z,append_toArray→OE,length_cons→OF,length_nil→OH,push_toArray→OI,size_toArray→OJ,cons_append→OL,nil_append→OM,setIfInBounds_toArray→OT,drop_succ_cons→OU,set_cons_succ→OV,set_cons_zero→OW,length_map→Oa,map_append→Ob,drop_zero→Oc
open Go.IntKind renaming i64→V,wrap_i64→OK,i64→ON
open Go.Obj renaming cells→X
open Nat renaming reduceAdd→OB,le_refl→OC,add_assoc→OO,reduceSub→OP,le_trans→Of
open Go.World renaming ownsRow_nil→OD,size_alloc→OG,size_setCell→OY,ownsRow→Od,setCell→Oe,drew→Oh
open Tryz renaming ntmps259→OQ,func259→OR,prog→OX,func288→Og
open Go.Proofs.YthhijgcfbjcgiaaGreatDoor.bY renaming take→OS
open Int renaming toNat_natCast→OZ
open Go.Ending renaming returned→Oj
def pM (l:List UInt8) (i:Int) (first:Bool) (k:Nat) (left:Int):List (Int×Int)×Int×Int:=bp l (66 - k) (cD l i first k) (io first k) left
structure ic (l:List UInt8) (i:Int) (first:Bool) (left0:Int) (pre:List gv) (left:Int):Prop where
 pos:0<=left
 sum:(Z pre:Int)+left<=64
 zero:∀x∈pre,x.2=0
 eq:bp l 66 i first left0=(pre.map (·.1)++(pM l i first (Z pre) left).1,(pM l i first (Z pre) left).2)
theorem D7 (l:List UInt8)(i:Int)(first:Bool){left0:Int}(j:0<=left0)(B:left0<=64):ic l i first left0 [] left0:=by
 refine⟨j,by simpa using B,(λx C=>by cases C),?_⟩;have e:io first 0=first:=by cases first<;>rfl
 unfold pM;show _=(bp l (66 - 0) i (io first 0) left0);rw[e]
theorem FI (first:Bool)(k:Nat):io first (k+1)=false:=by cases first<;>rfl
theorem oz (l:List UInt8)(i:Int)(first:Bool)(k:Nat)(left:Int)(j:k<=65):pM l i first k left=
  if (gK l i first k).2.1 then([],cD l i first (k+1),0) else if (gK l i first k).2.2.2 !=0 then([],0,(gK l i first k).2.2.2) else
  if left - ((gK l i first k).1.1+1)<0 then([],0,11) else
  ((gK l i first k).1::(pM l i first (k+1) (left - ((gK l i first k).1.1+1))).1,(pM l i first (k+1) (left - ((gK l i first k).1.1+1))).2.1,(pM l i first (k+1) (left - ((gK l i first k).1.1+1))).2.2):=by
 unfold pM;rw[FI,show 66 - k=(66 - (k+1))+1 by omega];rfl
theorem mD {l:List UInt8}{i:Int}{first:Bool}{pre:List gv}{x:gv}(h:mI l i first (pre++[x])):x=((gK l i first (Z pre)).1,(gK l i first (Z pre)).2.2.2)/\(gK l i first (Z pre)).2.1=false:=h (Z pre) x (by simp)
section
variable {l:List UInt8} {i:Int} {first:Bool} {left0:Int} {pre:List gv} {left:Int} {x:gv}
theorem ic.len (h:ic l i first left0 pre left):Z pre<=64:=by have:=h.pos;have:=h.sum;omega
theorem ic.err (h:ic l i first left0 pre left)(C:mI l i first (pre++[x]))(he:x.2≠0):(bp l 66 i first left0).2.2=x.2:=by
 obtain⟨D,j⟩:=mD C;have B:(gK l i first (Z pre)).2.2.2=x.2:=by rw[D]
 rw[h.eq,oz _ _ _ _ _ (by have:=h.len;omega),j,if_neg (by decide),B,if_pos (by simpa using he)]
theorem ic.run (h:ic l i first left0 pre left)(G:mI l i first (pre++[x]))(he:x.2=0)(hl:left - (x.1.1+1)<0):(bp l 66 i first left0).2.2=11:=by
 obtain⟨D,j⟩:=mD G;have C:(gK l i first (Z pre)).2.2.2=x.2:=by rw[D]
 have B:(gK l i first (Z pre)).1=x.1:=by rw[D]
 rw[h.eq,oz _ _ _ _ _ (by have:=h.len;omega),j,if_neg (by decide),C,B,he,if_neg (by decide),if_pos hl]
theorem ic.next (h:ic l i first left0 pre left)(I:mI l i first (pre++[x]))(he:x.2=0)(hl:0<=left - (x.1.1+1))(K:0<=x.1.1):ic l i first left0 (pre++[x]) (left - (x.1.1+1)):=by
 obtain⟨G,B⟩:=mD I;have D:(gK l i first (Z pre)).2.2.2=x.2:=by rw[G]
 have C:(gK l i first (Z pre)).1=x.1:=by rw[G]
 refine⟨hl,by have:=h.sum;simp only[List.length_append,OF,OH];omega,λy j=>?_,?_⟩
 ·rcases List.mem_append.1 j with j|j
  ·exact h.zero y j
  ·rw[List.mem_singleton] at j;rw[j];exact he
 ·rw[h.eq,oz _ _ _ _ _ (by have:=h.len;omega),B,if_neg (by decide),D,C,he,if_neg (by decide),if_neg (by omega)]
  simp
theorem ic.fin (h:ic l i first left0 pre left)(he:(gK l i first (Z pre)).2.1=true):bp l 66 i first left0=(pre.map (·.1),cD l i first (Z pre+1),0):=by
 rw[h.eq,oz _ _ _ _ _ (by have:=h.len;omega),he,if_pos rfl];simp
end
def fg (h:Nat) (dc:Int) (v:Value) (n e:Int):List aM:=[(h,93,#[Y V dc,v]),(h+1,3,#[Y V n]),(h+2,26,#[Y V e])]
def IT (r:bH×Int×Int) (w:World) (e:Ending) (w':World):Prop:=∃v,e=Oj (.tuple #[Oi #[Y V r.1.dc,v],Y V r.2.1,Y V r.2.2])/\Below w.heap.size w w'/\w'.ownsRow w.heap.size 189 2 v r.1.l.length (az bd r.1.l)
theorem wP:eU OX 91 189 2 16:= .mk' (z:=Oi #[Y V 0,Y V 0]) (by kernel_rfl) (by kernel_rfl) rfl (by decide) (by decide)
theorem gJ (h:Nat)(dc:Int)(v:Value)(n e:Int)(tmps:Array Value)(W:World)(j:aa (fg h dc v n e) W)(N:tmps.getD 6 undef=OA (some ⟨h,0,none⟩))(T:tmps.getD 7 undef=OA (some ⟨h+1,0,none⟩))
  (t8:tmps.getD 8 undef=OA (some ⟨h+2,0,none⟩)):(results Tryz.f259 tmps).run OX W= .ok (.tuple #[Oi #[Y V dc,v],Y V n,Y V e]) W:=by
 unfold fg at j;have I:W.cell? ⟨h,0,none⟩=some (Y V dc):=j.head.cell 0;have B:W.cell? ⟨h,1,none⟩=some v:=j.head.cell 1;have K:W.cell? ⟨h+1,0,none⟩=some (Y V n):=j.tail.head.cell 0;have M:W.cell? ⟨h+2,0,none⟩=some (Y V e):=j.tail.tail.head.cell 0;have C:tmps[6]?.getD undef=OA (some ⟨h,0,none⟩):=by simpa using N
 have D:tmps[7]?.getD undef=OA (some ⟨h+1,0,none⟩):=by simpa using T
 have G:tmps[8]?.getD undef=OA (some ⟨h+2,0,none⟩):=by simpa using t8
 simp[results,Tryz.results259,C,D,G,asAddr,I,B,K,M,go_sem]
theorem o5 (j:Nat)(first:Bool)(w:World):Calls OX 277 #[OA (some ⟨j,0,none⟩),J first] w λe w'=>e=Oj (.func (.func 288) #[] #[OA (some ⟨w.heap.size,0,none⟩),OA (some ⟨w.heap.size+1,0,none⟩)])/\w'=(w.alloc (X #[OA (some ⟨j,0,none⟩)] 300)).alloc (X #[J first] 4):=by
 go_enter Tryz.func277,Tryz.ntmps277
 go_wp2_with fail
 go_ret;exact⟨by simp,rfl⟩
theorem bg {w:World}{base e size n:Nat}{v:Value}{xs:List Value}(h:w.ownsRow base e size v n xs):∃A c,v=O A n c:=by
 rcases h.2 with⟨rfl,rfl⟩|⟨g,j,B,rfl,_⟩
 ·exact⟨none,0,rfl⟩
 ·exact⟨_,j,rfl⟩
def df (g i:Nat) (u:Value) (L:List aM):List aM:=L.map λc=>if c.1=g then(c.1,c.2.1,c.2.2.setIfInBounds i u) else c
theorem DO {L:List aM}{W:World}(h:aa L W)(g i:Nat)(u:Value):aa (df g i u L) (W.setCell ⟨g,i,none⟩ u):=by
 intro p B;unfold df at B;obtain⟨c,C,rfl⟩:=List.mem_map.1 B;have j:=h c C
 by_cases he:c.1=g
 ·rw[if_pos he]
  dsimp only;subst he;exact j.set_ i u
 ·rw[if_neg he]
  exact j.far (p:=⟨g,i,none⟩) he u
theorem aV {w W:World}{L:List aM}{R:List a9}(j:ay w L R W){g:Nat}(G:w.heap.size<=g)(i:Nat)(u:Value)(c:aM)(I:c∈L)(B:c.1=g)(D:∀r∈R,r.e≠c.2.1):ay w (df g i u L) R (W.setCell ⟨g,i,none⟩ u):=by
 subst B;exact⟨j.1.setCell (p:=⟨c.1,i,none⟩) G u,DO j.2.1 _ i u,λr C=>ek (j.2.2 r C) ⟨c.1,i,none⟩ u (ba (j.2.2 r C) (j.2.1 c I) (D r C))⟩
theorem nA {W:World}{g:Nat}{t B:TypeId}{cs j:Array Value}(h:ab W g t cs)(C:ab W g B j):cs=j:=by
 have h2:ab W g t cs=(W.heap[g]? =some (X cs t (0,0))):=rfl;rw[h2] at h;have D:ab W g B j=(W.heap[g]? =some (X j B (0,0))):=rfl;rw[D,h] at C
 simpa using (congrArg (λo=>match o with|some (Obj.cells c _ _)=>c|_=> #[]) C)
theorem aT {W:World}{g g':Nat}{t B:TypeId}{cs j:Array Value}(h:ab W g t cs)(D:ab W g' B j)(C:t≠B):g≠g':=by
 rintro rfl;have h2:ab W g t cs=(W.heap[g]? =some (X cs t (0,0))):=rfl;rw[h2] at h;have G:ab W g B j=(W.heap[g]? =some (X j B (0,0))):=rfl;rw[G,h] at D;exact C (by simpa using (congrArg (λo=>match o with|some (Obj.cells _ t _)=>t|_=>0) D))
def dG (h:Nat) (A:Option Addr) (n c:Nat) (intra:Bool) (dc left:Int) (v u1 u2:Value):List aM:=
 (h+4,197,#[Y V dc,v,J intra])::(h+5,3,#[Y V left])::(h+6,300,#[OA (some ⟨h+3,0,none⟩)])::(h+3,302,#[O A n c,u1])::(h+7,4,#[u2])::fg h 0 (O none 0 0) 0 0
abbrev J3:Type:=Int×Value×Value×Value
def lV (w:World) (A:Option Addr) (n c:Nat) (intra:Bool) (dc:Int) (l:List UInt8) (i:Int) (first:Bool) (left0:Int):List gv->World->Prop:=
 cS w (λpre (k:J3)=>ic l i first left0 pre k.1) (λ_ k=>dG w.heap.size A n c intra dc k.1 k.2.1 k.2.2.1 k.2.2.2) (λpre k=>[⟨w.heap.size,189,2,k.2.1,Z pre,az bd (pre.map (·.1))⟩])
def IU (w:World) (A:Option Addr) (n c:Nat) (intra:Bool) (dc:Int) (l:List UInt8) (i:Int) (first:Bool) (left0:Int) (x:gv) (g:Nat):List gv->World->Prop:=
 cS w (λpre (k:J3)=>ic l i first left0 pre k.1) (λ_ k=>(g,189,#[Y V x.1.1,Y V x.1.2])::dG w.heap.size A n c intra dc k.1 k.2.1 k.2.2.1 k.2.2.2) (λpre k=>[⟨w.heap.size,189,2,k.2.1,Z pre,az bd (pre.map (·.1))⟩])
section
variable {w W:World} {A:Option Addr} {n c:Nat} {intra:Bool} {dc:Int} {l:List UInt8} {i:Int} {first:Bool} {left0:Int} {pre:List gv}
theorem AL (v:Value)(h:lV w A n c intra dc l i first left0 pre W):lV w A n c intra dc l i first left0 pre (W.setCell ⟨w.heap.size+3,1,none⟩ v):=by
 obtain⟨⟨⟨left,C,u1,u2⟩,B,j⟩⟩:=h;refine⟨⟨(left,C,v,u2),B,?_⟩⟩;have h2:=aV j (g:=w.heap.size+3) (by omega) 1 v (w.heap.size+3,302,#[O A n c,u1]) (by simp[dG]) rfl (by simp)
 simpa [df,dG,fg] using h2
theorem AM (v:Value)(h:lV w A n c intra dc l i first left0 pre W):lV w A n c intra dc l i first left0 pre (W.setCell ⟨w.heap.size+7,0,none⟩ v):=by
 obtain⟨⟨⟨left,C,u1,u2⟩,B,j⟩⟩:=h;refine⟨⟨(left,C,u1,v),B,?_⟩⟩;have h2:=aV j (g:=w.heap.size+7) (by omega) 0 v (w.heap.size+7,4,#[u2]) (by simp[dG]) rfl (by simp)
 simpa [df,dG,fg] using h2
theorem Jd (h:lV w A n c intra dc l i first left0 pre W){a:Int}{f:Bool}(G:ab W (w.heap.size+3) 302 #[O A n c,Y V a])(h2:ab W (w.heap.size+7) 4 #[J f]):
  ∃left v,ic l i first left0 pre left/\ay w (dG w.heap.size A n c intra dc left v (Y V a) (J f)) [⟨w.heap.size,189,2,v,Z pre,az bd (pre.map (·.1))⟩] W:=by
 obtain⟨⟨⟨left,K,u1,u2⟩,I,j⟩⟩:=h;refine⟨left,K,I,?_⟩;have B:=j.2.1;unfold dG at B;have C:=nA B.tail.tail.tail.head G;have D:=nA B.tail.tail.tail.tail.head h2;simp at C D;dsimp only at j;rw[C,D] at j;exact j
theorem GS {x:gv}{g:Nat}(h:IU w A n c intra dc l i first left0 x g pre W){a:Int}{f:Bool}(G:ab W (w.heap.size+3) 302 #[O A n c,Y V a])(h2:ab W (w.heap.size+7) 4 #[J f]):
  ∃left v,ic l i first left0 pre left/\ay w ((g,189,#[Y V x.1.1,Y V x.1.2])::dG w.heap.size A n c intra dc left v (Y V a) (J f)) [⟨w.heap.size,189,2,v,Z pre,az bd (pre.map (·.1))⟩] W:=by
 obtain⟨⟨⟨left,K,u1,u2⟩,I,j⟩⟩:=h;refine⟨left,K,I,?_⟩;have B:=j.2.1;unfold dG at B;have C:=nA B.tail.tail.tail.tail.head G;have D:=nA B.tail.tail.tail.tail.tail.head h2;simp at C D;dsimp only at j;rw[C,D] at j;exact j
theorem wy {left:Int}{v u1 u2:Value}(C:ic l i first left0 pre left)(B:ay w (dG w.heap.size A n c intra dc left v u1 u2) [⟨w.heap.size,189,2,v,Z pre,az bd (pre.map (·.1))⟩] W):
  lV w A n c intra dc l i first left0 pre W/\ab W (w.heap.size+3) 302 #[O A n c,u1]/\ab W (w.heap.size+7) 4 #[u2]:=by
 have j:=B.2.1;unfold dG at j;exact⟨⟨⟨(left,v,u1,u2),C,B⟩⟩,j.tail.tail.tail.head,j.tail.tail.tail.tail.head⟩
theorem lN {left:Int}{v u1 u2:Value}{R:List a9}(j:ay w (dG w.heap.size A n c intra dc left v u1 u2) R W):ay w (fg w.heap.size 0 (O none 0 0) 0 0) R W:=aw (aw (aw (aw (aw j))))
theorem lw {L:List aM}{R:List a9}(j:ay w L R W):ay w L [] W:=⟨j.1,j.2.1,aF _⟩
theorem wz {j:World}{B:Int}{first:Bool}(N:ay w ((w.heap.size+4,197,#[Y V dc,O none 0 0,J intra])::(w.heap.size+5,3,#[Y V left0])::(w.heap.size+3,302,#[O A n c,Y V B])::fg w.heap.size 0 (O none 0 0) 0 0) [] j)(D:j.heap.size=w.heap.size+6)(K:0<=left0)(M:left0<=64):
  lV w A n c intra dc l i first left0 [] ((j.alloc (X #[OA (some ⟨w.heap.size+3,0,none⟩)] 300)).alloc (X #[J first] 4))/\ab ((j.alloc (X #[OA (some ⟨w.heap.size+3,0,none⟩)] 300)).alloc (X #[J first] 4)) (w.heap.size+3) 302 #[O A n c,Y V B]/\ab ((j.alloc (X #[OA (some ⟨w.heap.size+3,0,none⟩)] 300)).alloc (X #[J first] 4)) (w.heap.size+7) 4 #[J first]:=by
 have h2:=ap (ap N (X #[OA (some ⟨w.heap.size+3,0,none⟩)] 300)) (X #[J first] 4);have G:ab ((j.alloc (X #[OA (some ⟨w.heap.size+3,0,none⟩)] 300)).alloc (X #[J first] 4)) (w.heap.size+6) 300 #[OA (some ⟨w.heap.size+3,0,none⟩)]:=(aE (ab.new _ _ _) D).alloc _;have I:ab ((j.alloc (X #[OA (some ⟨w.heap.size+3,0,none⟩)] 300)).alloc (X #[J first] 4)) (w.heap.size+7) 4 #[J first]:=aE (ab.new _ _ _) (by rw[OG,D]);have C:=h2.2.1;refine wy (left:=left0) (v:=O none 0 0) (D7 l i first K M) ⟨h2.1,?_,ar.cons (OD _ _ _ _) (aF _)⟩;unfold dG;exact aa.cons C.head (aa.cons C.tail.head (aa.cons G (aa.cons C.tail.tail.head (aa.cons I C.tail.tail.tail))))
theorem ji {B:Int}{G:Value}{n0 I:Int}{R:List a9}(dc:Int)(v:Value)(D e:Int)(T:ay w (fg w.heap.size B G n0 I) R W)(C:∀r∈R,r.e=189):ay w (fg w.heap.size dc v D e) R ((((W.setCell ⟨w.heap.size,0,none⟩ (Y V dc)).setCell ⟨w.heap.size,1,none⟩ v).setCell ⟨w.heap.size+1,0,none⟩ (Y V D)).setCell ⟨w.heap.size+2,0,none⟩ (Y V e)):=by
 unfold fg at T⊢;have K:=aV T (g:=w.heap.size) (OC _) 0 (Y V dc) (w.heap.size,93,#[Y V B,G]) (by simp) rfl (λr j=>by rw[C r j];simp);simp[df] at K;have h2:=aV K (g:=w.heap.size) (OC _) 1 v (w.heap.size,93,#[Y V dc,G]) (by simp) rfl (λr j=>by rw[C r j];simp);simp[df] at h2;have M:=aV h2 (g:=w.heap.size+1) (by omega) 0 (Y V D) (w.heap.size+1,3,#[Y V n0]) (by simp) rfl (λr j=>by rw[C r j];simp);simp[df] at M;have N:=aV M (g:=w.heap.size+2) (by omega) 0 (Y V e) (w.heap.size+2,26,#[Y V I]) (by simp) rfl (λr j=>by rw[C r j];simp);simp[df] at N;exact N
end
set_option maxRecDepth 100000 in
set_option maxHeartbeats 40000000 in
theorem DK (A:Option Addr)(n c:Nat)(l:List UInt8)(i:Int)(intra:Bool)(w:World)(hA:Sl w A (l.map ag))(hn:Z l=n)(hsz:n<=2 ^ 47)(hT:Ts w):
  Calls OX 259 #[O A n c,Y V i,J intra] w (IT (bK l i intra) w):=by
 obtain⟨r,hr⟩:∃r,bK l i intra=r:=⟨_,rfl⟩;rw[hr];unfold bK at hr;rw[hn] at hr;have HA:=U hA;have HN:=U hn;have HT:=U hT;clear hA hn hT
 by_cases L9:i<0
 ·rw[if_pos L9] at hr
  subst hr;refine(callsIn_wide (n:=5)).1 ?_;refine callsIn_of_wp_marks OR rfl trivial ?_ rfl;simp only[OQ,OJ,OF,OH,OB,OP,Array.replicate_succ,Array.replicate_zero,OI,OE,OM,OL];refine wpIn_wide.2 ?_;go_wp2_with fail
  simp only[OO,OB];refine iy (gJ w.heap.size 0 (O none 0 0) 0 3 _ _ ?_ rfl rfl rfl) ⟨O none 0 0,rfl,?_,OD _ _ _ _⟩
  ·unfold fg
   refine aa.cons ?_ (aa.cons ?_ (aa.cons ?_ (ai _)))
   all_goals (repeat (first|(refine aE (ab.new _ _ _) ?_;simp[OG];done)|refine ab.alloc ?_ _))
  ·exact(((Below.refl _ _).alloc (OC _) _).alloc (by simp) _).alloc (by simp;omega) _
 rw[if_neg L9] at hr
 by_cases La:8*(n:Int)<i
 ·rw[if_pos La] at hr
  subst hr;refine(callsIn_wide (n:=5)).1 ?_;refine callsIn_of_wp_marks OR rfl trivial ?_ rfl;simp only[OQ,OJ,OF,OH,OB,OP,Array.replicate_succ,Array.replicate_zero,OI,OE,OM,OL];refine wpIn_wide.2 ?_;go_wp2_with (go_at_call 84;refine(di A n c _ hsz).mono ?_;rintro e w' ⟨rfl,rfl⟩)
  simp only[OO,OB];refine iy (gJ w.heap.size 0 (O none 0 0) 0 5 _ _ ?_ rfl rfl rfl) ⟨O none 0 0,rfl,?_,OD _ _ _ _⟩
  ·unfold fg
   refine aa.cons ?_ (aa.cons ?_ (aa.cons ?_ (ai _)))
   all_goals (repeat (first|(refine aE (ab.new _ _ _) ?_;simp[OG];done)|refine ab.alloc ?_ _))
  ·exact(((Below.refl _ _).alloc (OC _) _).alloc (by simp) _).alloc (by simp;omega) _
 rw[if_neg La] at hr;obtain⟨k,rfl⟩:∃k:Nat,i=(k:Int):=⟨i.toNat,by omega⟩;rw[OZ] at hr;have hk:k<=8*n:=by omega
 cases intra with
 |false=>
  refine(callsIn_wide (n:=5)).1 ?_;refine callsIn_of_wp_marks OR rfl trivial ?_ rfl;simp only[OQ,OJ,OF,OH,OB,OP,Array.replicate_succ,Array.replicate_zero,OI,OE,OM,OL];refine wpIn_wide.2 ?_;go_wp2_with (first|(go_at_call 84;refine(di A n c _ hsz).mono ?_;rintro e w' ⟨rfl,rfl⟩)|(go_at_call 277;refine(o5 _ _ _).mono ?_;rintro e w' ⟨rfl,rfl⟩))
  rw[if_neg (show ¬(false=true) by decide)] at hr
  have T:ay w ((w.heap.size+4,197,#[Y V 0,O none 0 0,J false])::(w.heap.size+5,3,#[Y V 64])::(w.heap.size+3,302,#[O A n c,Y V (k:Int)])::fg w.heap.size 0 (O none 0 0) 0 0) [] ((((((w.alloc (X #[Y V 0,O none 0 0] 93)).alloc (X #[Y V 0] 3)).alloc (X #[Y V 0] 26)).alloc (X #[O A n c,Y V (k:Int)] 302)).alloc (X #[Y V 0,O none 0 0,J false] 197)).alloc (X #[Y V 64] 3)):=by
   refine⟨(((((((Below.refl _ _).alloc (OC _) _).alloc (by simp) _).alloc (by simp;omega) _).alloc (by simp;omega) _).alloc (by simp;omega) _).alloc (by simp;omega) _),?_,aF _⟩;unfold fg;refine aa.cons ?_ (aa.cons ?_ (aa.cons ?_ (aa.cons ?_ (aa.cons ?_ (aa.cons ?_ (ai _))))))
   all_goals (repeat (first|(refine aE (ab.new _ _ _) ?_;simp[OG];done)|refine ab.alloc ?_ _))
  have iP:((((((w.alloc (X #[Y V 0,O none 0 0] 93)).alloc (X #[Y V 0] 3)).alloc (X #[Y V 0] 26)).alloc (X #[O A n c,Y V (k:Int)] 302)).alloc (X #[Y V 0,O none 0 0,J false] 197)).alloc (X #[Y V 64] 3)).heap.size=w.heap.size+6:=(by simp);simp only[OO,OB];generalize (((((w.alloc (X #[Y V 0,O none 0 0] 93)).alloc (X #[Y V 0] 3)).alloc (X #[Y V 0] 26)).alloc (X #[O A n c,Y V (k:Int)] 302)).alloc (X #[Y V 0,O none 0 0,J false] 197)).alloc (X #[Y V 64] 3)=W6 at T iP⊢;obtain⟨q,hq⟩:∃q,bp l 66 (k:Int) true 64=q:=⟨_,rfl⟩;rw[hq] at hr;have HR:=U hr;have HQ:=U hq;clear hr hq;obtain⟨JT,K0,K3⟩:=wz (A:=A) (n:=n) (c:=c) (intra:=false) (dc:=0) (l:=l) (i:=(k:Int)) (left0:=64) (first:=true) T iP (by decide) (by decide);have K6:((W6.alloc (X #[OA (some ⟨w.heap.size+3,0,none⟩)] 300)).alloc (X #[J true] 4)).heap.size=w.heap.size+8:=(by simp[iP]);generalize (W6.alloc (X #[OA (some ⟨w.heap.size+3,0,none⟩)] 300)).alloc (X #[J true] 4)=W at JT K0 K3 K6⊢;have KU:=U JT;have KL:=U K0;have KM:=U K3;have Kv:=U K6;clear JT K0 K3 K6 T iP;have aJ:Hid (w.heap.size<=W.heap.size):=U (by rw[Kv.out];omega);refine(wpIn_wide (n:=5)).1 ?_
  refine sZ (α:=gv) (enc:= λx:gv=> #[Oi #[Y V x.1.1,Y V x.1.2],Y V x.2])
   (IS:= λpre W=>lV w A n c false 0 l (k:Int) true 64 pre W/\ab W (w.heap.size+3) 302 #[O A n c,Y V (k:Int)]/\ab W (w.heap.size+7) 4 #[J true])
   (I:= λpre W=>lV w A n c false 0 l (k:Int) true 64 pre W/\ab W (w.heap.size+3) 302 #[O A n c,Y V (cD l (k:Int) true (Z pre+1))]/\ab W (w.heap.size+7) 4 #[J false])
   (I2:= λpre W=>lV w A n c false 0 l (k:Int) true 64 pre W/\ab W (w.heap.size+3) 302 #[O A n c,Y V (cD l (k:Int) true (Z pre))]/\ab W (w.heap.size+7) 4 #[J false])
   (IE:= λpre W=>lV w A n c false 0 l (k:Int) true 64 pre W/\ab W (w.heap.size+3) 302 #[O A n c,Y V (cD l (k:Int) true (Z pre+1))]/\ab W (w.heap.size+7) 4 #[J false])
   (S:= λxs=>mI l (k:Int) true xs/\(gK l (k:Int) true (Z xs)).2.1=true) (Sp:=mI l (k:Int) true)
   rfl (by decide) (gf:=288) (lb:= #[OA (some ⟨w.heap.size+6,0,none⟩),OA (some ⟨w.heap.size+7,0,none⟩)]) rfl trivial (enters_of Og (by kernel_rfl) rfl)
   (uI 4 (by decide) (w.heap.size+3) (w.heap.size+6) (w.heap.size+7) A n c l (k:Int) true HN.out hsz (by omega) (by rw[HN.out];omega) (by omega) _ (λpre W v h=>AL v h) (λpre W v h=>AM v h) (λpre A B h hb=>gP pre A B h hb) ?hC0 ?hCs) (λ_=>rfl)
   (λcd _ W=>m9 w (fg w.heap.size 0 (O none 0 0) 0 q.2.2) cd W/\q.2.2≠0)
   (λpre x g W=>IU w A n c false 0 l (k:Int) true 64 x g pre W/\ab W (w.heap.size+3) 302 #[O A n c,Y V (cD l (k:Int) true (Z pre+1))]/\ab W (w.heap.size+7) 4 #[J false])
   (OwnFrom.and (bq aJ.out _ _ _) (OwnFrom.and (bj _ _ _) (bj _ _ _))) (OwnFrom.and (bq aJ.out _ _ _) (OwnFrom.and (bj _ _ _) (bj _ _ _))) (OwnFrom.and (bq aJ.out _ _ _) (OwnFrom.and (bj _ _ _) (bj _ _ _)))
   (λcd=>OwnFrom.and (iu aJ.out _ _) (ownFrom_pure _ _)) (λx g=>OwnFrom.and (bq aJ.out _ _ _) (OwnFrom.and (bj _ _ _) (bj _ _ _))) ⟨KU.out,KL.out,KM.out⟩ ?round ?done ?stop
  case hC0=>
   rintro pre W' ⟨⟨k',hp,_⟩⟩;exact hp.zero
  case hCs=>
   rintro pre W' ⟨⟨k',hp,C⟩⟩;have j:=C.2.1;unfold dG at j;exact⟨j.tail.tail.head,HA.out.below C.1,HT.out.below C.1⟩
  case round=>
   apply Exists.intro;refine And.intro ?_ ?_
   ·rintro lp pre x W' ⟨⟨⟨k',hp,C⟩⟩,M,N⟩ av
    have HP:=U hp;have HC:=U C;have KJ:=U M;have KK:=U N;clear hp C M N av;dsimp only;gi_wp2
    obtain⟨g0,Kz⟩:∃g0,W'.heap.size=g0:=⟨_,rfl⟩;have KY:=dQ (ap HC.out (X #[Y V x.1.1,Y V x.1.2] 189)) (aE (ab.new W' 189 #[Y V x.1.1,Y V x.1.2]) Kz);rw[Kz];exact⟨⟨g0,rfl,⟨⟨k',HP.out,KY⟩⟩,KJ.out.alloc _,KK.out.alloc _⟩,co (KeepsFrom.refl _ _) _⟩
   ·rintro lp pre x g W' ⟨hJ,M,N⟩ av
    obtain⟨left,v,hp,C⟩:=GS hJ M N;clear hJ M N;have cI:=mD av;obtain⟨⟨q1,q2⟩,er⟩:=x;dsimp only at C;obtain⟨A2,c2,dy⟩:=bg C.2.2.head;dsimp only at dy;subst dy;have HP:=U hp;have HC:=U C;have kU:=U av;have KV:=U cI;have j:=C.2.1;clear hp C av cI;unfold dG fg at j;have L4:g≠w.heap.size+5:=aT j.head j.tail.tail.head (by simp);have L8:w.heap.size+5≠g:= λh=>L4 h.symm;have p0:=j.head.cell 0;have p1:=j.head.cell 1;have k0:=j.tail.head.cell 0;have k1:=j.tail.head.cell 1;have k2:=j.tail.head.cell 2;have L7:=j.tail.head.frozen 1;have l0:=j.tail.tail.head.cell 0;have lf:=j.tail.tail.head.frozen 0;have b0:=j.tail.tail.tail.tail.tail.tail.head.cell 0;have b1:=j.tail.tail.tail.tail.tail.tail.head.cell 1;have b2:=j.tail.tail.tail.tail.tail.tail.tail.head.cell 0;have b3:=j.tail.tail.tail.tail.tail.tail.tail.tail.head.cell 0;have rG:=j.tail.tail.tail.tail.tail.tail.head.frozen 0;have Hl:=j.tail.tail.tail.tail.tail.tail.head.frozen 1;have Ht:=j.tail.tail.tail.tail.tail.tail.tail.head.frozen 0;have Hu:=j.tail.tail.tail.tail.tail.tail.tail.tail.head.frozen 0;dsimp only at p0 p1 k0 k1 k2 L7 l0 lf b0 b1 b2 b3 rG Hl Ht Hu;clear j
    cases he:(er !=0) with
    |true=>
     have dv:er≠0:=(by simpa using he);have eE:=U dv;clear dv;have G:q.2.2=er:=(by rw[<-HQ.out];exact HP.out.err kU.out eE.out);have K:=U G;clear G;gi_wp2_with fail
     refine⟨aq (aq (aq (aq (KeepsFrom.refl _ _) _ _) _ _) _ _) _ _,⟨rfl,?_⟩,by rw[K.out];exact eE.out⟩;rw[K.out];exact ji 0 (O none 0 0) 0 er (lw (lN (aw HC.out))) (by simp)
    |false=>
     have KZ:er=0:=(by simpa using he);subst KZ;have L0:=KV.out;obtain⟨K4,KA⟩:=L0;have KG:=lO l (cD l (k:Int) true (Z pre)) (io true (Z pre)) (jm l (k:Int) true (by omega) (by rw[HN.out];omega) _).1 (jm l (k:Int) true (by omega) (by rw[HN.out];omega) _).2
     have L6:0<=q1/\q1<=63:=by
      have h1:=(Prod.mk.inj K4).1;have h2:=(Prod.mk.inj K4).2;have h3:=KG.2.2.2.1 h2.symm KA;have h4:(aS l (cD l (k:Int) true (Z pre)) (io true (Z pre))).1=(q1,q2):=h1.symm;rw[h4] at h3;exact⟨h3.1,h3.2.1⟩
     obtain⟨Li,Le⟩:=L6;clear KG K4 KA;have KC:=HP.out.pos;have KE:=HP.out.sum;have Lj:ON.wrap (q1+1)=q1+1:=(by rw[OK];omega);have KI:ON.wrap (left - (q1+1))=left - (q1+1):=(by rw[OK];omega);have Lg:=U KE;have Lf:=U KC;clear KE KC;obtain⟨lv,KF⟩:∃lv,left - (q1+1)=lv:=⟨_,rfl⟩;rw[KF] at KI;have Lk:ON.wrap lv=lv:=KI;have Ku:=U KF
     have dO:Hid (ay w (dG w.heap.size A n c false 0 lv (O A2 (Z pre) c2) (Y V (cD l (k:Int) true (Z pre+1))) (J false)) [⟨w.heap.size,189,2,O A2 (Z pre) c2,Z pre,az bd (pre.map (·.1))⟩] (W'.setCell ⟨w.heap.size+5,0,none⟩ (Y V lv))):=U (by
      have h2:=aV (aw HC.out) (g:=w.heap.size+5) (by omega) 0 (Y V lv) (w.heap.size+5,3,#[Y V left]) (by simp[dG]) rfl (by simp)
      simpa [df,dG,fg] using h2)
     by_cases Lb:lv<0
     ·have G:q.2.2=11:=by rw[<-HQ.out];exact HP.out.run kU.out rfl (by show left - (q1+1)<0;omega)
      have K:=U G;clear G;gi_wp2_with fail
      refine⟨aq (aq (aq (aq (aq (KeepsFrom.refl _ _) _ _) _ _) _ _) _ _) _ _,⟨rfl,?_⟩,by rw[K.out];decide⟩;rw[K.out];exact ji 0 (O none 0 0) 0 11 (lw (lN dO.out)) (by simp)
     ·have KW:=U (show (Z pre)<=64 from HP.out.len)
      gi_wp2_with (gi_at_builtin;refine kY wP rfl rfl 1 [Y V q1,Y V q2] rfl dO.out (by rw[OY];rfl) rfl (by intro u hu;simp at hu;rcases hu with rfl|rfl<;>rfl) (by have:=KW.out;omega) ⟨OC _,dO.out.1.size⟩ (by simp[dG,fg]) (by simp) ?_;intro v5 W5 bM KB;obtain⟨A5,c5,e5⟩:=bg bM.2.2.head;dsimp only at e5;subst e5;have KN:=U bM;have KT:=U KB;have hy:=bM.2.1;clear bM KB;unfold dG at hy;have y0:=hy.head.cell 0;have y1:=hy.head.cell 1;have y2:=hy.head.cell 2;have yf:=hy.head.frozen 1;dsimp only at y0 y1 y2 yf;clear hy)
      have KD:(pre++[(((q1,q2),0):gv)]).length=Z pre+1:=by simp
      have KQ:ay w (dG w.heap.size A n c false 0 lv (O A5 (Z pre+1) c5) (Y V (cD l (k:Int) true (Z pre+1))) (J false)) [⟨w.heap.size,189,2,O A5 (Z pre+1) c5,(pre++[(((q1,q2),0):gv)]).length,az bd ((pre++[(((q1,q2),0):gv)]).map (·.1))⟩] (W5.setCell ⟨w.heap.size+4,1,none⟩ (O A5 (Z pre+1) c5)):=by
       have h2:=aV KN.out (g:=w.heap.size+4) (by omega) 1 (O A5 (Z pre+1) c5) (w.heap.size+4,197,#[Y V 0,O A2 (Z pre) c2,J false]) (by simp[dG]) rfl (by simp);rw[KD,Ob,gR]
       simpa [df,dG,fg,fX,bd] using h2
      have h9:=wy (pre:=pre++[(((q1,q2),0):gv)]) (HP.out.next kU.out rfl (by show 0<=left - (q1+1);have:=Ku.out;omega) (by show 0<=q1;omega)) (by show ay w (dG w.heap.size A n c false 0 (left - (q1+1)) _ _ _) _ _;rw[Ku.out];exact KQ);refine⟨aq (dt (aq (KeepsFrom.refl _ _) _ _) (iq (KeepsFrom.refl _ _) KT.out (gH dO.out.2.2.head))) _ _,trivial,h9.1,?_,h9.2.2⟩;rw[KD];exact h9.2.1
  case done=>
   rintro D xs W2 hD ⟨hS,kA⟩ ⟨hI,M,N⟩ hK;obtain⟨left,v,hp,C⟩:=Jd hI M N;have G:=hp.fin kA;have K5:=jm l (k:Int) true (by omega) (by rw[HN.out];omega) (Z xs+1);rw[HN.out] at K5;rw[HQ.out] at G;have K:=U G;clear hI M N hS kA hp G;obtain⟨A2,c2,dy⟩:=bg C.2.2.head;dsimp only at dy;subst dy;obtain⟨pz,KH⟩:∃pz,cD l (k:Int) true (Z xs+1)=pz:=⟨_,rfl⟩;rw[KH] at C K K5;obtain⟨Lc,Ld⟩:=K5;have Ll:ON.wrap (pz - (k:Int))=pz - (k:Int):=(by rw[OK];omega);have HC:=U C;have HK:=U hK;have HD:=U hD;have KR:=U (bB C);have j:=C.2.1;have jg:=KR.out.2.1;clear C hK KH hD;unfold dG fg at j;unfold dG at jg;have Kt:=U jg.head;have K9:=U jg.tail.tail.tail.head;clear jg;have b0:=j.tail.tail.tail.tail.tail.head.cell 0;have b1:=j.tail.tail.tail.tail.tail.head.cell 1;have b2:=j.tail.tail.tail.tail.tail.tail.head.cell 0;have b3:=j.tail.tail.tail.tail.tail.tail.tail.head.cell 0;have rG:=j.tail.tail.tail.tail.tail.head.frozen 0;have Hl:=j.tail.tail.tail.tail.tail.head.frozen 1;have Ht:=j.tail.tail.tail.tail.tail.tail.head.frozen 0;have Hu:=j.tail.tail.tail.tail.tail.tail.tail.head.frozen 0;dsimp only at b0 b1 b2 b3 rG Hl Ht Hu;clear j;gi_wp2_with fail
   go_wp2_with fail
   refine aP (λw'=>aa [(w.heap.size+4,197,#[Y V 0,O A2 (Z xs) c2,J false]),(w.heap.size+3,302,#[O A n c,Y V pz])] w') 9 (OS 0 (OS 1 (OS 2 (OS 3 (OS 4 (OS 5 (OS 6 (OS 7 (.step 8 .done))))))))) (aa.cons Kt.out (aa.cons K9.out (ai _))) (λPE Kx=>?_)
   iterate 8
    refine af (v:=?_) rfl (by rfl) ?_ ?_
    rotate_left
    ·intro _ cE;(try dsimp only at cE);have z0:=cE.head.cell 0;have z1:=cE.head.cell 1;have z2:=cE.tail.head.cell 0;have z3:=cE.tail.head.cell 1;dsimp only at z0 z1 z2 z3;go_simp;(try with_reducible rfl)
    simp only[OT,OW,OV]
   refine bD _ (w':=?_) rfl (by rfl) ?_ ?_ ?_;rotate_left 1
   ·go_simp;(first|(with_reducible rfl)|(constructor<;>with_reducible rfl)|skip)
   ·exact aa.cons ((Kt.out.far (p:=⟨w.heap.size,0,none⟩) (by simp) (Y V 0)).far (p:=⟨w.heap.size,1,none⟩) (by simp) (O A2 (Z xs) c2)) (aa.cons ((K9.out.far (p:=⟨w.heap.size,0,none⟩) (by simp) (Y V 0)).far (p:=⟨w.heap.size,1,none⟩) (by simp) (O A2 (Z xs) c2)) (ai _))
   refine Kx _ _ ?_;clear Kx PE;simp only[OU,Oc];go_wp2_with fail
   refine⟨rfl,?_⟩;go_wp2_with fail
   have bM:=bB (ji 0 (O A2 (Z xs) c2) (pz - (k:Int)) 0 (lN HC.out) (by simp));have Lh:w.heap.size+8<=D:=by have:=HD.out;rw[Kv.out] at this;exact this
   have Kw:(Oh ((((W2.setCell ⟨w.heap.size,0,none⟩ (Y V 0)).setCell ⟨w.heap.size,1,none⟩ (O A2 (Z xs) c2)).setCell ⟨w.heap.size+1,0,none⟩ (Y V (pz - (k:Int)))).setCell ⟨w.heap.size+2,0,none⟩ (Y V 0))).heap[D]? =some (.deferred (some [])):=by
    show (Oe _ _ _).heap[D]? =_;rw[Below.heap_setCell _ _ _ D (by show D≠w.heap.size+2;omega),Below.heap_setCell _ _ _ D (by show D≠w.heap.size+1;omega),Below.heap_setCell _ _ _ D (by show D≠w.heap.size;omega),Below.heap_setCell _ _ _ D (by show D≠w.heap.size;omega)];exact HK.out
   have T:=im (o':= .deferred none) bM Kw rfl (by omega)
   have gj:r=(⟨0,xs.map (·.1)⟩,pz - (k:Int),0):=by
    have h:=HR.out;rw[K.out] at h;exact h.symm.trans (if_neg (by simp))
   rw[gj];exact eo Kw (gJ w.heap.size 0 (O A2 (Z xs) c2) (pz - (k:Int)) 0 _ _ T.2.1 rfl rfl rfl) ⟨O A2 (Z xs) c2,rfl,T.1,by show Od _ _ _ _ _ (xs.map (·.1)).length _;rw[Oa];exact T.2.2.head⟩
  case stop=>
   rintro D cd pre W2 hD av ⟨⟨rfl,jY,Ky,_⟩,dv⟩ hK;have K8:=U jY;have KO:=U Ky;have HK:=U hK;have HD:=U hD;have eE:=U dv;clear jY Ky hK av hD dv
   have gj:r=(⟨0,[]⟩,0,q.2.2):=by
    have h:=HR.out;rw[if_pos (by simpa using eE.out)] at h;exact h.symm
   have KX:=U gj;clear gj;gi_wp2_with fail
   rw[KX.out];exact eo HK.out (gJ w.heap.size 0 (O none 0 0) 0 q.2.2 _ _ (cL (o':= .deferred none) KO.out HK.out rfl) rfl rfl rfl) ⟨O none 0 0,rfl,cu K8.out (Of aJ.out HD.out),OD _ _ _ _⟩
 |true=>
  rw[if_pos (show true=true from rfl)] at hr
  by_cases fJ:8*(n:Int)<(k:Int)+8
  ·rw[if_pos fJ] at hr
   subst hr;have Rd:=U (λW=>dj A n c (k:Int) 8 W (by omega) (by decide) (by decide) (by omega) hsz);clear fJ;refine(callsIn_wide (n:=5)).1 ?_;refine callsIn_of_wp_marks OR rfl trivial ?_ rfl;simp only[OQ,OJ,OF,OH,OB,OP,Array.replicate_succ,Array.replicate_zero,OI,OE,OM,OL];refine wpIn_wide.2 ?_;go_wp2_with (first|(go_at_call 84;refine(di A n c _ hsz).mono ?_;rintro e w' ⟨rfl,rfl⟩)|(go_at_call 56;refine(Rd.out _).mono ?_;rintro e w' ⟨rfl,rfl⟩))
   simp only[OO,OB];refine iy (gJ w.heap.size 0 (O none 0 0) 0 5 _ _ ?_ rfl rfl rfl) ⟨O none 0 0,rfl,?_,OD _ _ _ _⟩
   ·unfold fg
    refine aa.cons ?_ (aa.cons ?_ (aa.cons ?_ (ai _)))
    all_goals (repeat (first|(refine aE (ab.new _ _ _) ?_;simp[OG];done)|refine ab.alloc ?_ _))
   ·exact((((((Below.refl _ _).alloc (OC _) _).alloc (by simp) _).alloc (by simp;omega) _).alloc (by simp;omega) _).alloc (by simp;omega) _).alloc (by simp;omega) _
  ·rw[if_neg fJ] at hr
   have Ln:k+8<=8*n:=(by omega);obtain⟨nb,L5⟩:∃nb,aB l k 8=nb:=⟨_,rfl⟩;dsimp only at hr;rw[L5] at hr;have Rd:=U (λW h=>fS (nb:Int) A n c l (k:Int) 8 W (by rw[OZ];show ((aB l k 8:Nat):Int)=_;rw[L5]) h HN.out (by omega) (by decide) (by decide) (by omega) hsz);clear fJ L5
   cases hz:((nb==0)||(nb==128)) with
   |true=>
    rw[hz,if_pos rfl] at hr;subst hr;have Lm:nb=0\/nb=128:=(by simpa using hz);clear hz;rcases Lm with rfl|rfl
    ·skip
     refine(callsIn_wide (n:=5)).1 ?_;refine callsIn_of_wp_marks OR rfl trivial ?_ rfl;simp only[OQ,OJ,OF,OH,OB,OP,Array.replicate_succ,Array.replicate_zero,OI,OE,OM,OL];refine wpIn_wide.2 ?_;go_wp2_with (first|(go_at_call 84;refine(di A n c _ hsz).mono ?_;rintro e w' ⟨rfl,rfl⟩)|(go_at_call 56;refine(Rd.out _ (HA.out.below (((((((Below.refl _ _).alloc (OC _) _).alloc (by simp) _).alloc (by simp;omega) _).alloc (by simp;omega) _).alloc (by simp;omega) _).alloc (by simp;omega) _))).mono ?_;rintro e w' ⟨rfl,rfl⟩))
     simp only[OO,OB];refine iy (gJ w.heap.size 0 (O none 0 0) 0 10 _ _ ?_ rfl rfl rfl) ⟨O none 0 0,rfl,?_,OD _ _ _ _⟩
     ·unfold fg
      refine aa.cons ?_ (aa.cons ?_ (aa.cons ?_ (ai _)))
      all_goals (repeat (first|(refine aE (ab.new _ _ _) ?_;simp[OG];done)|refine ab.alloc ?_ _))
     ·exact((((((Below.refl _ _).alloc (OC _) _).alloc (by simp) _).alloc (by simp;omega) _).alloc (by simp;omega) _).alloc (by simp;omega) _).alloc (by simp;omega) _
    ·skip
     refine(callsIn_wide (n:=5)).1 ?_;refine callsIn_of_wp_marks OR rfl trivial ?_ rfl;simp only[OQ,OJ,OF,OH,OB,OP,Array.replicate_succ,Array.replicate_zero,OI,OE,OM,OL];refine wpIn_wide.2 ?_;go_wp2_with (first|(go_at_call 84;refine(di A n c _ hsz).mono ?_;rintro e w' ⟨rfl,rfl⟩)|(go_at_call 56;refine(Rd.out _ (HA.out.below (((((((Below.refl _ _).alloc (OC _) _).alloc (by simp) _).alloc (by simp;omega) _).alloc (by simp;omega) _).alloc (by simp;omega) _).alloc (by simp;omega) _))).mono ?_;rintro e w' ⟨rfl,rfl⟩))
     simp only[OO,OB];refine iy (gJ w.heap.size 0 (O none 0 0) 0 10 _ _ ?_ rfl rfl rfl) ⟨O none 0 0,rfl,?_,OD _ _ _ _⟩
     ·unfold fg
      refine aa.cons ?_ (aa.cons ?_ (aa.cons ?_ (ai _)))
      all_goals (repeat (first|(refine aE (ab.new _ _ _) ?_;simp[OG];done)|refine ab.alloc ?_ _))
     ·exact((((((Below.refl _ _).alloc (OC _) _).alloc (by simp) _).alloc (by simp;omega) _).alloc (by simp;omega) _).alloc (by simp;omega) _).alloc (by simp;omega) _
   |false=>
    rw[hz,if_neg (by decide)] at hr;have Lp:((nb:Int)==0)=false:=(by simp at hz⊢;omega);have Lq:((nb:Int)==128)=false:=(by simp at hz⊢;omega);have Lo:ON.wrap ((k:Int)+8)=(k:Int)+8:=(by rw[OK];omega);clear hz;refine(callsIn_wide (n:=5)).1 ?_;refine callsIn_of_wp_marks OR rfl trivial ?_ rfl;simp only[OQ,OJ,OF,OH,OB,OP,Array.replicate_succ,Array.replicate_zero,OI,OE,OM,OL];refine wpIn_wide.2 ?_;go_wp2_with (first|(go_at_call 84;refine(di A n c _ hsz).mono ?_;rintro e w' ⟨rfl,rfl⟩)|(go_at_call 56;refine(Rd.out _ (HA.out.below (((((((Below.refl _ _).alloc (OC _) _).alloc (by simp) _).alloc (by simp;omega) _).alloc (by simp;omega) _).alloc (by simp;omega) _).alloc (by simp;omega) _))).mono ?_;rintro e w' ⟨rfl,rfl⟩)|(go_at_call 277;refine(o5 _ _ _).mono ?_;rintro e w' ⟨rfl,rfl⟩))
    have T:ay w ((w.heap.size+4,197,#[Y V (nb:Int),O none 0 0,J true])::(w.heap.size+5,3,#[Y V 63])::(w.heap.size+3,302,#[O A n c,Y V ((k:Int)+8)])::fg w.heap.size 0 (O none 0 0) 0 0) [] ((((((w.alloc (X #[Y V 0,O none 0 0] 93)).alloc (X #[Y V 0] 3)).alloc (X #[Y V 0] 26)).alloc (X #[O A n c,Y V ((k:Int)+8)] 302)).alloc (X #[Y V (nb:Int),O none 0 0,J true] 197)).alloc (X #[Y V 63] 3)):=by
     refine⟨(((((((Below.refl _ _).alloc (OC _) _).alloc (by simp) _).alloc (by simp;omega) _).alloc (by simp;omega) _).alloc (by simp;omega) _).alloc (by simp;omega) _),?_,aF _⟩;unfold fg;refine aa.cons ?_ (aa.cons ?_ (aa.cons ?_ (aa.cons ?_ (aa.cons ?_ (aa.cons ?_ (ai _))))))
     all_goals (repeat (first|(refine aE (ab.new _ _ _) ?_;simp[OG];done)|refine ab.alloc ?_ _))
    have iP:((((((w.alloc (X #[Y V 0,O none 0 0] 93)).alloc (X #[Y V 0] 3)).alloc (X #[Y V 0] 26)).alloc (X #[O A n c,Y V ((k:Int)+8)] 302)).alloc (X #[Y V (nb:Int),O none 0 0,J true] 197)).alloc (X #[Y V 63] 3)).heap.size=w.heap.size+6:=(by simp);simp only[OO,OB];generalize (((((w.alloc (X #[Y V 0,O none 0 0] 93)).alloc (X #[Y V 0] 3)).alloc (X #[Y V 0] 26)).alloc (X #[O A n c,Y V ((k:Int)+8)] 302)).alloc (X #[Y V (nb:Int),O none 0 0,J true] 197)).alloc (X #[Y V 63] 3)=W6 at T iP⊢;obtain⟨q,hq⟩:∃q,bp l 66 ((k:Int)+8) false 63=q:=⟨_,rfl⟩;rw[hq] at hr;have HR:=U hr;have HQ:=U hq;clear hr hq;obtain⟨JT,K0,K3⟩:=wz (A:=A) (n:=n) (c:=c) (intra:=true) (dc:=(nb:Int)) (l:=l) (i:=((k:Int)+8)) (left0:=63) (first:=false) T iP (by decide) (by decide);have K6:((W6.alloc (X #[OA (some ⟨w.heap.size+3,0,none⟩)] 300)).alloc (X #[J false] 4)).heap.size=w.heap.size+8:=(by simp[iP]);generalize (W6.alloc (X #[OA (some ⟨w.heap.size+3,0,none⟩)] 300)).alloc (X #[J false] 4)=W at JT K0 K3 K6⊢;have KU:=U JT;have KL:=U K0;have KM:=U K3;have Kv:=U K6;clear JT K0 K3 K6 T iP;have aJ:Hid (w.heap.size<=W.heap.size):=U (by rw[Kv.out];omega);refine(wpIn_wide (n:=5)).1 ?_
    refine sZ (α:=gv) (enc:= λx:gv=> #[Oi #[Y V x.1.1,Y V x.1.2],Y V x.2])
     (IS:= λpre W=>lV w A n c true (nb:Int) l ((k:Int)+8) false 63 pre W/\ab W (w.heap.size+3) 302 #[O A n c,Y V ((k:Int)+8)]/\ab W (w.heap.size+7) 4 #[J false])
     (I:= λpre W=>lV w A n c true (nb:Int) l ((k:Int)+8) false 63 pre W/\ab W (w.heap.size+3) 302 #[O A n c,Y V (cD l ((k:Int)+8) false (Z pre+1))]/\ab W (w.heap.size+7) 4 #[J false])
     (I2:= λpre W=>lV w A n c true (nb:Int) l ((k:Int)+8) false 63 pre W/\ab W (w.heap.size+3) 302 #[O A n c,Y V (cD l ((k:Int)+8) false (Z pre))]/\ab W (w.heap.size+7) 4 #[J false])
     (IE:= λpre W=>lV w A n c true (nb:Int) l ((k:Int)+8) false 63 pre W/\ab W (w.heap.size+3) 302 #[O A n c,Y V (cD l ((k:Int)+8) false (Z pre+1))]/\ab W (w.heap.size+7) 4 #[J false])
     (S:= λxs=>mI l ((k:Int)+8) false xs/\(gK l ((k:Int)+8) false (Z xs)).2.1=true) (Sp:=mI l ((k:Int)+8) false)
     rfl (by decide) (gf:=288) (lb:= #[OA (some ⟨w.heap.size+6,0,none⟩),OA (some ⟨w.heap.size+7,0,none⟩)]) rfl trivial (enters_of Og (by kernel_rfl) rfl)
     (uI 4 (by decide) (w.heap.size+3) (w.heap.size+6) (w.heap.size+7) A n c l ((k:Int)+8) false HN.out hsz (by omega) (by rw[HN.out];omega) (by omega) _ (λpre W v h=>AL v h) (λpre W v h=>AM v h) (λpre A B h hb=>gP pre A B h hb) ?hC0 ?hCs) (λ_=>rfl)
     (λcd _ W=>m9 w (fg w.heap.size 0 (O none 0 0) 0 q.2.2) cd W/\q.2.2≠0)
     (λpre x g W=>IU w A n c true (nb:Int) l ((k:Int)+8) false 63 x g pre W/\ab W (w.heap.size+3) 302 #[O A n c,Y V (cD l ((k:Int)+8) false (Z pre+1))]/\ab W (w.heap.size+7) 4 #[J false])
     (OwnFrom.and (bq aJ.out _ _ _) (OwnFrom.and (bj _ _ _) (bj _ _ _))) (OwnFrom.and (bq aJ.out _ _ _) (OwnFrom.and (bj _ _ _) (bj _ _ _))) (OwnFrom.and (bq aJ.out _ _ _) (OwnFrom.and (bj _ _ _) (bj _ _ _)))
     (λcd=>OwnFrom.and (iu aJ.out _ _) (ownFrom_pure _ _)) (λx g=>OwnFrom.and (bq aJ.out _ _ _) (OwnFrom.and (bj _ _ _) (bj _ _ _))) ⟨KU.out,KL.out,KM.out⟩ ?round ?done ?stop
    case hC0=>
     rintro pre W' ⟨⟨k',hp,_⟩⟩;exact hp.zero
    case hCs=>
     rintro pre W' ⟨⟨k',hp,C⟩⟩;have j:=C.2.1;unfold dG at j;exact⟨j.tail.tail.head,HA.out.below C.1,HT.out.below C.1⟩
    case round=>
     apply Exists.intro;refine And.intro ?_ ?_
     ·rintro lp pre x W' ⟨⟨⟨k',hp,C⟩⟩,M,N⟩ av
      have HP:=U hp;have HC:=U C;have KJ:=U M;have KK:=U N;clear hp C M N av;dsimp only;gi_wp2
      obtain⟨g0,Kz⟩:∃g0,W'.heap.size=g0:=⟨_,rfl⟩;have KY:=dQ (ap HC.out (X #[Y V x.1.1,Y V x.1.2] 189)) (aE (ab.new W' 189 #[Y V x.1.1,Y V x.1.2]) Kz);rw[Kz];exact⟨⟨g0,rfl,⟨⟨k',HP.out,KY⟩⟩,KJ.out.alloc _,KK.out.alloc _⟩,co (KeepsFrom.refl _ _) _⟩
     ·rintro lp pre x g W' ⟨hJ,M,N⟩ av
      obtain⟨left,v,hp,C⟩:=GS hJ M N;clear hJ M N;have cI:=mD av;obtain⟨⟨q1,q2⟩,er⟩:=x;dsimp only at C;obtain⟨A2,c2,dy⟩:=bg C.2.2.head;dsimp only at dy;subst dy;have HP:=U hp;have HC:=U C;have kU:=U av;have KV:=U cI;have j:=C.2.1;clear hp C av cI;unfold dG fg at j;have L4:g≠w.heap.size+5:=aT j.head j.tail.tail.head (by simp);have L8:w.heap.size+5≠g:= λh=>L4 h.symm;have p0:=j.head.cell 0;have p1:=j.head.cell 1;have k0:=j.tail.head.cell 0;have k1:=j.tail.head.cell 1;have k2:=j.tail.head.cell 2;have L7:=j.tail.head.frozen 1;have l0:=j.tail.tail.head.cell 0;have lf:=j.tail.tail.head.frozen 0;have b0:=j.tail.tail.tail.tail.tail.tail.head.cell 0;have b1:=j.tail.tail.tail.tail.tail.tail.head.cell 1;have b2:=j.tail.tail.tail.tail.tail.tail.tail.head.cell 0;have b3:=j.tail.tail.tail.tail.tail.tail.tail.tail.head.cell 0;have rG:=j.tail.tail.tail.tail.tail.tail.head.frozen 0;have Hl:=j.tail.tail.tail.tail.tail.tail.head.frozen 1;have Ht:=j.tail.tail.tail.tail.tail.tail.tail.head.frozen 0;have Hu:=j.tail.tail.tail.tail.tail.tail.tail.tail.head.frozen 0;dsimp only at p0 p1 k0 k1 k2 L7 l0 lf b0 b1 b2 b3 rG Hl Ht Hu;clear j
      cases he:(er !=0) with
      |true=>
       have dv:er≠0:=(by simpa using he);have eE:=U dv;clear dv;have G:q.2.2=er:=(by rw[<-HQ.out];exact HP.out.err kU.out eE.out);have K:=U G;clear G;gi_wp2_with fail
       refine⟨aq (aq (aq (aq (KeepsFrom.refl _ _) _ _) _ _) _ _) _ _,⟨rfl,?_⟩,by rw[K.out];exact eE.out⟩;rw[K.out];exact ji 0 (O none 0 0) 0 er (lw (lN (aw HC.out))) (by simp)
      |false=>
       have KZ:er=0:=(by simpa using he);subst KZ;have L0:=KV.out;obtain⟨K4,KA⟩:=L0;have KG:=lO l (cD l ((k:Int)+8) false (Z pre)) (io false (Z pre)) (jm l ((k:Int)+8) false (by omega) (by rw[HN.out];omega) _).1 (jm l ((k:Int)+8) false (by omega) (by rw[HN.out];omega) _).2
       have L6:0<=q1/\q1<=63:=by
        have h1:=(Prod.mk.inj K4).1;have h2:=(Prod.mk.inj K4).2;have h3:=KG.2.2.2.1 h2.symm KA;have h4:(aS l (cD l ((k:Int)+8) false (Z pre)) (io false (Z pre))).1=(q1,q2):=h1.symm;rw[h4] at h3;exact⟨h3.1,h3.2.1⟩
       obtain⟨Li,Le⟩:=L6;clear KG K4 KA;have KC:=HP.out.pos;have KE:=HP.out.sum;have Lj:ON.wrap (q1+1)=q1+1:=(by rw[OK];omega);have KI:ON.wrap (left - (q1+1))=left - (q1+1):=(by rw[OK];omega);have Lg:=U KE;have Lf:=U KC;clear KE KC;obtain⟨lv,KF⟩:∃lv,left - (q1+1)=lv:=⟨_,rfl⟩;rw[KF] at KI;have Lk:ON.wrap lv=lv:=KI;have Ku:=U KF
       have dO:Hid (ay w (dG w.heap.size A n c true (nb:Int) lv (O A2 (Z pre) c2) (Y V (cD l ((k:Int)+8) false (Z pre+1))) (J false)) [⟨w.heap.size,189,2,O A2 (Z pre) c2,Z pre,az bd (pre.map (·.1))⟩] (W'.setCell ⟨w.heap.size+5,0,none⟩ (Y V lv))):=U (by
        have h2:=aV (aw HC.out) (g:=w.heap.size+5) (by omega) 0 (Y V lv) (w.heap.size+5,3,#[Y V left]) (by simp[dG]) rfl (by simp)
        simpa [df,dG,fg] using h2)
       by_cases Lb:lv<0
       ·have G:q.2.2=11:=by rw[<-HQ.out];exact HP.out.run kU.out rfl (by show left - (q1+1)<0;omega)
        have K:=U G;clear G;gi_wp2_with fail
        refine⟨aq (aq (aq (aq (aq (KeepsFrom.refl _ _) _ _) _ _) _ _) _ _) _ _,⟨rfl,?_⟩,by rw[K.out];decide⟩;rw[K.out];exact ji 0 (O none 0 0) 0 11 (lw (lN dO.out)) (by simp)
       ·have KW:=U (show (Z pre)<=64 from HP.out.len)
        gi_wp2_with (gi_at_builtin;refine kY wP rfl rfl 1 [Y V q1,Y V q2] rfl dO.out (by rw[OY];rfl) rfl (by intro u hu;simp at hu;rcases hu with rfl|rfl<;>rfl) (by have:=KW.out;omega) ⟨OC _,dO.out.1.size⟩ (by simp[dG,fg]) (by simp) ?_;intro v5 W5 bM KB;obtain⟨A5,c5,e5⟩:=bg bM.2.2.head;dsimp only at e5;subst e5;have KN:=U bM;have KT:=U KB;have hy:=bM.2.1;clear bM KB;unfold dG at hy;have y0:=hy.head.cell 0;have y1:=hy.head.cell 1;have y2:=hy.head.cell 2;have yf:=hy.head.frozen 1;dsimp only at y0 y1 y2 yf;clear hy)
        have KD:(pre++[(((q1,q2),0):gv)]).length=Z pre+1:=by simp
        have KQ:ay w (dG w.heap.size A n c true (nb:Int) lv (O A5 (Z pre+1) c5) (Y V (cD l ((k:Int)+8) false (Z pre+1))) (J false)) [⟨w.heap.size,189,2,O A5 (Z pre+1) c5,(pre++[(((q1,q2),0):gv)]).length,az bd ((pre++[(((q1,q2),0):gv)]).map (·.1))⟩] (W5.setCell ⟨w.heap.size+4,1,none⟩ (O A5 (Z pre+1) c5)):=by
         have h2:=aV KN.out (g:=w.heap.size+4) (by omega) 1 (O A5 (Z pre+1) c5) (w.heap.size+4,197,#[Y V (nb:Int),O A2 (Z pre) c2,J true]) (by simp[dG]) rfl (by simp);rw[KD,Ob,gR]
         simpa [df,dG,fg,fX,bd] using h2
        have h9:=wy (pre:=pre++[(((q1,q2),0):gv)]) (HP.out.next kU.out rfl (by show 0<=left - (q1+1);have:=Ku.out;omega) (by show 0<=q1;omega)) (by show ay w (dG w.heap.size A n c true (nb:Int) (left - (q1+1)) _ _ _) _ _;rw[Ku.out];exact KQ);refine⟨aq (dt (aq (KeepsFrom.refl _ _) _ _) (iq (KeepsFrom.refl _ _) KT.out (gH dO.out.2.2.head))) _ _,trivial,h9.1,?_,h9.2.2⟩;rw[KD];exact h9.2.1
    case done=>
     rintro D xs W2 hD ⟨hS,kA⟩ ⟨hI,M,N⟩ hK;obtain⟨left,v,hp,C⟩:=Jd hI M N;have G:=hp.fin kA;have K5:=jm l ((k:Int)+8) false (by omega) (by rw[HN.out];omega) (Z xs+1);rw[HN.out] at K5;rw[HQ.out] at G;have K:=U G;clear hI M N hS kA hp G;obtain⟨A2,c2,dy⟩:=bg C.2.2.head;dsimp only at dy;subst dy;obtain⟨pz,KH⟩:∃pz,cD l ((k:Int)+8) false (Z xs+1)=pz:=⟨_,rfl⟩;rw[KH] at C K K5;obtain⟨Lc,Ld⟩:=K5;have Ll:ON.wrap (pz - (k:Int))=pz - (k:Int):=(by rw[OK];omega);have HC:=U C;have HK:=U hK;have HD:=U hD;have KR:=U (bB C);have j:=C.2.1;have jg:=KR.out.2.1;clear C hK KH hD;unfold dG fg at j;unfold dG at jg;have Kt:=U jg.head;have K9:=U jg.tail.tail.tail.head;clear jg;have b0:=j.tail.tail.tail.tail.tail.head.cell 0;have b1:=j.tail.tail.tail.tail.tail.head.cell 1;have b2:=j.tail.tail.tail.tail.tail.tail.head.cell 0;have b3:=j.tail.tail.tail.tail.tail.tail.tail.head.cell 0;have rG:=j.tail.tail.tail.tail.tail.head.frozen 0;have Hl:=j.tail.tail.tail.tail.tail.head.frozen 1;have Ht:=j.tail.tail.tail.tail.tail.tail.head.frozen 0;have Hu:=j.tail.tail.tail.tail.tail.tail.tail.head.frozen 0;dsimp only at b0 b1 b2 b3 rG Hl Ht Hu;clear j;gi_wp2_with fail
     go_wp2_with fail
     refine aP (λw'=>aa [(w.heap.size+4,197,#[Y V (nb:Int),O A2 (Z xs) c2,J true]),(w.heap.size+3,302,#[O A n c,Y V pz])] w') 9 (OS 0 (OS 1 (OS 2 (OS 3 (OS 4 (OS 5 (OS 6 (OS 7 (.step 8 .done))))))))) (aa.cons Kt.out (aa.cons K9.out (ai _))) (λPE Kx=>?_)
     iterate 8
      refine af (v:=?_) rfl (by rfl) ?_ ?_
      rotate_left
      ·intro _ cE;(try dsimp only at cE);have z0:=cE.head.cell 0;have z1:=cE.head.cell 1;have z2:=cE.tail.head.cell 0;have z3:=cE.tail.head.cell 1;dsimp only at z0 z1 z2 z3;go_simp;(try with_reducible rfl)
      simp only[OT,OW,OV]
     refine bD _ (w':=?_) rfl (by rfl) ?_ ?_ ?_;rotate_left 1
     ·go_simp;(first|(with_reducible rfl)|(constructor<;>with_reducible rfl)|skip)
     ·exact aa.cons ((Kt.out.far (p:=⟨w.heap.size,0,none⟩) (by simp) (Y V (nb:Int))).far (p:=⟨w.heap.size,1,none⟩) (by simp) (O A2 (Z xs) c2)) (aa.cons ((K9.out.far (p:=⟨w.heap.size,0,none⟩) (by simp) (Y V (nb:Int))).far (p:=⟨w.heap.size,1,none⟩) (by simp) (O A2 (Z xs) c2)) (ai _))
     refine Kx _ _ ?_;clear Kx PE;simp only[OU,Oc];go_wp2_with fail
     refine⟨rfl,?_⟩;go_wp2_with fail
     have bM:=bB (ji (nb:Int) (O A2 (Z xs) c2) (pz - (k:Int)) 0 (lN HC.out) (by simp));have Lh:w.heap.size+8<=D:=by have:=HD.out;rw[Kv.out] at this;exact this
     have Kw:(Oh ((((W2.setCell ⟨w.heap.size,0,none⟩ (Y V (nb:Int))).setCell ⟨w.heap.size,1,none⟩ (O A2 (Z xs) c2)).setCell ⟨w.heap.size+1,0,none⟩ (Y V (pz - (k:Int)))).setCell ⟨w.heap.size+2,0,none⟩ (Y V 0))).heap[D]? =some (.deferred (some [])):=by
      show (Oe _ _ _).heap[D]? =_;rw[Below.heap_setCell _ _ _ D (by show D≠w.heap.size+2;omega),Below.heap_setCell _ _ _ D (by show D≠w.heap.size+1;omega),Below.heap_setCell _ _ _ D (by show D≠w.heap.size;omega),Below.heap_setCell _ _ _ D (by show D≠w.heap.size;omega)];exact HK.out
     have T:=im (o':= .deferred none) bM Kw rfl (by omega)
     have gj:r=(⟨(nb:Int),xs.map (·.1)⟩,pz - (k:Int),0):=by
      have h:=HR.out;rw[K.out] at h;exact h.symm.trans (if_neg (by simp))
     rw[gj];exact eo Kw (gJ w.heap.size (nb:Int) (O A2 (Z xs) c2) (pz - (k:Int)) 0 _ _ T.2.1 rfl rfl rfl) ⟨O A2 (Z xs) c2,rfl,T.1,by show Od _ _ _ _ _ (xs.map (·.1)).length _;rw[Oa];exact T.2.2.head⟩
    case stop=>
     rintro D cd pre W2 hD av ⟨⟨rfl,jY,Ky,_⟩,dv⟩ hK;have K8:=U jY;have KO:=U Ky;have HK:=U hK;have HD:=U hD;have eE:=U dv;clear jY Ky hK av hD dv
     have gj:r=(⟨0,[]⟩,0,q.2.2):=by
      have h:=HR.out;rw[if_pos (by simpa using eE.out)] at h;exact h.symm
     have KX:=U gj;clear gj;gi_wp2_with fail
     rw[KX.out];exact eo HK.out (gJ w.heap.size 0 (O none 0 0) 0 q.2.2 _ _ (cL (o':= .deferred none) KO.out HK.out rfl) rfl rfl rfl) ⟨O none 0 0,rfl,cu K8.out (Of aJ.out HD.out),OD _ _ _ _⟩
end Go.Proofs.YthhijgcfbjcgiaaGreatDoor
