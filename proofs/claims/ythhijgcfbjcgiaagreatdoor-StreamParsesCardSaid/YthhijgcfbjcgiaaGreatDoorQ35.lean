/- StpL, RdW, RunG, StpC, Step0, ShoR, Ref08c, Ref08d, Ref08e, Ref12 -/
import Derived.Test.YthhijgcfbjcgiaaGreatDoorQ34
import Derived.Test.YthhijgcfbjcgiaaGreatDoorQ32
namespace Go.Proofs.YthhijgcfbjcgiaaGreatDoor
section
open Go Go.RowKit
open List renaming length→O,replicate→U,length_append→Y,length_cons→J,append_nil→OA
open Bool renaming false_eq_true→Z
open Go.Value renaming pointer→V,int→OF
open Tryz renaming prog→X
open Go.IntKind renaming i64→OB,i64→OE
open Nat renaming le_refl→OC
open Go.Ending renaming returned→OD
def jB (l:List UInt8) (s:aZ):(aZ×List bH)×Int:=
 let k:=aF l s 0
 if k.2 !=0 then k else
 let m:=bz l (eL k.1.1) k.1.1 []
 if m.2 !=0 then m else
 bz l (U (bO (ax m.1.1 5).pa) 5) m.1.1 m.1.2
theorem sY (l:List UInt8):∀(k:Nat)(s:aZ)(bl:List bH),
  (bg l s.pt.1 k s.a).2.2≠0/\(bz l (U k 5) s bl).2=(bg l s.pt.1 k s.a).2.2\/
  (bg l s.pt.1 k s.a).2.2=0/\(bz l (U k 5) s bl).2=0/\(bz l (U k 5) s bl).1.2=bl++(bg l s.pt.1 k s.a).1/\(bz l (U k 5) s bl).1.1.a=(bg l s.pt.1 k s.a).2.1/\
   (bz l (U k 5) s bl).1.1.ad=s.ad/\(bz l (U k 5) s bl).1.1.kd=s.kd/\(bz l (U k 5) s bl).1.1.qu=s.qu/\(bz l (U k 5) s bl).1.1.mx=s.mx/\(bz l (U k 5) s bl).1.1.my=s.my/\(bz l (U k 5) s bl).1.1.pa=(if k=0 then s.pa else(ax s 5).pa)
 |0,s,bl=> .inr ⟨rfl,rfl,by simp[bg,bz],rfl,rfl,rfl,rfl,rfl,rfl,rfl⟩
 |k+1,s,bl=>by
  have e:aF l (ax s 5) 5=(({ax s 5 with a:=s.a+(a9 l s.a s.pt.1).2.1},[(a9 l s.a s.pt.1).1]),(a9 l s.a s.pt.1).2.2):=by
   unfold ax
   split<;>rfl
  have N:bg l s.pt.1 (k+1) s.a=(if (a9 l s.a s.pt.1).2.2 !=0 then([],0,(a9 l s.a s.pt.1).2.2) else((a9 l s.a s.pt.1).1::(bg l s.pt.1 k (s.a+(a9 l s.a s.pt.1).2.1)).1,(bg l s.pt.1 k (s.a+(a9 l s.a s.pt.1).2.1)).2.1,(bg l s.pt.1 k (s.a+(a9 l s.a s.pt.1).2.1)).2.2)):=rfl;rw[List.replicate_succ,dh,e,N];dsimp only
  by_cases G:(a9 l s.a s.pt.1).2.2=0
  ·have j:((a9 l s.a s.pt.1).2.2 !=0)=false:=by rw[G];rfl
   rw[j,if_neg (by decide),if_neg (by decide)];have D:({ax s 5 with a:=s.a+(a9 l s.a s.pt.1).2.1}:aZ).pt=s.pt:=(by unfold ax;split<;>rfl);have I:=sY l k {ax s 5 with a:=s.a+(a9 l s.a s.pt.1).2.1} (bl++[(a9 l s.a s.pt.1).1]);rw[D] at I;dsimp only at I;rcases I with⟨B,h2⟩|⟨B,h2,T,h4,h5,h6,h7,h8,h9,C⟩
   ·exact .inl ⟨B,h2⟩
   ·refine .inr ⟨B,h2,by rw[T];simp,h4,h5.trans (by unfold ax;split<;>rfl),h6.trans (by unfold ax;split<;>rfl),h7.trans (by unfold ax;split<;>rfl),h8.trans (by unfold ax;split<;>rfl),h9.trans (by unfold ax;split<;>rfl),C.trans ?_⟩
    rw[if_neg (show ¬(k+1=0) by omega)]
    have M:(ax {ax s 5 with a:=s.a+(a9 l s.a s.pt.1).2.1} 5).pa=(ax s 5).pa:=by
     by_cases K:s.pt.1=true
     ·simp[ax,K]
     ·simp[ax,K]
    split
    ·rfl
    ·exact M
  ·have j:((a9 l s.a s.pt.1).2.2 !=0)=true:=by simpa using G
   rw[j,if_pos rfl,if_pos rfl];exact .inl ⟨G,rfl⟩
theorem iE (l:List UInt8):∀(ts us:List Nat)(s:aZ)(bl:List bH),bz l (ts++us) s bl=if (bz l ts s bl).2 !=0 then bz l ts s bl else bz l us (bz l ts s bl).1.1 (bz l ts s bl).1.2
 |[],us,s,bl=>rfl
 |t::ts,us,s,bl=>by
  rw[List.cons_append,dh,dh]
  split
  ·rfl
  ·exact iE l ts us _ _
theorem J7 (l:List UInt8)(kd:Int)(s:aZ)(D:s.qu=0):(mq l kd s.a).2.2≠0/\(bz l (if pQ kd then[1] else[]) s []).2=(mq l kd s.a).2.2\/(mq l kd s.a).2.2=0/\bz l (if pQ kd then[1] else[]) s []=(({s with a:=(mq l kd s.a).2.1,qu:=(mq l kd s.a).1},[]),0):=by
 unfold mq
 cases M:pQ kd with
 |false=>
  right
  obtain⟨a,pt,ad,K,qu,mx,my,pa,v,x,y⟩:=s;dsimp only at D;subst D;exact⟨rfl,rfl⟩
 |true=>
  rw[if_pos rfl,if_pos rfl,dh];have I:ax s 1=s:=(by unfold ax;rw[if_neg (by omega)]);rw[I]
  by_cases j:8*(O l:Int)<s.a+5
  ·have B:aF l s 1=(({s with a:=s.a+5,qu:=0},[]),5):=if_pos j
   left
   rw[B,if_pos j];exact⟨by decide,rfl⟩
  ·have B:aF l s 1=(({s with a:=s.a+5,qu:=((au l s.a.toNat 5:Nat):Int)},[]),if ((au l s.a.toNat 5:Nat):Int)==0 then 9 else 0):=if_neg j
   rw[B,if_neg j]
   by_cases C:au l s.a.toNat 5=0
   ·left
    rw[C];exact⟨λh=>absurd (show (9:Int)=0 from h) (by decide),rfl⟩
   ·right
    have G:(((au l s.a.toNat 5:Nat):Int)==0)=false:=(by simpa using C);have h2:(au l s.a.toNat 5==0)=false:=(by simpa using C);rw[G,h2];exact⟨rfl,rfl⟩
theorem J8 (l:List UInt8)(kd:Int)(s:aZ)(I:s.mx=0)(K:s.my=0):(mv l kd s.a s.x s.y).2.2≠0/\(bz l (if pV kd then[2,3] else[]) s []).2=(mv l kd s.a s.x s.y).2.2\/(mv l kd s.a s.x s.y).2.2=0/\bz l (if pV kd then[2,3] else[]) s []=(({s with a:=(mv l kd s.a s.x s.y).2.1,mx:=(mv l kd s.a s.x s.y).1.1,my:=(mv l kd s.a s.x s.y).1.2},[]),0):=by
 unfold mv
 cases hp:pV kd with
 |false=>
  right
  obtain⟨a,pt,ad,aB,qu,mx,my,pa,v,x,y⟩:=s;dsimp only at I K;subst I K;exact⟨rfl,rfl⟩
 |true=>
  rw[if_pos rfl,if_pos rfl,dh];have ha:ax s 2=s:=(by unfold ax;rw[if_neg (by omega)]);rw[ha];have M:fT l s.a s.x=if (ac ak ap l s.a).2.2 !=0 then(0,0,(ac ak ap l s.a).2.2) else((aY s.x (ac ak ap l s.a).1).1,s.a+(ac ak ap l s.a).2.1,(aY s.x (ac ak ap l s.a).1).2):=rfl
  have s2:aF l s 2=if (ac ak ap l s.a).2.2 !=0 then((s,[]),(ac ak ap l s.a).2.2) else(({s with a:=s.a+(ac ak ap l s.a).2.1,mx:=(aY s.x (ac ak ap l s.a).1).1},[]),(aY s.x (ac ak ap l s.a).1).2):=rfl
  dsimp only;rw[M,s2]
  cases D:((ac ak ap l s.a).2.2 !=0) with
  |true=>
   left
   rw[if_pos rfl,if_pos rfl];dsimp only;rw[D,if_pos rfl,if_pos rfl];exact⟨by simpa using D,rfl⟩
  |false=>
   simp only[Z,if_false]
   cases h2:((aY s.x (ac ak ap l s.a).1).2 !=0) with
   |true=>
    left
    simp only[if_true];exact⟨by simpa using h2,trivial⟩
   |false=>
    simp only[Z,if_false];rw[dh];generalize B:({s with a:=s.a+(ac ak ap l s.a).2.1,mx:=(aY s.x (ac ak ap l s.a).1).1}:aZ)=j;have C:ax j 3=j:=(by unfold ax;rw[if_neg (by omega)]);have sa:j.a=s.a+(ac ak ap l s.a).2.1:=(by rw[<-B]);have sy:j.y=s.y:=(by rw[<-B]);have N:fT l (s.a+(ac ak ap l s.a).2.1) s.y=if (ac ak ap l j.a).2.2 !=0 then(0,0,(ac ak ap l j.a).2.2) else((aY j.y (ac ak ap l j.a).1).1,j.a+(ac ak ap l j.a).2.1,(aY j.y (ac ak ap l j.a).1).2):=by rw[sa,sy];rfl
    have s3:aF l j 3=if (ac ak ap l j.a).2.2 !=0 then((j,[]),(ac ak ap l j.a).2.2) else(({j with a:=j.a+(ac ak ap l j.a).2.1,my:=(aY j.y (ac ak ap l j.a).1).1},[]),(aY j.y (ac ak ap l j.a).1).2):=rfl
    rw[C,N,s3]
    cases G:((ac ak ap l j.a).2.2 !=0) with
    |true=>
     left
     simp only[if_true,G];exact⟨by simpa using G,trivial⟩
    |false=>
     simp only[Z,if_false]
     cases T:((aY j.y (ac ak ap l j.a).1).2 !=0) with
     |true=>
      left
      simp only[if_true];exact⟨by simpa using T,trivial⟩
     |false=>
      right
      simp only[Z,if_false];refine⟨trivial,?_⟩;rw[<-B];rfl
theorem JH {k:Int}(h:pC k=true):pI k=false:=by
 unfold pC at h;unfold pI;simp only[Bool.or_eq_true,beq_iff_eq] at h;rcases h with((((h|h)|h)|h)|h)|h<;>subst h<;>rfl
theorem J6 (l:List UInt8)(kd:Int)(s:aZ)(B:s.pt.1=pI kd)(C:s.pa=0):(mc l kd s.a).2.2≠0/\(bz l (if pC kd then[4] else[]) s []).2=(mc l kd s.a).2.2\/
  (mc l kd s.a).2.2=0/\∃j,bz l (if pC kd then[4] else[]) s []=((j,[]),0)/\(ax j 5).pa=(mc l kd s.a).1/\j={s with a:=(mc l kd s.a).2.1,pa:=j.pa}/\(pI kd=false->j.pa=(mc l kd s.a).1):=by
 unfold mc
 cases K:pC kd with
 |false=>
  right
  simp only[Z,if_false];refine⟨trivial,s,rfl,?_,rfl,λh=>by rw[C,h];rfl⟩;unfold ax;rw[B]
  cases D:pI kd<;>simp[C]
 |true=>
  have D:=JH K;rw[D] at B;rw[if_pos rfl,if_pos rfl,dh];have I:ax s 4=s:=(by unfold ax;rw[B,if_neg (by simp)]);have M:aF l s 4=(({s with a:=s.a+(ac bo bN l s.a).2.1,pa:=(ac bo bN l s.a).1},[]),(ac bo bN l s.a).2.2):=rfl;rw[I,M];dsimp only
  cases G:((ac bo bN l s.a).2.2 !=0) with
  |true=>
   left
   simp only[if_true];exact⟨by simpa using G,trivial⟩
  |false=>
   right
   simp only[Z,if_false];refine⟨trivial,_,rfl,?_,rfl,λ_=>rfl⟩;unfold ax;dsimp only;rw[B,if_neg (by simp)]
theorem Gc:aG.all f9=true:=by kernel_rfl
theorem Gn (s:aZ)(kd:Int)(h:s.pt=(pI kd,pQ kd,pV kd,pF kd,pC kd)):eL s=((if pQ kd then[1] else[])++(if pV kd then[2,3] else[]))++(if pC kd then[4] else[]):=by unfold eL;rw[h]
def sV (i ad:Int) (x:bi) (v:Value):aZ:=⟨i,(false,false,false,false,false),ad,0,0,0,0,0,v,(cH ad (ad - x.ad) x.had x.x x.y).1,(cH ad (ad - x.ad) x.had x.x x.y).2⟩
theorem Fm {cs:List (List UInt8)}{ns:List Int}{l:List UInt8}{i:Int}(h:(ac cs ns l i).2.2=0):(ac cs ns l i).1∈ns:=by
 unfold ac at h⊢
 split at h
 ·cases h
 ·rename_i B
  rw[if_neg B];unfold gQ at h⊢
  cases j:bK (aI l i.toNat (min 24 (8*O l - i.toNat))) cs ns with
  |some p=>obtain⟨n,k⟩:=p;exact(rt j).1
  |none=>
   rw[j] at h;dsimp only at h
   split at h<;>cases h
theorem Gk (l:List UInt8)(i ad:Int)(x:bi)(v:Value)(hi:¬(i<0\/ad<1\/33<ad))(ha:cu x ad=true):
  ((b9 l i ad x).2.2≠0/\b9 l i ad x=(m0,0,(jB l (sV i ad x v)).2)/\(jB l (sV i ad x v)).2≠0)\/
  ((jB l (sV i ad x v)).2=0/\∃s bl,(jB l (sV i ad x v)).1=(s,bl)/\b9 l i ad x=(⟨ad,s.kd,s.qu,s.mx,s.my,s.pa,bl⟩,s.a - i,0)):=by
 have e0:b9 l i ad x=(let pr:=cH ad (ad - x.ad) x.had x.x x.y
   let k:=ac ay aG l i
   if k.2.2 !=0 then(m0,0,k.2.2) else
   let q:=mq l k.1 (i+k.2.1)
   if q.2.2 !=0 then(m0,0,q.2.2) else
   let v:=mv l k.1 q.2.1 pr.1 pr.2
   if v.2.2 !=0 then(m0,0,v.2.2) else
   let c:=mc l k.1 v.2.1
   if c.2.2 !=0 then(m0,0,c.2.2) else
   let b:=bg l (pI k.1) (bO c.1) c.2.1
   if b.2.2 !=0 then(m0,0,b.2.2) else(⟨ad,k.1,q.1,v.1.1,v.1.2,c.1,b.1⟩,b.2.1 - i,0)):=by
  unfold b9;rw[if_neg hi,ha];rfl
 rw[e0];unfold jB;have s0:aF l (sV i ad x v) 0=(({sV i ad x v with a:=i+(ac ay aG l i).2.1,kd:=(ac ay aG l i).1,pt:=ll (ac ay aG l i).1},[]),(ac ay aG l i).2.2):=rfl;rw[s0];dsimp only
 cases hk:((ac ay aG l i).2.2 !=0) with
 |true=>
  left
  simp only[if_true];exact⟨by simpa using hk,trivial,by simpa using hk⟩
 |false=>
  simp only[Z,if_false];have aB:f9 (ac ay aG l i).1=true:=List.all_eq_true.1 Gc _ (Fm (by simpa using hk));generalize B:({sV i ad x v with a:=i+(ac ay aG l i).2.1,kd:=(ac ay aG l i).1,pt:=ll (ac ay aG l i).1}:aZ)=D;obtain⟨kd,bE⟩:∃kd,(ac ay aG l i).1=kd:=⟨_,rfl⟩;rw[bE] at B aB⊢;have T:D.pt=(pI kd,pQ kd,pV kd,pF kd,pC kd):=(by rw[<-B];show ll kd=_;unfold ll;rw[aB,if_pos rfl]);have f1:D.a=i+(ac ay aG l i).2.1:=(by rw[<-B]);have f2:D.x=(cH ad (ad - x.ad) x.had x.x x.y).1:=(by rw[<-B];rfl);have f3:D.y=(cH ad (ad - x.ad) x.had x.x x.y).2:=(by rw[<-B];rfl);have f4:D.ad=ad:=(by rw[<-B];rfl);have f5:D.kd=kd:=(by rw[<-B]);have g1:D.qu=0:=(by rw[<-B];rfl);have g2:D.mx=0:=(by rw[<-B];rfl);have g3:D.my=0:=(by rw[<-B];rfl);have g4:D.pa=0:=(by rw[<-B];rfl);clear B;rw[Gn D kd T,iE,iE,<-f1,<-f2,<-f3];rcases J7 l kd D g1 with⟨G,h2⟩|⟨G,h2⟩
  ·left
   have M:((mq l kd D.a).2.2 !=0)=true:=(by simpa using G);simp only[h2,M,if_true];exact⟨G,trivial,G⟩
  ·rw[h2]
   have M:((mq l kd D.a).2.2 !=0)=false:=(by simpa using G);simp only[M,Z,if_false,bne_self_eq_false];generalize C:({D with a:=(mq l kd D.a).2.1,qu:=(mq l kd D.a).1}:aZ)=j;have p1:(mq l kd D.a).2.1=j.a:=(by rw[<-C]);have p2:(mq l kd D.a).1=j.qu:=(by rw[<-C]);have p3:D.x=j.x:=(by rw[<-C]);have p4:D.y=j.y:=(by rw[<-C]);have p5:j.pt=(pI kd,pQ kd,pV kd,pF kd,pC kd):=(by rw[<-C];exact T);have p6:j.mx=0:=(by rw[<-C];exact g2);have p7:j.my=0:=(by rw[<-C];exact g3);have p8:j.pa=0:=(by rw[<-C];exact g4);have p9:j.kd=kd:=(by rw[<-C];exact f5);rw[p1,p2,p3,p4];clear C G h2 M p1 p2 p3 p4 g1 g2 g3 g4 f1 f2 f3 f4 f5 T;rcases J8 l kd j p6 p7 with⟨G,h2⟩|⟨G,h2⟩
   ·left
    have M:((mv l kd j.a j.x j.y).2.2 !=0)=true:=(by simpa using G);simp only[h2,M,if_true];exact⟨G,trivial,G⟩
   ·rw[h2]
    have M:((mv l kd j.a j.x j.y).2.2 !=0)=false:=(by simpa using G);simp only[M,Z,if_false,bne_self_eq_false];generalize K:({j with a:=(mv l kd j.a j.x j.y).2.1,mx:=(mv l kd j.a j.x j.y).1.1,my:=(mv l kd j.a j.x j.y).1.2}:aZ)=I;have r1:(mv l kd j.a j.x j.y).2.1=I.a:=(by rw[<-K]);have r2:(mv l kd j.a j.x j.y).1.1=I.mx:=(by rw[<-K]);have r3:(mv l kd j.a j.x j.y).1.2=I.my:=(by rw[<-K]);have r4:j.qu=I.qu:=(by rw[<-K]);have r5:I.pt=(pI kd,pQ kd,pV kd,pF kd,pC kd):=(by rw[<-K];exact p5);have r8:I.pa=0:=(by rw[<-K];exact p8);have r9:I.kd=kd:=(by rw[<-K];exact p9);rw[r1,r2,r3,r4];clear K G h2 M r1 r2 r3 r4 p5 p6 p7 p8 p9;rcases J6 l kd I (by rw[r5]) r8 with⟨G,h2⟩|⟨G,N,h2,h4,h5,h6⟩
    ·left
     have M:((mc l kd I.a).2.2 !=0)=true:=(by simpa using G);simp only[h2,M,if_true];exact⟨G,trivial,G⟩
    ·rw[h2]
     have M:((mc l kd I.a).2.2 !=0)=false:=(by simpa using G);simp only[M,Z,if_false,bne_self_eq_false];rw[h4];have t1:(mc l kd I.a).2.1=N.a:=(by rw[h5]);have t2:N.pt.1=pI kd:=(by rw[h5];show I.pt.1=_;rw[r5]);have t3:N.qu=I.qu:=(by rw[h5]);have t4:N.mx=I.mx:=(by rw[h5]);have t5:N.my=I.my:=(by rw[h5]);have t6:N.kd=kd:=(by rw[h5];exact r9);rw[t1,<-t2];rcases sY l (bO (mc l kd I.a).1) N [] with⟨k1,k2⟩|⟨k1,k2,k3,k4,k5,k6,k7,k8,k9,cz⟩
     ·left
      have k3:((bg l N.pt.1 (bO (mc l kd I.a).1) N.a).2.2 !=0)=true:=(by simpa using k1);rw[k3,if_pos rfl,k2];exact⟨k1,rfl,k1⟩
     ·right
      have dt:((bg l N.pt.1 (bO (mc l kd I.a).1) N.a).2.2 !=0)=false:=(by simpa using k1);rw[dt,if_neg (by decide)];refine⟨k2,_,_,rfl,?_⟩;rw[k3,k4,k6,k7,k8,k9,cz,t3,t4,t5,t6,h4,List.nil_append];congr 2
      split
      ·rename_i hz
       cases hI:pI kd with
       |false=>exact(h6 hI).symm
       |true=>
        exfalso
        have hC:pC kd=false:=by
         cases hc:pC kd with
         |false=>rfl
         |true=>rw[JH hc] at hI;cases hI
        have aC:(mc l kd I.a).1=63:=(by unfold mc;rw[hC,hI];rfl);rw[aC] at hz
        revert hz
        decide
      ·rfl
structure ip (w0:World) (g:Nat) (A:Option Addr) (n c:Nat) (s:aZ) (xs:List ew) (W:World):Prop where
 below:Below w0.heap.size w0 W
 cell:ab W g 208 (gj A n c s)
 row:W.ownsRow w0.heap.size 93 2 s.v (O xs) (av ij xs)
 bl:∀p∈xs,W.ownsRow w0.heap.size 189 2 (.slice p.2.1 p.1.l.length p.2.2) p.1.l.length (av bj p.1.l)
theorem mo {W D:World}{base e size n:Nat}{v:Value}{xs:List Value}(h:W.ownsRow base e size v n xs)(K:∀(g:Nat)(cs:Array Value),ab W g e cs->ab D g e cs):D.ownsRow base e size v n xs:=by
 refine⟨h.1,?_⟩;rcases h.2 with C|⟨g,B,j,C,h2,G,I⟩
 ·exact .inl C
 ·exact .inr ⟨g,B,j,C,h2,K g j G,I⟩
theorem ip.mono {C W B:World}{g:Nat}{A:Option Addr}{n c:Nat}{s:aZ}{xs:List ew}(h:ip C g A n c s xs W)(j:Below W.heap.size W B):ip C g A n c s xs B:=
 ⟨h.below.trans (j.mono h.below.size),h.cell.below j h.cell.lt,cC h.row j (OC _),λp D=>cC (h.bl p D) j (OC _)⟩
theorem ip.turn {G W j:World}{g:Nat}{A:Option Addr}{n c:Nat}{s D:aZ}{xs:List ew}(h:ip G g A n c s xs W)(hg:G.heap.size<=g)(ht:gm g W j)(M:ab j g 208 (gj A n c D))(T:D.v=s.v):ip G g A n c D xs j:=by
 have K:∀(e:TypeId),e≠208->∀(g':Nat)(cs:Array Value),ab W g' e cs->ab j g' e cs:= λe he g' cs I=>ht.blk I (λB=>by subst B;exact aU I h.cell he rfl);refine⟨?_,M,?_,λp N=>mo (h.bl p N) (K _ (by simp))⟩
 ·exact h.below.trans ⟨ht.os,ht.tape,ht.output,ht.size,λk C=>ht.block k (Nat.lt_of_lt_of_le C h.below.size) (by omega)⟩
 ·rw[T]
  exact mo h.row (K _ (by simp))
theorem ip.block {G W I:World}{g:Nat}{A:Option Addr}{n c:Nat}{s:aZ}{xs:List ew}{r:bH×Int×Int}{a2:Int}{e:Ending}(h:ip G g A n c s xs W)(D:AM G g A n c s xs r a2 W e I):
  ∃v B c2,ip G g A n c {s with a:=a2,v:=v} (xs++[(r.1,B,c2)]) I:=by
 obtain⟨v,B,c2,M,h2,N⟩:=D.ex;refine⟨v,B,c2,D.below,M,by rw[Y];exact h2,λp j=>?_⟩;rcases List.mem_append.1 j with j|j
 ·exact mo (h.bl p j) (λg' cs K=>D.keep g' _ cs K (by simp) (λC=>by subst C;exact aU K h.cell (by simp) rfl))
 ·rw[List.mem_singleton] at j
  subst j;exact N
def ej (l:List UInt8) (s:aZ):List Nat:=0::(eL (aF l s 0).1.1++U (bO (ax (bz l (eL (aF l s 0).1.1) (aF l s 0).1.1 []).1.1 5).pa) 5)
theorem vt (l:List UInt8)(s:aZ):jB l s=bz l (ej l s) s []:=by
 unfold jB ej;rw[dh,show ax s 0=s by unfold ax;rw[if_neg (by omega)]];dsimp only;have j:(aF l s 0).1.2=[]:=rfl;rw[j,OA]
 split
 ·rw[<-j]
 ·rw[iE]
theorem vD (l:List UInt8){ts:List Nat}{t:Nat}{s B:aZ}{bl j:List bH}(h:bz l ts s bl=((B,j),0)):bz l (ts++[t]) s bl=(((aF l (ax B t) t).1.1,j++(aF l (ax B t) t).1.2),(aF l (ax B t) t).2):=by
 rw[iE,h];dsimp only;rw[if_neg (by decide),dh]
 split
 ·rfl
 ·rename_i he
  have:(aF l (ax B t) t).2=0:=(by simpa using he);rw[this];rfl
theorem GO (l:List UInt8){ts C:List Nat}{t:Nat}{s B:aZ}{bl j:List bH}(h:bz l ts s bl=((B,j),0))(D:ts++[t]<+:C)(he:(aF l (ax B t) t).2≠0):(bz l C s bl).2=(aF l (ax B t) t).2:=by
 obtain⟨us,rfl⟩:=D;rw[iE,vD l h,if_pos (by simpa using he)]
theorem bp (s:aZ)(t:Nat):(ax s t).a=s.a/\(ax s t).x=s.x/\(ax s t).y=s.y/\(ax s t).pt=s.pt/\(ax s t).v=s.v:=by unfold ax;split<;>simp
theorem kc (l:List UInt8)(s:aZ)(t:Nat):(aF l s t).1.1.x=s.x/\(aF l s t).1.1.y=s.y/\(t≠0->(aF l s t).1.1.pt=s.pt)/\(aF l s t).1.2.length<=1:=by
 unfold aF
 split
 ·simp
 ·split<;>simp
 ·split<;>simp
 ·split<;>simp
 ·simp
 ·simp
theorem IN (l:List UInt8){s:aZ}{t:Nat}(j:0<=s.a)(B:s.a<=8*(O l:Int))(he:(aF l s t).2=0):0<=(aF l s t).1.1.a/\(aF l s t).1.1.a<=8*(O l:Int):=by
 match t,he with
 |0,_=>
  have h:=g7 (cs:=ay) (ns:=aG) j B;show 0<=s.a+_/\s.a+_<=_;omega
 |1,he=>
  by_cases D:8*(O l:Int)<s.a+5
  ·have C:aF l s 1=(({s with a:=s.a+5,qu:=0},[]),5):=if_pos D
   rw[C] at he
   cases he
  ·have C:aF l s 1=(({s with a:=s.a+5,qu:=((au l s.a.toNat 5:Nat):Int)},[]),if ((au l s.a.toNat 5:Nat):Int)==0 then 9 else 0):=if_neg D
   rw[C];show 0<=s.a+5/\s.a+5<=_;omega
 |2,_=>
  have h:=g7 (cs:=ak) (ns:=ap) j B;show 0<=(if (ac ak ap l s.a).2.2 !=0 then((s,[]),(ac ak ap l s.a).2.2) else(({s with a:=s.a+(ac ak ap l s.a).2.1,mx:=(aY s.x (ac ak ap l s.a).1).1},([]:List bH)),(aY s.x (ac ak ap l s.a).1).2)).1.1.a/\(if (ac ak ap l s.a).2.2 !=0 then((s,[]),(ac ak ap l s.a).2.2) else(({s with a:=s.a+(ac ak ap l s.a).2.1,mx:=(aY s.x (ac ak ap l s.a).1).1},([]:List bH)),(aY s.x (ac ak ap l s.a).1).2)).1.1.a<=_
  split
  ·exact⟨j,B⟩
  ·show 0<=s.a+_/\s.a+_<=_
   omega
 |3,_=>
  have h:=g7 (cs:=ak) (ns:=ap) j B;show 0<=(if (ac ak ap l s.a).2.2 !=0 then((s,[]),(ac ak ap l s.a).2.2) else(({s with a:=s.a+(ac ak ap l s.a).2.1,my:=(aY s.y (ac ak ap l s.a).1).1},([]:List bH)),(aY s.y (ac ak ap l s.a).1).2)).1.1.a/\(if (ac ak ap l s.a).2.2 !=0 then((s,[]),(ac ak ap l s.a).2.2) else(({s with a:=s.a+(ac ak ap l s.a).2.1,my:=(aY s.y (ac ak ap l s.a).1).1},([]:List bH)),(aY s.y (ac ak ap l s.a).1).2)).1.1.a<=_
  split
  ·exact⟨j,B⟩
  ·show 0<=s.a+_/\s.a+_<=_
   omega
 |4,_=>
  have h:=g7 (cs:=bo) (ns:=bN) j B;show 0<=s.a+_/\s.a+_<=_;omega
 |_+5,_=>
  have h:=tM (intra:=s.pt.1) j B;show 0<=s.a+_/\s.a+_<=_;omega
theorem rO (l:List UInt8):∀(ts:List Nat){s B:aZ}{bl j:List bH},bz l ts s bl=((B,j),0)->0<=s.a->s.a<=8*(O l:Int)->0<=B.a/\B.a<=8*(O l:Int)/\O j<=O bl+O ts/\B.x=s.x/\B.y=s.y
 |[],s,B,bl,j,h,h0,h1=>by
  simp only[bz,Prod.mk.injEq,and_true] at h;obtain⟨rfl,rfl⟩:=h;exact⟨h0,h1,by simp,rfl,rfl⟩
 |t::ts,s,B,bl,j,h,h0,h1=>by
  rw[dh] at h
  split at h
  ·rename_i he
   rw[(Prod.mk.inj h).2] at he
   cases he
  ·rename_i he
   have he:(aF l (ax s t) t).2=0:=(by simpa using he);obtain⟨C,k2,k3,_,_⟩:=bp s t;obtain⟨D,G⟩:=IN l (by rw[C];exact h0) (by rw[C];exact h1) he;obtain⟨c1,c2,c3,c4⟩:=kc l (ax s t) t;obtain⟨I,K,M,N,T⟩:=rO l ts h D G;refine⟨I,K,?_,by rw[N,c1,k2],by rw[T,c2,k3]⟩;rw[Y] at M;rw[J];omega
theorem qB (l:List UInt8):∀(ts:List Nat){s B:aZ}{bl j:List bH},bz l ts s bl=((B,j),0)->B.x=s.x/\B.y=s.y
 |[],s,B,bl,j,h=>by
  simp only[bz,Prod.mk.injEq,and_true] at h;obtain⟨rfl,rfl⟩:=h;exact⟨rfl,rfl⟩
 |t::ts,s,B,bl,j,h=>by
  rw[dh] at h
  split at h
  ·rename_i he
   rw[(Prod.mk.inj h).2] at he
   cases he
  ·obtain⟨C,D⟩:=qB l ts h
   obtain⟨K,G,I,_,_⟩:=bp s t;obtain⟨c1,c2,c3,c4⟩:=kc l (ax s t) t;exact⟨by rw[C,c1,G],by rw[D,c2,I]⟩
theorem qA (l:List UInt8):∀(ts:List Nat){s B:aZ}{bl j:List bH},bz l ts s bl=((B,j),0)->0 ∉ ts->B.pt=s.pt
 |[],s,B,bl,j,h,_=>by
  simp only[bz,Prod.mk.injEq,and_true] at h;obtain⟨rfl,rfl⟩:=h;rfl
 |t::ts,s,B,bl,j,h,hn=>by
  rw[dh] at h
  split at h
  ·rename_i he
   rw[(Prod.mk.inj h).2] at he
   cases he
  ·have:=qA l ts h (λC=>hn (List.mem_cons_of_mem _ C))
   rw[this,(kc l (ax s t) t).2.2.1 (λe=>hn (by rw[e];exact List.mem_cons_self ..)),(bp s t).2.2.2.1]
theorem jD (l:List UInt8){ts:List Nat}{s B:aZ}{j:List bH}(h:bz l (0::ts) s []=((B,j),0)):(aF l s 0).2=0/\bz l ts (aF l s 0).1.1 []=((B,j),0):=by
 rw[dh,show ax s 0=s by unfold ax;rw[if_neg (by omega)]] at h
 split at h
 ·rename_i he
  rw[(Prod.mk.inj h).2] at he
  cases he
 ·rename_i he
  exact⟨by simpa using he,h⟩
theorem oF (l:List UInt8){ts:List Nat}{s B:aZ}{j:List bH}(h:bz l (0::ts) s []=((B,j),0))(C:0 ∉ ts):B.pt=(aF l s 0).1.1.pt:=qA l ts (jD l h).2 C
theorem G0 (l:List UInt8)(s:aZ):(ej l s).length<=11:=by
 have h:∀p:Int,bO p<=6:= λp=>by unfold bO;split<;>omega
 have h2:∀q:aZ,(eL q).length<=4:= λq=>by unfold eL;(repeat' split)<;>simp
 have a:=h2 (aF l s 0).1.1;unfold ej;rw[J,Y,List.length_replicate];have b:=h (ax (bz l (eL (aF l s 0).1.1) (aF l s 0).1.1 []).1.1 5).pa;omega
theorem I3 (l:List UInt8){s B:aZ}{j:List bH}(h:bz l (0::eL (aF l s 0).1.1) s []=((B,j),0)):ej l s=0::(eL (aF l s 0).1.1++U (bO (ax B 5).pa) 5):=by
 unfold ej;rw[(jD l h).2]
theorem Km (l:List UInt8)(s:aZ):ax (aF l (ax s 5) 5).1.1 5=(aF l (ax s 5) 5).1.1:=by
 have e:(aF l (ax s 5) 5).1.1={ax s 5 with a:=(ax s 5).a+(a9 l (ax s 5).a (ax s 5).pt.1).2.1}:=rfl;rw[e]
 by_cases j:s.pt.1=true
 ·have B:ax s 5={s with pa:=63}:=by unfold ax;rw[if_pos ⟨by decide,j⟩]
  rw[B];unfold ax;rw[if_pos ⟨by decide,j⟩]
 ·have B:ax s 5=s:=by unfold ax;rw[if_neg (λh=>j h.2)]
  rw[B];unfold ax;rw[if_neg (λh=>j h.2)]
theorem vC (l:List UInt8){ts:List Nat}{s B:aZ}{bl j:List bH}(h:bz l (ts++[5]) s bl=((B,j),0)):ax B 5=B:=by
 rw[iE] at h
 split at h
 ·rename_i he
  rw[h] at he
  cases he
 ·rw[dh] at h
  split at h
  ·rename_i he
   rw[(Prod.mk.inj h).2] at he
   cases he
  ·have e:=(Prod.mk.inj (Prod.mk.inj h).1).1
   rw[<-e];exact Km l _
theorem jO (s:aZ){t:Nat}(h:t<4):ax s t=s:=by unfold ax;rw[if_neg (by omega)]
theorem Jl (s:aZ):ax s 4=ax s 5:=by unfold ax;simp
structure iI (w0:World) (g:Nat) (A:Option Addr) (n c:Nat) (l:List UInt8) (s:aZ) (xs:List ew) (t:Nat) (W:World) (e:Ending) (W':World):Prop where
 ret:e=OD (OF OE (aF l s t).2)
 ex:∃v xs',ip w0 g A n c {(aF l s t).1.1 with v:=v} xs' W'/\xs'.map (·.1)=xs.map (·.1)++(aF l s t).1.2
 keep:∀(g':Nat)(ty:TypeId)(cs:Array Value),ab W g' ty cs->ty≠93->g'≠g->ab W' g' ty cs
 from_:∀B':Nat,KeepsFrom B' W W'
theorem I5 {g B:Nat}{W C:World}{t:TypeId}{cs:Array Value}(h:gm g W C)(D:ab W g t cs):KeepsFrom B W C:=
 ⟨h.size,λk o _ j G=>(h.block k (Array.getElem?_eq_some_iff.1 j).1 (λe=>by
  subst e;have h2:W.heap[k]? =some (.cells cs t (0,0)):=D;rw[h2] at j
  cases j
  cases G)).trans j⟩
theorem gZ {D W j:World}{g:Nat}{A:Option Addr}{n c:Nat}{l:List UInt8}{s:aZ}{xs:List ew}{t:Nat}{e:Ending}(h:ip D g A n c s xs W)(K:D.heap.size<=g)(ht:gm g W j)(he:e=OD (OF OE (aF l s t).2))(I:ab j g 208 (gj A n c (aF l s t).1.1))(M:(aF l s t).1.1.v=s.v)(B:(aF l s t).1.2=[]):iI D g A n c l s xs t W e j:=
 ⟨he,⟨(aF l s t).1.1.v,xs,h.turn K ht I M,by rw[B,OA]⟩,λg' ty cs G _ C=>ht.blk G C,λN=>I5 ht h.cell⟩
section
variable {w0 W:World} {g:Nat} {A:Option Addr} {n c:Nat} {l:List UInt8} {s:aZ} {xs:List ew}
theorem lU {a k:Int}{m:Nat}(j:0<=a)(C:0<=k)(B:a+k<=8*(m:Int)+5)(D:m<=2 ^ 47):OB.wrap (a+k)=a+k:=by rw[IntKind.wrap_i64];omega
theorem GR (h:ip w0 g A n c s xs W)(G:w0.heap.size<=g)(C:Sl w0 A (l.map af))(I:O l=n)(hsz:n<=2 ^ 47)(j:0<=s.a)(B:s.a<=8*(O l:Int)):
  Calls X 224 #[V (some ⟨g,0,none⟩)] W (iI w0 g A n c l s xs 0 W):=by
 obtain⟨a,b,_⟩:=g7 (cs:=ay) (ns:=aG) j B;refine(By g A n c l s W h.cell (C.below h.below) I hsz (by omega) _ (lU (m:=O l) j a (by omega) (by omega))).mono ?_;rintro e K ⟨rfl,D,ht⟩;exact gZ h G ht rfl D rfl rfl
theorem Fj (h:ip w0 g A n c s xs W)(K:w0.heap.size<=g)(I:Sl w0 A (l.map af))(hn:O l=n)(hsz:n<=2 ^ 47)(C:0<=s.a)(h1:s.a<=8*(O l:Int)):
  Calls X 225 #[V (some ⟨g,0,none⟩)] W (iI w0 g A n c l s xs 1 W):=by
 have N:OB.wrap (s.a+5)=s.a+5:=lU (m:=n) C (by decide) (by omega) hsz
 by_cases M:8*(O l:Int)<s.a+5
 ·have j:aF l s 1=(({s with a:=s.a+5,qu:=0},[]),5):=if_pos M
  refine(yo g A n c l s W h.cell (I.below h.below) 0 5 (s.a+5) (λB _=>(dq A n c s.a 5 B C (by decide) (by decide) (by omega) hsz).mono (λe w' hh=>hh)) N (.inr rfl)).mono ?_;rintro e T ⟨rfl,G,ht⟩;exact gZ h K ht (by rw[j];rfl) (by rw[j];exact G) (by rw[j]) (by rw[j])
 ·have j:aF l s 1=(({s with a:=s.a+5,qu:=((au l s.a.toNat 5:Nat):Int)},[]),if ((au l s.a.toNat 5:Nat):Int)==0 then 9 else 0):=if_neg M
  refine(yo g A n c l s W h.cell (I.below h.below) ((au l s.a.toNat 5:Nat):Int) 0 (s.a+5) (λB D=>fY _ A n c l s.a 5 B rfl D hn C (by decide) (by decide) (by omega) hsz) N (.inl rfl)).mono ?_;rintro e T ⟨rfl,G,ht⟩;exact gZ h K ht (by rw[j];rfl) (by rw[j];exact G) (by rw[j]) (by rw[j])
theorem Aa (h:ip w0 g A n c s xs W)(I:w0.heap.size<=g)(C:Sl w0 A (l.map af))(D:Ts w0)(K:O l=n)(hsz:n<=2 ^ 47)(j:0<=s.a)(B:s.a<=8*(O l:Int)):
  Calls X 227 #[V (some ⟨g,0,none⟩)] W (iI w0 g A n c l s xs 4 W):=by
 obtain⟨a,b,_⟩:=g7 (cs:=bo) (ns:=bN) j B;refine(Dc g A n c l s W h.cell (D.below h.below) (C.below h.below) K hsz (by omega) _ (lU (m:=O l) j a (by omega) (by omega))).mono ?_;rintro e M ⟨rfl,G,ht⟩;exact gZ h I ht rfl G rfl rfl
theorem Ff (h:ip w0 g A n c s xs W)(I:w0.heap.size<=g)(D:Sl w0 A (l.map af))(G:Ts w0)(K:O l=n)(hsz:n<=2 ^ 47)(B:0<=s.a)(C:s.a<=8*(O l:Int))(N:O xs<=100):
  Calls X 228 #[V (some ⟨g,0,none⟩)] W (iI w0 g A n c l s xs 5 W):=by
 obtain⟨a,b⟩:=tM (intra:=s.pt.1) B C;refine(GF w0 g A n c l s xs W h.below I h.cell (G.below h.below) (D.below h.below) K hsz h.row N _ (lU (m:=O l) B a (by omega) (by omega))).mono ?_;intro e W' j;obtain⟨v,T,c2,M⟩:=h.block j;exact⟨j.ret,⟨v,_,M,by rw[List.map_append];rfl⟩,j.keep,j.from_⟩
theorem Fh {B C D:Nat}(h:ip w0 g A n c s xs W)(N:w0.heap.size<=g)(T:Sl w0 A (l.map af))(hn:O l=n)(hsz:n<=2 ^ 47)(G:0<=s.a)(M:s.a<=8*(O l:Int))(hp:aK s.x=true)
  (k0:ab W B 206 #[V (some ⟨g,0,none⟩)]) (k1:ab W C 3 #[OF OE s.x]) (k2:ab W D 250 #[V (some ⟨g,10,none⟩)]):
  Calls X 255 #[V (some ⟨B,0,none⟩),V (some ⟨C,0,none⟩),V (some ⟨D,0,none⟩)] W (iI w0 g A n c l s xs 2 W):=by
 obtain⟨a,b,_⟩:=g7 (cs:=ak) (ns:=ap) G M;refine(GG g B C D s.x A n c l s W h.cell k0 k1 k2 (T.below h.below) hn hsz (by omega) hp (λhe=>tw G M he) _ (lU (m:=O l) G a (by omega) (by omega))).mono ?_;rintro e W' (⟨K,rfl,I,ht⟩|⟨he,rfl,I,ht⟩)
 ·have j:aF l s 2=((s,[]),(ac ak ap l s.a).2.2):=if_pos (by simpa using K)
  exact gZ h N ht (by rw[j]) (by rw[j];exact I) (by rw[j]) (by rw[j])
 ·have j:aF l s 2=(({s with a:=s.a+(ac ak ap l s.a).2.1,mx:=(aY s.x (ac ak ap l s.a).1).1},[]),(aY s.x (ac ak ap l s.a).1).2):=if_neg (by rw[he];decide)
  exact gZ h N ht (by rw[j]) (by rw[j];exact I) (by rw[j]) (by rw[j])
theorem Fi {B C D:Nat}(h:ip w0 g A n c s xs W)(N:w0.heap.size<=g)(T:Sl w0 A (l.map af))(hn:O l=n)(hsz:n<=2 ^ 47)(G:0<=s.a)(M:s.a<=8*(O l:Int))(hp:aK s.y=true)
  (k0:ab W B 206 #[V (some ⟨g,0,none⟩)]) (k1:ab W C 3 #[OF OE s.y]) (k2:ab W D 250 #[V (some ⟨g,11,none⟩)]):
  Calls X 255 #[V (some ⟨B,0,none⟩),V (some ⟨C,0,none⟩),V (some ⟨D,0,none⟩)] W (iI w0 g A n c l s xs 3 W):=by
 obtain⟨a,b,_⟩:=g7 (cs:=ak) (ns:=ap) G M;refine(GH g B C D s.y A n c l s W h.cell k0 k1 k2 (T.below h.below) hn hsz (by omega) hp (λhe=>tw G M he) _ (lU (m:=O l) G a (by omega) (by omega))).mono ?_;rintro e W' (⟨K,rfl,I,ht⟩|⟨he,rfl,I,ht⟩)
 ·have j:aF l s 3=((s,[]),(ac ak ap l s.a).2.2):=if_pos (by simpa using K)
  exact gZ h N ht (by rw[j]) (by rw[j];exact I) (by rw[j]) (by rw[j])
 ·have j:aF l s 3=(({s with a:=s.a+(ac ak ap l s.a).2.1,my:=(aY s.y (ac ak ap l s.a).1).1},[]),(aY s.y (ac ak ap l s.a).1).2):=if_neg (by rw[he];decide)
  exact gZ h N ht (by rw[j]) (by rw[j];exact I) (by rw[j]) (by rw[j])
end
end
section
open Go Go.RowKit
attribute [local go_sem] Oper.semAt_some
open Go.Value renaming pointer→O
open Go.Obj renaming cells→U
open Tryz renaming prog→Z
open Go.Ending renaming returned→V
theorem GI (g:Nat)(w:World):Calls Z 188 #[O (some ⟨g,0,none⟩)] w λe w'=>e=V (.func (.func 223) #[] #[O (some ⟨w.heap.size,0,none⟩)])/\w'=w.alloc (U #[O (some ⟨g,0,none⟩)] 206):=by
 go_enter Tryz.func188,Tryz.ntmps188
 go_wp2_with fail
 go_ret;exact⟨rfl,rfl⟩
theorem IG (g k:Nat)(j:Int)(w:World):Calls Z 226 #[O (some ⟨g,0,none⟩),O (some ⟨g,k,none⟩),.int .i64 j] w λe w'=>e=V (.func (.func 255) #[] #[O (some ⟨w.heap.size,0,none⟩),O (some ⟨w.heap.size+2,0,none⟩),O (some ⟨w.heap.size+1,0,none⟩)])/\
  w'=((w.alloc (U #[O (some ⟨g,0,none⟩)] 206)).alloc (U #[O (some ⟨g,k,none⟩)] 250)).alloc (U #[.int .i64 j] 3):=by
 go_enter Tryz.func226,Tryz.ntmps226
 go_wp2_with fail
 go_ret;exact⟨by simp[Nat.add_assoc],rfl⟩
end
section
open Go Go.RowKit
open List renaming mem_flatMap→O,length→U,mem_cons→Z,mem_map→Y
open Go.Value renaming slice→V
theorem cD {R:List aV}{W j:World}(h:ai R W)(B:Below W.heap.size W j):ai R j:= λr C=>cC (h r C) B (Nat.le_refl _)
theorem br {R:List aV}{W:World}{g:Nat}{t:TypeId}{cs:Array Value}(h:ai R W)(C:ab W g t cs)(B:∀r∈R,r.e≠t) (i:Nat) (v:Value):ai R (W.setCell ⟨g,i,none⟩ v):= λr j=>eR (h r j) ⟨g,i,none⟩ v (ba (h r j) C (B r j))
theorem BC {R:List aV}{W j:World}{g:Nat}{t:TypeId}{cs:Array Value}(h:ai R W)(G:ab W g t cs)(D:W.grownBy j (some g))(C:∀r∈R,r.e≠t):ai R j:= λr B=>sF (h r B) D G (C r B)
theorem ai.app {R S:List aV}{W:World}(h:ai R W)(k:ai S W):ai (R++S) W:= λr j=>by
 rcases List.mem_append.1 j with j|j
 ·exact h r j
 ·exact k r j
theorem ai.left {R S:List aV}{W:World}(h:ai (R++S) W):ai R W:= λr j=>h r (List.mem_append_left _ j)
theorem ai.right {R S:List aV}{W:World}(h:ai (R++S) W):ai S W:= λr j=>h r (List.mem_append_right _ j)
def aV.to (b:Nat) (r:aV):aV:={r with base:=b}
theorem bX {w:World}{base j:Nat}{e:TypeId}{size n:Nat}{v:Value}{xs:List Value}(h:w.ownsRow base e size v n xs)(G:j<=base):w.ownsRow j e size v n xs:=by
 refine⟨h.1,?_⟩;rcases h.2 with h2|⟨g,B,C,rfl,D,I⟩
 ·exact .inl h2
 ·exact .inr ⟨g,B,C,rfl,Nat.le_trans G D,I⟩
def CL (B:Nat) (b:ew):aV:=⟨B,189,2,V b.2.1 b.1.l.length b.2.2,b.1.l.length,av bj b.1.l⟩
def kW (B:Nat) (p:dF):List aV:=⟨B,93,2,V p.A (U p.xs) p.c,U p.xs,av ij p.xs⟩::p.xs.map (CL B)
def fc (B:Nat) (ms:List dF):List aV:=ms.flatMap (kW B)
def mg (B:Nat) (p:cJ):List aV:=⟨B,5,1,V p.sA (U p.sp) p.sc,U p.sp,p.sp.map af⟩::⟨B,55,7,V p.A (U p.ms) p.c,U p.ms,av dy p.ms⟩::fc B p.ms
def fP (B:Nat) (gs:List cJ):List aV:=gs.flatMap (mg B)
def lc (B:Nat) (p:bu):List aV:=⟨B,5,1,V p.sA (U p.sp) p.sc,U p.sp,p.sp.map af⟩::⟨B,51,4,V p.A (U p.gs) p.c,U p.gs,av fb p.gs⟩::fP B p.gs
def gY (B:Nat) (ss:List bu):List aV:=ss.flatMap (lc B)
theorem Eo {B:Nat}{p:dF}:∀r∈kW B p,r.e=93\/r.e=189:=by
 intro r j;rcases Z.1 j with rfl|j
 ·exact .inl rfl
 ·obtain⟨b,_,rfl⟩:=Y.1 j
  exact .inr rfl
theorem nC {B:Nat}{ms:List dF}:∀r∈fc B ms,r.e=93\/r.e=189:=by
 intro r C;obtain⟨p,_,j⟩:=O.1 C;exact Eo r j
theorem Jz {B:Nat}{p:cJ}:∀r∈mg B p,r.e=5\/r.e=55\/r.e=93\/r.e=189:=by
 intro r j;rcases Z.1 j with rfl|j
 ·exact .inl rfl
 rcases Z.1 j with rfl|j
 ·exact .inr (.inl rfl)
 ·exact .inr (.inr (nC r j))
theorem qt {B:Nat}{gs:List cJ}:∀r∈fP B gs,r.e=5\/r.e=55\/r.e=93\/r.e=189:=by
 intro r C;obtain⟨p,_,j⟩:=O.1 C;exact Jz r j
theorem E7 {B:Nat}{p:bu}:∀r∈lc B p,r.e=51\/r.e=5\/r.e=55\/r.e=93\/r.e=189:=by
 intro r j;rcases Z.1 j with rfl|j
 ·exact .inr (.inl rfl)
 rcases Z.1 j with rfl|j
 ·exact .inl rfl
 ·exact .inr (qt r j)
theorem qD {B:Nat}{ss:List bu}:∀r∈gY B ss,r.e=51\/r.e=5\/r.e=55\/r.e=93\/r.e=189:=by
 intro r C;obtain⟨p,_,j⟩:=O.1 C;exact E7 r j
theorem ic {w:World}{base e size n k:Nat}{A:Option Addr}{c:Nat}{xs:List Value}(h:w.ownsRow base e size (V A k c) n xs):Sl w A xs:=by
 obtain⟨B,C,he,j⟩:=qx h
 cases he;exact j
theorem Ir {B:Nat}{p:dF}{W:World}(h:ai (kW B p) W)(he:p.m.bl=p.xs.map (·.1)):nR W p:=
 ⟨he,ic h.head,λb j=>ic (h.tail (CL B b) (Y.2 ⟨b,j,rfl⟩))⟩
theorem vc {B:Nat}{ms:List dF}{W:World}(h:ai (fc B ms) W){p:dF}(j:p∈ms):ai (kW B p) W:= λr C=>h r (O.2 ⟨p,j,C⟩)
theorem uU {B:Nat}{ms:List cJ}{W:World}(h:ai (fP B ms) W){p:cJ}(j:p∈ms):ai (mg B p) W:= λr C=>h r (O.2 ⟨p,j,C⟩)
theorem vH {B:Nat}{ms:List bu}{W:World}(h:ai (gY B ms) W){p:bu}(j:p∈ms):ai (lc B p) W:= λr C=>h r (O.2 ⟨p,j,C⟩)
def nS (p:dF):Prop:=p.m.bl=p.xs.map (·.1)
def rZ (p:cJ):Prop:=∀m∈p.ms,nS m
def ki (p:bu):Prop:=∀g∈p.gs,rZ g
theorem Ih {B:Nat}{p:cJ}{W:World}(h:ai (mg B p) W)(he:rZ p):mE W p:=
 ⟨ic h.head,ic h.tail.head,λm j=>Ir (vc h.tail.tail j) (he m j)⟩
theorem BE {B:Nat}{p:bu}{W:World}(h:ai (lc B p) W)(he:ki p):ii W p:=
 ⟨ic h.head,ic h.tail.head,λm j=>Ih (uU h.tail.tail j) (he m j)⟩
end
open Go Go.RowKit
attribute [local go_sem] Oper.semAt_some
open Go.Lib renaming hid→O
open Go.IntKind renaming i64→U,wrap_i64→Y,i64→X
open Go.Value renaming int→Z,bool→OM
open Tryz renaming results232→V,ntmps133→OA,func133→OD,prog→OF,ntmps91→OK,func91→OL
open List renaming getElem?_eq_getElem→J,length→OB,all_eq_true→OH,getElem_mem→OI
open Int renaming lt_or_le→OC
open Bool renaming false_ne_true→OE
open Go.Ending renaming returned→OG
open Go.Obj renaming cells→OJ
theorem cZ (A:Option Addr)(n c:Nat)(i m:Int)(w:World)(j:0<=i)(B:0<=m)(C:m<=32)(N:8*n<i+m)(_hi:i<=9223372036854775807)(hsz:n<=2 ^ 47):
  Calls OF 91 #[.slice A n c,Z U i,Z U m] w λe w'=>e=OG (.tuple #[Z U 0,Z U 5])/\w=w':=by
 have D:decide (i<0)=false:=by simpa using j
 have G:decide (m<0)=false:=by simpa using B
 have I:¬(32:Int)<m:=by omega
 by_cases K:(8*(n:Int))<i
 ·go_enter OL,OK
  go_wp2_with (go_at_call 92;refine(bh _ _ _ _ hsz).mono ?_;rintro e w' ⟨rfl,rfl⟩)
  go_ret2;exact⟨rfl,rfl⟩
 ·have M:(8*(n:Int)) - i<m:=by omega
  have T:X.wrap (8*(n:Int) - i)=8*(n:Int) - i:=by rw[Y];omega
  go_enter OL,OK
  go_wp2_with (go_at_call 92;refine(bh _ _ _ _ hsz).mono ?_;rintro e w' ⟨rfl,rfl⟩)
  go_ret2;exact⟨rfl,rfl⟩
theorem Kb {l:List UInt8}{i:Int}{first:Bool}(h:(ac (bS first) (fQ first) l i).2.2=0):0<=i/\i+(ac (bS first) (fQ first) l i).2.1<=8*(OB l:Int)/\1<=(ac (bS first) (fQ first) l i).2.1/\(ac (bS first) (fQ first) l i).2.1<=13/\
  ((ac (bS first) (fQ first) l i).1=1001\/(ac (bS first) (fQ first) l i).1=1000\/∃k:Nat,k<63/\(ac (bS first) (fQ first) l i).1=(k:Int)):=by
 have I:0<=i:=by
  rcases OC i 0 with B|B
  ·unfold ac at h;rw[if_pos B] at h;cases h
  ·exact B
 have N:i<=8*(OB l:Int):=by
  rcases OC (8*(OB l:Int)) i with B|B
  ·exfalso
   have e:ac (bS first) (fQ first) l i=(0,0,5):=by
    unfold ac;rw[if_neg (by omega),show min 24 (8*OB l - i.toNat)=0 by omega]
    cases first<;>kernel_rfl
   rw[e] at h
   cases h
  ·exact B
 have he:=g8 I N h;obtain⟨j,K,C,hl⟩:=mz h
 have M:(bS first)[j].length<=13/\1<=(bS first)[j].length:=by
  have:(bS first).all (λc=>decide (OB c<=13)&&decide (1<=OB c))=true:=by cases first<;>kernel_rfl
  simpa using OH.1 this _ (OI K)
 refine⟨I,he,by omega,by omega,?_⟩;rcases qo first j K with⟨G,_,D⟩|⟨_,_,_,D⟩|⟨_,D⟩
 ·rw[D] at C
  exact .inr (.inr ⟨j,G,(Option.some.inj C).symm⟩)
 ·rw[D] at C
  exact .inl (Option.some.inj C).symm
 ·rw[D] at C
  exact .inr (.inl (Option.some.inj C).symm)
theorem GU (k:Nat)(h:k<63):∃p,((aQ false).getD k ((0,0),[])).1=p/\uh[k]? =some p/\0<=p.1/\p.1<=63/\1<=p.2/\p.2<=127:=by
 have j:k<(aQ false).length:=by rw[eS];exact h
 refine⟨(aQ false)[k].1,?_,?_,?_⟩
 ·rw[List.getD_eq_getElem?_getD,J j,Option.getD_some]
 ·unfold uh
  rw[List.getElem?_map,J j];rfl
 ·have:=OH.1 (mW false) _ (OI j)
  simpa [and_assoc] using this
def wJ (r:(Int×Int)×Bool×Int×Int) (w:World) (e:Ending) (w':World):Prop:=e=OG (.tuple #[.agg #[Z U r.1.1,Z U r.1.2],OM r.2.1,Z U r.2.2.1,Z U r.2.2.2])/\Below w.heap.size w w'
set_option maxRecDepth 100000 in
set_option maxHeartbeats 4000000 in
theorem vw (A:Option Addr)(n c:Nat)(l:List UInt8)(i:Int)(first:Bool)(w:World)(hA:Sl w A (l.map af))(hn:OB l=n)(hsz:n<=2 ^ 47)(hi: -9223372036854775808<=i/\i<=9223372036854775807):
  Calls OF 232 #[.slice A n c,Z U i,OM first] w (wJ (kT l i first) w):=by
 have RD:=O (λ(W:World) (hA:Sl W A (l.map af))=>Di A n c l i first W hA hn hsz hi);have HT:=O (@Kb l i first);obtain⟨R,hR⟩:∃R,kT l i first=R:=⟨_,rfl⟩;rw[hR];unfold kT at hR;dsimp only at hR;generalize ac (bS first) (fQ first) l i=q at*;obtain⟨q1,N,q3⟩:=q;dsimp only at hR HT RD;have HR:=O hR;have HA:=O hA;have HN:=O hn;have M:=O hsz;have B0:=(Below.refl _ w).alloc (Nat.le_refl _) (OJ #[Z U 0,Z U 0] 189);have Z0:=ab.new w 189 #[Z U 0,Z U 0];have cz:=O B0;have dE:=O Z0;clear hA hn hsz hR B0 Z0
 go_enter Tryz.func232,Tryz.ntmps232
 go_wp2_with fail
 refine(RD.out _ (HA.out.below cz.out)).mono ?_;rintro e w1 ⟨rfl,hb⟩;have C:=O (cz.out.trans (hb.mono cz.out.size));have z1:=dE.out.below hb dE.out.lt;have I:=O z1;have c0:=z1.cell 0;have c1:=z1.cell 1;have f0:=z1.frozen 0;have f1:=z1.frozen 1;(try dsimp only at c0 c1);obtain⟨K,eE⟩:∃K,w.heap.size=K:=⟨_,rfl⟩;have K8:=O eE;have B:=O (show w.heap.size<=K by omega);rw[eE] at c0 c1 f0 f1 I⊢;clear hb z1 eE dE cz
 cases hq:(q3 !=0) with
 |true=>
  have j:=HR.out;rw[if_pos hq] at j;subst j;go_wp2_with fail
  have s:=(I.out.set_ 0 (Z U (0))).set_ 1 (Z U (0));have D:=s.cell 0;have G:=s.cell 1;simp at D G;refine bodyPost_ret (by simp[results,V,go_sem,D,G];try rfl) rfl ?_;exact⟨rfl,(C.out.setCell (p:=⟨K,0,none⟩) B.out _).setCell (p:=⟨K,1,none⟩) B.out _⟩
 |false=>
  have j:=HR.out;rw[if_neg (by rw[hq];decide)] at j;have K0:q3=0:=(by simpa using hq);subst K0;obtain⟨jT,bE,h1,ja,hk⟩:=HT.out rfl;have hn:=HN.out;have hsz:=M.out;rw[hn] at j bE;have dD:=O j;have aC:=O jT;have aB:=O bE;have H1:=O h1;have fW:=O ja;clear jT bE h1 ja hq j HR HT RD hn hsz;rcases hk with rfl|rfl|⟨k,hk,rfl⟩
  ·have j:=dD.out
   rw[if_pos (by decide)] at j;subst j;go_wp2_with fail
   have s:=(I.out.set_ 0 (Z U (0))).set_ 1 (Z U (0));have D:=s.cell 0;have G:=s.cell 1;simp at D G;refine bodyPost_ret (by simp[results,V,go_sem,D,G];try rfl) rfl ?_;exact⟨rfl,(C.out.setCell (p:=⟨K,0,none⟩) B.out _).setCell (p:=⟨K,1,none⟩) B.out _⟩
  ·have j:=dD.out
   rw[if_neg (by decide),if_pos (by decide)] at j;have hw:X.wrap (i+N)=i+N:=(by have:=aB.out;have:=aC.out;have:=H1.out;have:=M.out;rw[Y];omega);have dt:=O (HA.out.below C.out);rcases OC (8*(n:Int)) (i+N+14) with hm|hm
   ·rw[if_pos hm] at j
    subst j;have T:=O (cZ A n c (i+N) 14 w1 (by have:=aC.out;have:=H1.out;omega) (by decide) (by decide) hm (by have:=aB.out;have:=M.out;omega) M.out);clear hm;go_wp2_with (go_at_call 91;refine T.out.mono ?_;rintro e w' ⟨rfl,rfl⟩)
    have s:=(I.out.set_ 0 (Z U (0))).set_ 1 (Z U (0));have D:=s.cell 0;have G:=s.cell 1;simp at D G;refine bodyPost_ret (by simp[results,V,go_sem,D,G];try rfl) rfl ?_;exact⟨rfl,(C.out.setCell (p:=⟨K,0,none⟩) B.out _).setCell (p:=⟨K,1,none⟩) B.out _⟩
   ·rw[if_neg (by omega)] at j
    have T:=O (dL A n c l (i+N) 14 w1 dt.out HN.out (by have:=aC.out;have:=H1.out;omega) (by decide) (by decide) hm M.out);rw[show (14:Int).toNat=14 from rfl] at T;have hx:=cW l (i+N).toNat 14;generalize au l (i+N).toNat 14=x at j hx T;have K3:x<16384:=hx;obtain⟨u,hu⟩:∃u,x % 256=u:=⟨_,rfl⟩;obtain⟨v,hv⟩:∃v,x / 256=v:=⟨_,rfl⟩;rw[hu,hv] at j;have KF:(x:Int) % 256=(u:Int):=(by omega);have KG:(x:Int) / 256=(v:Int):=(by omega);have K1:u<256:=(by omega);have wj:(0:Int)<=(x:Int):=(by omega);have K6:X.wrap (N+14)=N+14:=(by have:=H1.out;have:=fW.out;rw[Y];omega);have K5:v<64:=(by omega);clear hm hx K3 hu hv
    by_cases u0:u=0
    ·subst u0
     rw[if_pos (by decide)] at j;subst j;go_wp2_with (go_at_call 91;refine T.out.mono ?_;rintro e w' ⟨rfl,rfl⟩)
     have s:=(I.out.set_ 0 (Z U (0))).set_ 1 (Z U (0));have D:=s.cell 0;have G:=s.cell 1;simp at D G;refine bodyPost_ret (by simp[results,V,go_sem,D,G];try rfl) rfl ?_;exact⟨rfl,(C.out.setCell (p:=⟨K,0,none⟩) B.out _).setCell (p:=⟨K,1,none⟩) B.out _⟩
    by_cases u1:u=128
    ·subst u1
     rw[if_pos (by decide)] at j;subst j;go_wp2_with (go_at_call 91;refine T.out.mono ?_;rintro e w' ⟨rfl,rfl⟩)
     have s:=(I.out.set_ 0 (Z U (0))).set_ 1 (Z U (0));have D:=s.cell 0;have G:=s.cell 1;simp at D G;refine bodyPost_ret (by simp[results,V,go_sem,D,G];try rfl) rfl ?_;exact⟨rfl,(C.out.setCell (p:=⟨K,0,none⟩) B.out _).setCell (p:=⟨K,1,none⟩) B.out _⟩
    rw[if_neg (by simp;omega)] at j;have e0:((u:Int)==0)=false:=(by rw[beq_eq_false_iff_ne];omega);have e1:((u:Int)==128)=false:=by rw[beq_eq_false_iff_ne];omega
    by_cases u2:128<u
    ·have e2:decide (128<(u:Int))=true:=by simp;omega
     have KH:X.wrap ((u:Int) - 256)=(u:Int) - 256:=(by rw[Y];omega);have h8:i8 u=(u:Int) - 256:=(by unfold i8;rw[if_neg (by omega)]);rw[h8] at j;subst j;clear u0 u1 u2 h8;go_wp2_with (go_at_call 91;refine T.out.mono ?_;rintro e w' ⟨rfl,rfl⟩)
     have s:=(I.out.set_ 0 (Z U ((v:Int)))).set_ 1 (Z U ((u:Int) - 256));have D:=s.cell 0;have G:=s.cell 1;simp at D G;refine bodyPost_ret (by simp[results,V,go_sem,D,G];try rfl) rfl ?_;exact⟨rfl,(C.out.setCell (p:=⟨K,0,none⟩) B.out _).setCell (p:=⟨K,1,none⟩) B.out _⟩
    ·have e2:decide (128<(u:Int))=false:=by simp;omega
     have h8:i8 u=(u:Int):=(by unfold i8;rw[if_pos (by omega)]);rw[h8] at j;subst j;clear u0 u1 u2 h8;go_wp2_with (go_at_call 91;refine T.out.mono ?_;rintro e w' ⟨rfl,rfl⟩)
     have s:=(I.out.set_ 0 (Z U ((v:Int)))).set_ 1 (Z U ((u:Int)));have D:=s.cell 0;have G:=s.cell 1;simp at D G;refine bodyPost_ret (by simp[results,V,go_sem,D,G];try rfl) rfl ?_;exact⟨rfl,(C.out.setCell (p:=⟨K,0,none⟩) B.out _).setCell (p:=⟨K,1,none⟩) B.out _⟩
  ·have j:=dD.out
   have Iq:((k:Int)==1001)=false:=(by rw[beq_eq_false_iff_ne];omega);have J2:((k:Int)==1000)=false:=(by rw[beq_eq_false_iff_ne];omega);rw[Iq,J2,if_neg OE,if_neg OE] at j;have hw:X.wrap (i+N)=i+N:=(by have:=aB.out;have:=aC.out;have:=H1.out;have:=M.out;rw[Y];omega);have dt:=O (HA.out.below C.out);rcases OC (8*(n:Int)) (i+N+1) with hm|hm
   ·rw[if_pos hm] at j
    subst j;have T:=O (cZ A n c (i+N) 1 w1 (by have:=aC.out;have:=H1.out;omega) (by decide) (by decide) hm (by have:=aB.out;have:=M.out;omega) M.out);clear hm;go_wp2_with (go_at_call 91;refine T.out.mono ?_;rintro e w' ⟨rfl,rfl⟩)
    have s:=(I.out.set_ 0 (Z U (0))).set_ 1 (Z U (0));have D:=s.cell 0;have G:=s.cell 1;simp at D G;refine bodyPost_ret (by simp[results,V,go_sem,D,G];try rfl) rfl ?_;exact⟨rfl,(C.out.setCell (p:=⟨K,0,none⟩) B.out _).setCell (p:=⟨K,1,none⟩) B.out _⟩
   ·rw[if_neg (by omega)] at j
    have T:=O (dL A n c l (i+N) 1 w1 dt.out HN.out (by have:=aC.out;have:=H1.out;omega) (by decide) (by decide) hm M.out);rw[show (1:Int).toNat=1 from rfl] at T;have hx:=cW l (i+N).toNat 1;generalize au l (i+N).toNat 1=x at j hx T;obtain⟨pp,hp,kz,K9,Kr,KC,KE⟩:=GU k hk;rw[Int.toNat_natCast,hp] at j;have KJ:X.wrap (N+1)=N+1:=(by have:=H1.out;have:=fW.out;rw[Y];omega);have gy:=O kz;clear hm hp kz;go_wp2_with (go_at_call 91;refine T.out.mono ?_;rintro e w' ⟨rfl,rfl⟩)
    refine(qY w1).mono ?_;rintro e w3 ⟨w2,v1,v2,dY,rfl,hz⟩;obtain⟨A8,c8,q8,s8⟩:=qx hz.2.2.head;dsimp only at q8;subst q8;obtain⟨ad,rfl,_,d0,d1⟩:=jj s8 k (by rw[oA];exact hk)
    have rX:uh[k]'(by rw[oA];exact hk)=pp:=by
     have:=gy.out;rw[J (by rw[oA];exact hk)] at this;exact Option.some.inj this
    rw[rX] at d0 d1;have hb:=dY.trans (hz.1.mono dY.size);have Io:=O ((C.out.trans (hb.mono C.out.size)).alloc (C.out.trans (hb.mono C.out.size)).size (OJ #[Z U pp.1,Z U pp.2] 189));have Ip:=O ((C.out.trans (hb.mono C.out.size)).alloc (C.out.trans (hb.mono C.out.size)).size (OJ #[Z U pp.1,Z U (-pp.2)] 189));have z3:=I.out.below hb I.out.lt;have gJ:=O (z3.alloc (OJ #[Z U pp.1,Z U pp.2] 189));have hU:=O (z3.alloc (OJ #[Z U pp.1,Z U (-pp.2)] 189));have K4:((k:Int)<63):=(by omega);rw[oA];clear c0 c1 f0 f1 hz s8 rX hb dY gy I
    by_cases K2:x=1
    ·subst K2
     rw[if_pos (by decide)] at j;subst j;have z4:=hU.out;have c0:=z4.cell 0;have c1:=z4.cell 1;have f0:=z4.frozen 0;have f1:=z4.frozen 1;(try dsimp only at c0 c1);have KI:X.wrap (-pp.2)= -pp.2:=(by rw[Y];omega);clear z4 z3;obtain⟨pa,pb⟩:=pp;dsimp only at*;go_wp2_with fail
     have s:=(hU.out.set_ 0 (Z U (pa))).set_ 1 (Z U (-pb));have D:=s.cell 0;have G:=s.cell 1;simp at D G;refine bodyPost_ret (by simp[results,V,go_sem,D,G];try rfl) rfl ?_;exact⟨rfl,(Ip.out.setCell (p:=⟨K,0,none⟩) B.out _).setCell (p:=⟨K,1,none⟩) B.out _⟩
    ·have wj:x=0:=by omega
     subst wj;rw[if_neg (by decide)] at j;subst j;have z4:=gJ.out;have c0:=z4.cell 0;have c1:=z4.cell 1;have f0:=z4.frozen 0;have f1:=z4.frozen 1;(try dsimp only at c0 c1);clear z4 z3;obtain⟨pa,pb⟩:=pp;dsimp only at*;go_wp2_with fail
     have s:=(gJ.out.set_ 0 (Z U (pa))).set_ 1 (Z U (pb));have D:=s.cell 0;have G:=s.cell 1;simp at D G;refine bodyPost_ret (by simp[results,V,go_sem,D,G];try rfl) rfl ?_;exact⟨rfl,(Io.out.setCell (p:=⟨K,0,none⟩) B.out _).setCell (p:=⟨K,1,none⟩) B.out _⟩
theorem zT (intra:Bool)(w:World):Calls OF 135 #[OM intra] w λe w'=>e=OG (Z U (eB intra))/\w=w':=by
 cases intra
 all_goals
  go_enter Tryz.func135,Tryz.ntmps135
  go_wp2_with fail
  go_ret
  exact⟨rfl,rfl⟩
def tO (n:Int):Bool:=decide (1<=n)&&decide (n<=255)&&n !=128
theorem Dk (n:Int)(w:World):Calls OF 133 #[Z U n] w λe w'=>e=OG (OM (tO n))/\w=w':=by
 unfold tO
 cases a:decide (1<=n) with
 |false=>
  go_enter OD,OA
  go_wp2_with fail
  go_ret;exact⟨rfl,rfl⟩
 |true=>
  cases b:decide (n<=255) with
  |false=>
   go_enter OD,OA
   go_wp2_with fail
   go_ret;exact⟨rfl,rfl⟩
  |true=>
   cases c:(n !=128) with
   |false=>
    go_enter OD,OA
    go_wp2_with fail
    go_ret;exact⟨rfl,rfl⟩
   |true=>
    go_enter OD,OA
    go_wp2_with fail
    go_ret;exact⟨rfl,rfl⟩
end Go.Proofs.YthhijgcfbjcgiaaGreatDoor
