/- StpL, RdW, RunG, StpC, Step0, ShoR, Ref08d, Ref08e -/
import Derived.Test.YthhijgcfbjcgiaaGreatDoorT35
namespace Go.Proofs.YthhijgcfbjcgiaaGreatDoor
section
open Go Go.RowKit
open List renaming length→O,replicate→U,length_append→Y,length_cons→J,append_nil→OA
open Bool renaming false_eq_true→Z
open Go.Value renaming pointer→V,int→OF
open Tryz renaming prog→X
open Go.IntKind renaming i64→OB,i64→OE
open Nat renaming le_refl→OC
open Go.Ending renaming returned→OD
def jF (l:List UInt8) (s:aY):(aY×List bH)×Int:=
 let k:=aC l s 0
 if k.2 !=0 then k else
 let m:=br l (eJ k.1.1) k.1.1 []
 if m.2 !=0 then m else
 br l (U (cC (ax m.1.1 5).pa) 5) m.1.1 m.1.2
theorem sD (l:List UInt8):∀(k:Nat)(s:aY)(bl:List bH),
  (cT l s.pt.1 k s.a).2.2≠0/\(br l (U k 5) s bl).2=(cT l s.pt.1 k s.a).2.2\/
  (cT l s.pt.1 k s.a).2.2=0/\(br l (U k 5) s bl).2=0/\(br l (U k 5) s bl).1.2=bl++(cT l s.pt.1 k s.a).1/\(br l (U k 5) s bl).1.1.a=(cT l s.pt.1 k s.a).2.1/\
   (br l (U k 5) s bl).1.1.ad=s.ad/\(br l (U k 5) s bl).1.1.kd=s.kd/\(br l (U k 5) s bl).1.1.qu=s.qu/\(br l (U k 5) s bl).1.1.mx=s.mx/\(br l (U k 5) s bl).1.1.my=s.my/\(br l (U k 5) s bl).1.1.pa=(if k=0 then s.pa else(ax s 5).pa)
 |0,s,bl=> .inr ⟨rfl,rfl,by simp[cT,br],rfl,rfl,rfl,rfl,rfl,rfl,rfl⟩
 |k+1,s,bl=>by
  have e:aC l (ax s 5) 5=(({ax s 5 with a:=s.a+(bK l s.a s.pt.1).2.1},[(bK l s.a s.pt.1).1]),(bK l s.a s.pt.1).2.2):=by
   unfold ax
   split<;>rfl
  have N:cT l s.pt.1 (k+1) s.a=(if (bK l s.a s.pt.1).2.2 !=0 then([],0,(bK l s.a s.pt.1).2.2) else((bK l s.a s.pt.1).1::(cT l s.pt.1 k (s.a+(bK l s.a s.pt.1).2.1)).1,(cT l s.pt.1 k (s.a+(bK l s.a s.pt.1).2.1)).2.1,(cT l s.pt.1 k (s.a+(bK l s.a s.pt.1).2.1)).2.2)):=rfl;rw[List.replicate_succ,de,e,N];dsimp only
  by_cases G:(bK l s.a s.pt.1).2.2=0
  ·have j:((bK l s.a s.pt.1).2.2 !=0)=false:=by rw[G];rfl
   rw[j,if_neg (by decide),if_neg (by decide)];have D:({ax s 5 with a:=s.a+(bK l s.a s.pt.1).2.1}:aY).pt=s.pt:=(by unfold ax;split<;>rfl);have I:=sD l k {ax s 5 with a:=s.a+(bK l s.a s.pt.1).2.1} (bl++[(bK l s.a s.pt.1).1]);rw[D] at I;dsimp only at I;rcases I with⟨B,h2⟩|⟨B,h2,T,h4,h5,h6,h7,h8,h9,C⟩
   ·exact .inl ⟨B,h2⟩
   ·refine .inr ⟨B,h2,by rw[T];simp,h4,h5.trans (by unfold ax;split<;>rfl),h6.trans (by unfold ax;split<;>rfl),h7.trans (by unfold ax;split<;>rfl),h8.trans (by unfold ax;split<;>rfl),h9.trans (by unfold ax;split<;>rfl),C.trans ?_⟩
    rw[if_neg (show ¬(k+1=0) by omega)]
    have M:(ax {ax s 5 with a:=s.a+(bK l s.a s.pt.1).2.1} 5).pa=(ax s 5).pa:=by
     by_cases K:s.pt.1=true
     ·simp[ax,K]
     ·simp[ax,K]
    split
    ·rfl
    ·exact M
  ·have j:((bK l s.a s.pt.1).2.2 !=0)=true:=by simpa using G
   rw[j,if_pos rfl,if_pos rfl];exact .inl ⟨G,rfl⟩
theorem iA (l:List UInt8):∀(ts us:List Nat)(s:aY)(bl:List bH),br l (ts++us) s bl=if (br l ts s bl).2 !=0 then br l ts s bl else br l us (br l ts s bl).1.1 (br l ts s bl).1.2
 |[],us,s,bl=>rfl
 |t::ts,us,s,bl=>by
  rw[List.cons_append,de,de]
  split
  ·rfl
  ·exact iA l ts us _ _
theorem JY (l:List UInt8)(kd:Int)(s:aY)(D:s.qu=0):(mq l kd s.a).2.2≠0/\(br l (if pQ kd then[1] else[]) s []).2=(mq l kd s.a).2.2\/(mq l kd s.a).2.2=0/\br l (if pQ kd then[1] else[]) s []=(({s with a:=(mq l kd s.a).2.1,qu:=(mq l kd s.a).1},[]),0):=by
 unfold mq
 cases M:pQ kd with
 |false=>
  right
  obtain⟨a,pt,ad,K,qu,mx,my,pa,v,x,y⟩:=s;dsimp only at D;subst D;exact⟨rfl,rfl⟩
 |true=>
  rw[if_pos rfl,if_pos rfl,de];have I:ax s 1=s:=(by unfold ax;rw[if_neg (by omega)]);rw[I]
  by_cases j:8*(O l:Int)<s.a+5
  ·have B:aC l s 1=(({s with a:=s.a+5,qu:=0},[]),5):=if_pos j
   left
   rw[B,if_pos j];exact⟨by decide,rfl⟩
  ·have B:aC l s 1=(({s with a:=s.a+5,qu:=((aB l s.a.toNat 5:Nat):Int)},[]),if ((aB l s.a.toNat 5:Nat):Int)==0 then 9 else 0):=if_neg j
   rw[B,if_neg j]
   by_cases C:aB l s.a.toNat 5=0
   ·left
    rw[C];exact⟨λh=>absurd (show (9:Int)=0 from h) (by decide),rfl⟩
   ·right
    have G:(((aB l s.a.toNat 5:Nat):Int)==0)=false:=(by simpa using C);have h2:(aB l s.a.toNat 5==0)=false:=(by simpa using C);rw[G,h2];exact⟨rfl,rfl⟩
theorem JZ (l:List UInt8)(kd:Int)(s:aY)(I:s.mx=0)(K:s.my=0):(mv l kd s.a s.x s.y).2.2≠0/\(br l (if pV kd then[2,3] else[]) s []).2=(mv l kd s.a s.x s.y).2.2\/(mv l kd s.a s.x s.y).2.2=0/\br l (if pV kd then[2,3] else[]) s []=(({s with a:=(mv l kd s.a s.x s.y).2.1,mx:=(mv l kd s.a s.x s.y).1.1,my:=(mv l kd s.a s.x s.y).1.2},[]),0):=by
 unfold mv
 cases hp:pV kd with
 |false=>
  right
  obtain⟨a,pt,ad,av,qu,mx,my,pa,v,x,y⟩:=s;dsimp only at I K;subst I K;exact⟨rfl,rfl⟩
 |true=>
  rw[if_pos rfl,if_pos rfl,de];have ha:ax s 2=s:=(by unfold ax;rw[if_neg (by omega)]);rw[ha];have M:iR l s.a s.x=if (ac ao au l s.a).2.2 !=0 then(0,0,(ac ao au l s.a).2.2) else((aW s.x (ac ao au l s.a).1).1,s.a+(ac ao au l s.a).2.1,(aW s.x (ac ao au l s.a).1).2):=rfl
  have s2:aC l s 2=if (ac ao au l s.a).2.2 !=0 then((s,[]),(ac ao au l s.a).2.2) else(({s with a:=s.a+(ac ao au l s.a).2.1,mx:=(aW s.x (ac ao au l s.a).1).1},[]),(aW s.x (ac ao au l s.a).1).2):=rfl
  dsimp only;rw[M,s2]
  cases D:((ac ao au l s.a).2.2 !=0) with
  |true=>
   left
   rw[if_pos rfl,if_pos rfl];dsimp only;rw[D,if_pos rfl,if_pos rfl];exact⟨by simpa using D,rfl⟩
  |false=>
   simp only[Z,if_false]
   cases h2:((aW s.x (ac ao au l s.a).1).2 !=0) with
   |true=>
    left
    simp only[if_true];exact⟨by simpa using h2,trivial⟩
   |false=>
    simp only[Z,if_false];rw[de];generalize B:({s with a:=s.a+(ac ao au l s.a).2.1,mx:=(aW s.x (ac ao au l s.a).1).1}:aY)=j;have C:ax j 3=j:=(by unfold ax;rw[if_neg (by omega)]);have sa:j.a=s.a+(ac ao au l s.a).2.1:=(by rw[<-B]);have sy:j.y=s.y:=(by rw[<-B]);have N:iR l (s.a+(ac ao au l s.a).2.1) s.y=if (ac ao au l j.a).2.2 !=0 then(0,0,(ac ao au l j.a).2.2) else((aW j.y (ac ao au l j.a).1).1,j.a+(ac ao au l j.a).2.1,(aW j.y (ac ao au l j.a).1).2):=by rw[sa,sy];rfl
    have s3:aC l j 3=if (ac ao au l j.a).2.2 !=0 then((j,[]),(ac ao au l j.a).2.2) else(({j with a:=j.a+(ac ao au l j.a).2.1,my:=(aW j.y (ac ao au l j.a).1).1},[]),(aW j.y (ac ao au l j.a).1).2):=rfl
    rw[C,N,s3]
    cases G:((ac ao au l j.a).2.2 !=0) with
    |true=>
     left
     simp only[if_true,G];exact⟨by simpa using G,trivial⟩
    |false=>
     simp only[Z,if_false]
     cases T:((aW j.y (ac ao au l j.a).1).2 !=0) with
     |true=>
      left
      simp only[if_true];exact⟨by simpa using T,trivial⟩
     |false=>
      right
      simp only[Z,if_false];refine⟨trivial,?_⟩;rw[<-B];rfl
theorem Jw {k:Int}(h:pC k=true):pI k=false:=by
 unfold pC at h;unfold pI;simp only[Bool.or_eq_true,beq_iff_eq] at h;rcases h with((((h|h)|h)|h)|h)|h<;>subst h<;>rfl
theorem JX (l:List UInt8)(kd:Int)(s:aY)(B:s.pt.1=pI kd)(C:s.pa=0):(mc l kd s.a).2.2≠0/\(br l (if pC kd then[4] else[]) s []).2=(mc l kd s.a).2.2\/
  (mc l kd s.a).2.2=0/\∃j,br l (if pC kd then[4] else[]) s []=((j,[]),0)/\(ax j 5).pa=(mc l kd s.a).1/\j={s with a:=(mc l kd s.a).2.1,pa:=j.pa}/\(pI kd=false->j.pa=(mc l kd s.a).1):=by
 unfold mc
 cases K:pC kd with
 |false=>
  right
  simp only[Z,if_false];refine⟨trivial,s,rfl,?_,rfl,λh=>by rw[C,h];rfl⟩;unfold ax;rw[B]
  cases D:pI kd<;>simp[C]
 |true=>
  have D:=Jw K;rw[D] at B;rw[if_pos rfl,if_pos rfl,de];have I:ax s 4=s:=(by unfold ax;rw[B,if_neg (by simp)]);have M:aC l s 4=(({s with a:=s.a+(ac bm bO l s.a).2.1,pa:=(ac bm bO l s.a).1},[]),(ac bm bO l s.a).2.2):=rfl;rw[I,M];dsimp only
  cases G:((ac bm bO l s.a).2.2 !=0) with
  |true=>
   left
   simp only[if_true];exact⟨by simpa using G,trivial⟩
  |false=>
   right
   simp only[Z,if_false];refine⟨trivial,_,rfl,?_,rfl,λ_=>rfl⟩;unfold ax;dsimp only;rw[B,if_neg (by simp)]
theorem FR:aN.all eT=true:=by kernel_rfl
theorem F5 (s:aY)(kd:Int)(h:s.pt=(pI kd,pQ kd,pV kd,pF kd,pC kd)):eJ s=((if pQ kd then[1] else[])++(if pV kd then[2,3] else[]))++(if pC kd then[4] else[]):=by unfold eJ;rw[h]
def sn (i ad:Int) (x:bA) (v:Value):aY:=⟨i,(false,false,false,false,false),ad,0,0,0,0,0,v,(cZ ad (ad - x.ad) x.had x.x x.y).1,(cZ ad (ad - x.ad) x.had x.x x.y).2⟩
theorem E5 {cs:List (List UInt8)}{ns:List Int}{l:List UInt8}{i:Int}(h:(ac cs ns l i).2.2=0):(ac cs ns l i).1∈ns:=by
 unfold ac at h⊢
 split at h
 ·cases h
 ·rename_i B
  rw[if_neg B];unfold jZ at h⊢
  cases j:cy (aI l i.toNat (min 24 (8*O l - i.toNat))) cs ns with
  |some p=>obtain⟨n,k⟩:=p;exact(rh j).1
  |none=>
   rw[j] at h;dsimp only at h
   split at h<;>cases h
theorem F3 (l:List UInt8)(i ad:Int)(x:bA)(v:Value)(hi:¬(i<0\/ad<1\/33<ad))(ha:da x ad=true):
  ((cH l i ad x).2.2≠0/\cH l i ad x=(m0,0,(jF l (sn i ad x v)).2)/\(jF l (sn i ad x v)).2≠0)\/
  ((jF l (sn i ad x v)).2=0/\∃s bl,(jF l (sn i ad x v)).1=(s,bl)/\cH l i ad x=(⟨ad,s.kd,s.qu,s.mx,s.my,s.pa,bl⟩,s.a - i,0)):=by
 have e0:cH l i ad x=(let pr:=cZ ad (ad - x.ad) x.had x.x x.y
   let k:=ac aD aN l i
   if k.2.2 !=0 then(m0,0,k.2.2) else
   let q:=mq l k.1 (i+k.2.1)
   if q.2.2 !=0 then(m0,0,q.2.2) else
   let v:=mv l k.1 q.2.1 pr.1 pr.2
   if v.2.2 !=0 then(m0,0,v.2.2) else
   let c:=mc l k.1 v.2.1
   if c.2.2 !=0 then(m0,0,c.2.2) else
   let b:=cT l (pI k.1) (cC c.1) c.2.1
   if b.2.2 !=0 then(m0,0,b.2.2) else(⟨ad,k.1,q.1,v.1.1,v.1.2,c.1,b.1⟩,b.2.1 - i,0)):=by
  unfold cH;rw[if_neg hi,ha];rfl
 rw[e0];unfold jF;have s0:aC l (sn i ad x v) 0=(({sn i ad x v with a:=i+(ac aD aN l i).2.1,kd:=(ac aD aN l i).1,pt:=lg (ac aD aN l i).1},[]),(ac aD aN l i).2.2):=rfl;rw[s0];dsimp only
 cases hk:((ac aD aN l i).2.2 !=0) with
 |true=>
  left
  simp only[if_true];exact⟨by simpa using hk,trivial,by simpa using hk⟩
 |false=>
  simp only[Z,if_false];have av:eT (ac aD aN l i).1=true:=List.all_eq_true.1 FR _ (E5 (by simpa using hk));generalize B:({sn i ad x v with a:=i+(ac aD aN l i).2.1,kd:=(ac aD aN l i).1,pt:=lg (ac aD aN l i).1}:aY)=D;obtain⟨kd,bM⟩:∃kd,(ac aD aN l i).1=kd:=⟨_,rfl⟩;rw[bM] at B av⊢;have T:D.pt=(pI kd,pQ kd,pV kd,pF kd,pC kd):=(by rw[<-B];show lg kd=_;unfold lg;rw[av,if_pos rfl]);have f1:D.a=i+(ac aD aN l i).2.1:=(by rw[<-B]);have f2:D.x=(cZ ad (ad - x.ad) x.had x.x x.y).1:=(by rw[<-B];rfl);have f3:D.y=(cZ ad (ad - x.ad) x.had x.x x.y).2:=(by rw[<-B];rfl);have f4:D.ad=ad:=(by rw[<-B];rfl);have f5:D.kd=kd:=(by rw[<-B]);have g1:D.qu=0:=(by rw[<-B];rfl);have g2:D.mx=0:=(by rw[<-B];rfl);have g3:D.my=0:=(by rw[<-B];rfl);have g4:D.pa=0:=(by rw[<-B];rfl);clear B;rw[F5 D kd T,iA,iA,<-f1,<-f2,<-f3];rcases JY l kd D g1 with⟨G,h2⟩|⟨G,h2⟩
  ·left
   have M:((mq l kd D.a).2.2 !=0)=true:=(by simpa using G);simp only[h2,M,if_true];exact⟨G,trivial,G⟩
  ·rw[h2]
   have M:((mq l kd D.a).2.2 !=0)=false:=(by simpa using G);simp only[M,Z,if_false,bne_self_eq_false];generalize C:({D with a:=(mq l kd D.a).2.1,qu:=(mq l kd D.a).1}:aY)=j;have p1:(mq l kd D.a).2.1=j.a:=(by rw[<-C]);have p2:(mq l kd D.a).1=j.qu:=(by rw[<-C]);have p3:D.x=j.x:=(by rw[<-C]);have p4:D.y=j.y:=(by rw[<-C]);have p5:j.pt=(pI kd,pQ kd,pV kd,pF kd,pC kd):=(by rw[<-C];exact T);have p6:j.mx=0:=(by rw[<-C];exact g2);have p7:j.my=0:=(by rw[<-C];exact g3);have p8:j.pa=0:=(by rw[<-C];exact g4);have p9:j.kd=kd:=(by rw[<-C];exact f5);rw[p1,p2,p3,p4];clear C G h2 M p1 p2 p3 p4 g1 g2 g3 g4 f1 f2 f3 f4 f5 T;rcases JZ l kd j p6 p7 with⟨G,h2⟩|⟨G,h2⟩
   ·left
    have M:((mv l kd j.a j.x j.y).2.2 !=0)=true:=(by simpa using G);simp only[h2,M,if_true];exact⟨G,trivial,G⟩
   ·rw[h2]
    have M:((mv l kd j.a j.x j.y).2.2 !=0)=false:=(by simpa using G);simp only[M,Z,if_false,bne_self_eq_false];generalize K:({j with a:=(mv l kd j.a j.x j.y).2.1,mx:=(mv l kd j.a j.x j.y).1.1,my:=(mv l kd j.a j.x j.y).1.2}:aY)=I;have r1:(mv l kd j.a j.x j.y).2.1=I.a:=(by rw[<-K]);have r2:(mv l kd j.a j.x j.y).1.1=I.mx:=(by rw[<-K]);have r3:(mv l kd j.a j.x j.y).1.2=I.my:=(by rw[<-K]);have r4:j.qu=I.qu:=(by rw[<-K]);have r5:I.pt=(pI kd,pQ kd,pV kd,pF kd,pC kd):=(by rw[<-K];exact p5);have r8:I.pa=0:=(by rw[<-K];exact p8);have r9:I.kd=kd:=(by rw[<-K];exact p9);rw[r1,r2,r3,r4];clear K G h2 M r1 r2 r3 r4 p5 p6 p7 p8 p9;rcases JX l kd I (by rw[r5]) r8 with⟨G,h2⟩|⟨G,N,h2,h4,h5,h6⟩
    ·left
     have M:((mc l kd I.a).2.2 !=0)=true:=(by simpa using G);simp only[h2,M,if_true];exact⟨G,trivial,G⟩
    ·rw[h2]
     have M:((mc l kd I.a).2.2 !=0)=false:=(by simpa using G);simp only[M,Z,if_false,bne_self_eq_false];rw[h4];have t1:(mc l kd I.a).2.1=N.a:=(by rw[h5]);have t2:N.pt.1=pI kd:=(by rw[h5];show I.pt.1=_;rw[r5]);have t3:N.qu=I.qu:=(by rw[h5]);have t4:N.mx=I.mx:=(by rw[h5]);have t5:N.my=I.my:=(by rw[h5]);have t6:N.kd=kd:=(by rw[h5];exact r9);rw[t1,<-t2];rcases sD l (cC (mc l kd I.a).1) N [] with⟨k1,k2⟩|⟨k1,k2,k3,k4,k5,k6,k7,k8,k9,cE⟩
     ·left
      have k3:((cT l N.pt.1 (cC (mc l kd I.a).1) N.a).2.2 !=0)=true:=(by simpa using k1);rw[k3,if_pos rfl,k2];exact⟨k1,rfl,k1⟩
     ·right
      have cI:((cT l N.pt.1 (cC (mc l kd I.a).1) N.a).2.2 !=0)=false:=(by simpa using k1);rw[cI,if_neg (by decide)];refine⟨k2,_,_,rfl,?_⟩;rw[k3,k4,k6,k7,k8,k9,cE,t3,t4,t5,t6,h4,List.nil_append];congr 2
      split
      ·rename_i hz
       cases hI:pI kd with
       |false=>exact(h6 hI).symm
       |true=>
        exfalso
        have hC:pC kd=false:=by
         cases hc:pC kd with
         |false=>rfl
         |true=>rw[Jw hc] at hI;cases hI
        have aJ:(mc l kd I.a).1=63:=(by unfold mc;rw[hC,hI];rfl);rw[aJ] at hz
        revert hz
        decide
      ·rfl
structure ii (w0:World) (g:Nat) (A:Option Addr) (n c:Nat) (s:aY) (xs:List dB) (W:World):Prop where
 below:Below w0.heap.size w0 W
 cell:ab W g 208 (f9 A n c s)
 row:W.ownsRow w0.heap.size 93 2 s.v (O xs) (az ia xs)
 bl:∀p∈xs,W.ownsRow w0.heap.size 189 2 (.slice p.2.1 p.1.l.length p.2.2) p.1.l.length (az bd p.1.l)
theorem mt {W D:World}{base e size n:Nat}{v:Value}{xs:List Value}(h:W.ownsRow base e size v n xs)(K:∀(g:Nat)(cs:Array Value),ab W g e cs->ab D g e cs):D.ownsRow base e size v n xs:=by
 refine⟨h.1,?_⟩;rcases h.2 with C|⟨g,B,j,C,h2,G,I⟩
 ·exact .inl C
 ·exact .inr ⟨g,B,j,C,h2,K g j G,I⟩
theorem ii.mono {C W B:World}{g:Nat}{A:Option Addr}{n c:Nat}{s:aY}{xs:List dB}(h:ii C g A n c s xs W)(j:Below W.heap.size W B):ii C g A n c s xs B:=
 ⟨h.below.trans (j.mono h.below.size),h.cell.below j h.cell.lt,bL h.row j (OC _),λp D=>bL (h.bl p D) j (OC _)⟩
theorem ii.turn {G W j:World}{g:Nat}{A:Option Addr}{n c:Nat}{s D:aY}{xs:List dB}(h:ii G g A n c s xs W)(hg:G.heap.size<=g)(ht:gm g W j)(M:ab j g 208 (f9 A n c D))(T:D.v=s.v):ii G g A n c D xs j:=by
 have K:∀(e:TypeId),e≠208->∀(g':Nat)(cs:Array Value),ab W g' e cs->ab j g' e cs:= λe he g' cs I=>ht.blk I (λB=>by subst B;exact aT I h.cell he rfl);refine⟨?_,M,?_,λp N=>mt (h.bl p N) (K _ (by simp))⟩
 ·exact h.below.trans ⟨ht.os,ht.tape,ht.output,ht.size,λk C=>ht.block k (Nat.lt_of_lt_of_le C h.below.size) (by omega)⟩
 ·rw[T]
  exact mt h.row (K _ (by simp))
theorem ii.block {G W I:World}{g:Nat}{A:Option Addr}{n c:Nat}{s:aY}{xs:List dB}{r:bH×Int×Int}{a2:Int}{e:Ending}(h:ii G g A n c s xs W)(D:AD G g A n c s xs r a2 W e I):
  ∃v B c2,ii G g A n c {s with a:=a2,v:=v} (xs++[(r.1,B,c2)]) I:=by
 obtain⟨v,B,c2,M,h2,N⟩:=D.ex;refine⟨v,B,c2,D.below,M,by rw[Y];exact h2,λp j=>?_⟩;rcases List.mem_append.1 j with j|j
 ·exact mt (h.bl p j) (λg' cs K=>D.keep g' _ cs K (by simp) (λC=>by subst C;exact aT K h.cell (by simp) rfl))
 ·rw[List.mem_singleton] at j
  subst j;exact N
def ea (l:List UInt8) (s:aY):List Nat:=0::(eJ (aC l s 0).1.1++U (cC (ax (br l (eJ (aC l s 0).1.1) (aC l s 0).1.1 []).1.1 5).pa) 5)
theorem uN (l:List UInt8)(s:aY):jF l s=br l (ea l s) s []:=by
 unfold jF ea;rw[de,show ax s 0=s by unfold ax;rw[if_neg (by omega)]];dsimp only;have j:(aC l s 0).1.2=[]:=rfl;rw[j,OA]
 split
 ·rw[<-j]
 ·rw[iA]
theorem uV (l:List UInt8){ts:List Nat}{t:Nat}{s B:aY}{bl j:List bH}(h:br l ts s bl=((B,j),0)):br l (ts++[t]) s bl=(((aC l (ax B t) t).1.1,j++(aC l (ax B t) t).1.2),(aC l (ax B t) t).2):=by
 rw[iA,h];dsimp only;rw[if_neg (by decide),de]
 split
 ·rfl
 ·rename_i he
  have:(aC l (ax B t) t).2=0:=(by simpa using he);rw[this];rfl
theorem Gw (l:List UInt8){ts C:List Nat}{t:Nat}{s B:aY}{bl j:List bH}(h:br l ts s bl=((B,j),0))(D:ts++[t]<+:C)(he:(aC l (ax B t) t).2≠0):(br l C s bl).2=(aC l (ax B t) t).2:=by
 obtain⟨us,rfl⟩:=D;rw[iA,uV l h,if_pos (by simpa using he)]
theorem bi (s:aY)(t:Nat):(ax s t).a=s.a/\(ax s t).x=s.x/\(ax s t).y=s.y/\(ax s t).pt=s.pt/\(ax s t).v=s.v:=by unfold ax;split<;>simp
theorem ki (l:List UInt8)(s:aY)(t:Nat):(aC l s t).1.1.x=s.x/\(aC l s t).1.1.y=s.y/\(t≠0->(aC l s t).1.1.pt=s.pt)/\(aC l s t).1.2.length<=1:=by
 unfold aC
 split
 ·simp
 ·split<;>simp
 ·split<;>simp
 ·split<;>simp
 ·simp
 ·simp
theorem Iv (l:List UInt8){s:aY}{t:Nat}(j:0<=s.a)(B:s.a<=8*(O l:Int))(he:(aC l s t).2=0):0<=(aC l s t).1.1.a/\(aC l s t).1.1.a<=8*(O l:Int):=by
 match t,he with
 |0,_=>
  have h:=gV (cs:=aD) (ns:=aN) j B;show 0<=s.a+_/\s.a+_<=_;omega
 |1,he=>
  by_cases D:8*(O l:Int)<s.a+5
  ·have C:aC l s 1=(({s with a:=s.a+5,qu:=0},[]),5):=if_pos D
   rw[C] at he
   cases he
  ·have C:aC l s 1=(({s with a:=s.a+5,qu:=((aB l s.a.toNat 5:Nat):Int)},[]),if ((aB l s.a.toNat 5:Nat):Int)==0 then 9 else 0):=if_neg D
   rw[C];show 0<=s.a+5/\s.a+5<=_;omega
 |2,_=>
  have h:=gV (cs:=ao) (ns:=au) j B;show 0<=(if (ac ao au l s.a).2.2 !=0 then((s,[]),(ac ao au l s.a).2.2) else(({s with a:=s.a+(ac ao au l s.a).2.1,mx:=(aW s.x (ac ao au l s.a).1).1},([]:List bH)),(aW s.x (ac ao au l s.a).1).2)).1.1.a/\(if (ac ao au l s.a).2.2 !=0 then((s,[]),(ac ao au l s.a).2.2) else(({s with a:=s.a+(ac ao au l s.a).2.1,mx:=(aW s.x (ac ao au l s.a).1).1},([]:List bH)),(aW s.x (ac ao au l s.a).1).2)).1.1.a<=_
  split
  ·exact⟨j,B⟩
  ·show 0<=s.a+_/\s.a+_<=_
   omega
 |3,_=>
  have h:=gV (cs:=ao) (ns:=au) j B;show 0<=(if (ac ao au l s.a).2.2 !=0 then((s,[]),(ac ao au l s.a).2.2) else(({s with a:=s.a+(ac ao au l s.a).2.1,my:=(aW s.y (ac ao au l s.a).1).1},([]:List bH)),(aW s.y (ac ao au l s.a).1).2)).1.1.a/\(if (ac ao au l s.a).2.2 !=0 then((s,[]),(ac ao au l s.a).2.2) else(({s with a:=s.a+(ac ao au l s.a).2.1,my:=(aW s.y (ac ao au l s.a).1).1},([]:List bH)),(aW s.y (ac ao au l s.a).1).2)).1.1.a<=_
  split
  ·exact⟨j,B⟩
  ·show 0<=s.a+_/\s.a+_<=_
   omega
 |4,_=>
  have h:=gV (cs:=bm) (ns:=bO) j B;show 0<=s.a+_/\s.a+_<=_;omega
 |_+5,_=>
  have h:=AN (intra:=s.pt.1) j B;show 0<=s.a+_/\s.a+_<=_;omega
theorem rz (l:List UInt8):∀(ts:List Nat){s B:aY}{bl j:List bH},br l ts s bl=((B,j),0)->0<=s.a->s.a<=8*(O l:Int)->0<=B.a/\B.a<=8*(O l:Int)/\O j<=O bl+O ts/\B.x=s.x/\B.y=s.y
 |[],s,B,bl,j,h,h0,h1=>by
  simp only[br,Prod.mk.injEq,and_true] at h;obtain⟨rfl,rfl⟩:=h;exact⟨h0,h1,by simp,rfl,rfl⟩
 |t::ts,s,B,bl,j,h,h0,h1=>by
  rw[de] at h
  split at h
  ·rename_i he
   rw[(Prod.mk.inj h).2] at he
   cases he
  ·rename_i he
   have he:(aC l (ax s t) t).2=0:=(by simpa using he);obtain⟨C,k2,k3,_,_⟩:=bi s t;obtain⟨D,G⟩:=Iv l (by rw[C];exact h0) (by rw[C];exact h1) he;obtain⟨c1,c2,c3,c4⟩:=ki l (ax s t) t;obtain⟨I,K,M,N,T⟩:=rz l ts h D G;refine⟨I,K,?_,by rw[N,c1,k2],by rw[T,c2,k3]⟩;rw[Y] at M;rw[J];omega
theorem qs (l:List UInt8):∀(ts:List Nat){s B:aY}{bl j:List bH},br l ts s bl=((B,j),0)->B.x=s.x/\B.y=s.y
 |[],s,B,bl,j,h=>by
  simp only[br,Prod.mk.injEq,and_true] at h;obtain⟨rfl,rfl⟩:=h;exact⟨rfl,rfl⟩
 |t::ts,s,B,bl,j,h=>by
  rw[de] at h
  split at h
  ·rename_i he
   rw[(Prod.mk.inj h).2] at he
   cases he
  ·obtain⟨C,D⟩:=qs l ts h
   obtain⟨K,G,I,_,_⟩:=bi s t;obtain⟨c1,c2,c3,c4⟩:=ki l (ax s t) t;exact⟨by rw[C,c1,G],by rw[D,c2,I]⟩
theorem qr (l:List UInt8):∀(ts:List Nat){s B:aY}{bl j:List bH},br l ts s bl=((B,j),0)->0 ∉ ts->B.pt=s.pt
 |[],s,B,bl,j,h,_=>by
  simp only[br,Prod.mk.injEq,and_true] at h;obtain⟨rfl,rfl⟩:=h;rfl
 |t::ts,s,B,bl,j,h,hn=>by
  rw[de] at h
  split at h
  ·rename_i he
   rw[(Prod.mk.inj h).2] at he
   cases he
  ·have:=qr l ts h (λC=>hn (List.mem_cons_of_mem _ C))
   rw[this,(ki l (ax s t) t).2.2.1 (λe=>hn (by rw[e];exact List.mem_cons_self ..)),(bi s t).2.2.2.1]
theorem jI (l:List UInt8){ts:List Nat}{s B:aY}{j:List bH}(h:br l (0::ts) s []=((B,j),0)):(aC l s 0).2=0/\br l ts (aC l s 0).1.1 []=((B,j),0):=by
 rw[de,show ax s 0=s by unfold ax;rw[if_neg (by omega)]] at h
 split at h
 ·rename_i he
  rw[(Prod.mk.inj h).2] at he
  cases he
 ·rename_i he
  exact⟨by simpa using he,h⟩
theorem oA (l:List UInt8){ts:List Nat}{s B:aY}{j:List bH}(h:br l (0::ts) s []=((B,j),0))(C:0 ∉ ts):B.pt=(aC l s 0).1.1.pt:=qr l ts (jI l h).2 C
theorem GG (l:List UInt8)(s:aY):(ea l s).length<=11:=by
 have h:∀p:Int,cC p<=6:= λp=>by unfold cC;split<;>omega
 have h2:∀q:aY,(eJ q).length<=4:= λq=>by unfold eJ;(repeat' split)<;>simp
 have a:=h2 (aC l s 0).1.1;unfold ea;rw[J,Y,List.length_replicate];have b:=h (ax (br l (eJ (aC l s 0).1.1) (aC l s 0).1.1 []).1.1 5).pa;omega
theorem IL (l:List UInt8){s B:aY}{j:List bH}(h:br l (0::eJ (aC l s 0).1.1) s []=((B,j),0)):ea l s=0::(eJ (aC l s 0).1.1++U (cC (ax B 5).pa) 5):=by
 unfold ea;rw[(jI l h).2]
theorem Kc (l:List UInt8)(s:aY):ax (aC l (ax s 5) 5).1.1 5=(aC l (ax s 5) 5).1.1:=by
 have e:(aC l (ax s 5) 5).1.1={ax s 5 with a:=(ax s 5).a+(bK l (ax s 5).a (ax s 5).pt.1).2.1}:=rfl;rw[e]
 by_cases j:s.pt.1=true
 ·have B:ax s 5={s with pa:=63}:=by unfold ax;rw[if_pos ⟨by decide,j⟩]
  rw[B];unfold ax;rw[if_pos ⟨by decide,j⟩]
 ·have B:ax s 5=s:=by unfold ax;rw[if_neg (λh=>j h.2)]
  rw[B];unfold ax;rw[if_neg (λh=>j h.2)]
theorem uU (l:List UInt8){ts:List Nat}{s B:aY}{bl j:List bH}(h:br l (ts++[5]) s bl=((B,j),0)):ax B 5=B:=by
 rw[iA] at h
 split at h
 ·rename_i he
  rw[h] at he
  cases he
 ·rw[de] at h
  split at h
  ·rename_i he
   rw[(Prod.mk.inj h).2] at he
   cases he
  ·have e:=(Prod.mk.inj (Prod.mk.inj h).1).1
   rw[<-e];exact Kc l _
theorem jU (s:aY){t:Nat}(h:t<4):ax s t=s:=by unfold ax;rw[if_neg (by omega)]
theorem I9 (s:aY):ax s 4=ax s 5:=by unfold ax;simp
structure iF (w0:World) (g:Nat) (A:Option Addr) (n c:Nat) (l:List UInt8) (s:aY) (xs:List dB) (t:Nat) (W:World) (e:Ending) (W':World):Prop where
 ret:e=OD (OF OE (aC l s t).2)
 ex:∃v xs',ii w0 g A n c {(aC l s t).1.1 with v:=v} xs' W'/\xs'.map (·.1)=xs.map (·.1)++(aC l s t).1.2
 keep:∀(g':Nat)(ty:TypeId)(cs:Array Value),ab W g' ty cs->ty≠93->g'≠g->ab W' g' ty cs
 from_:∀B':Nat,KeepsFrom B' W W'
theorem IN {g B:Nat}{W C:World}{t:TypeId}{cs:Array Value}(h:gm g W C)(D:ab W g t cs):KeepsFrom B W C:=
 ⟨h.size,λk o _ j G=>(h.block k (Array.getElem?_eq_some_iff.1 j).1 (λe=>by
  subst e;have h2:W.heap[k]? =some (.cells cs t (0,0)):=D;rw[h2] at j
  cases j
  cases G)).trans j⟩
theorem gT {D W j:World}{g:Nat}{A:Option Addr}{n c:Nat}{l:List UInt8}{s:aY}{xs:List dB}{t:Nat}{e:Ending}(h:ii D g A n c s xs W)(K:D.heap.size<=g)(ht:gm g W j)(he:e=OD (OF OE (aC l s t).2))(I:ab j g 208 (f9 A n c (aC l s t).1.1))(M:(aC l s t).1.1.v=s.v)(B:(aC l s t).1.2=[]):iF D g A n c l s xs t W e j:=
 ⟨he,⟨(aC l s t).1.1.v,xs,h.turn K ht I M,by rw[B,OA]⟩,λg' ty cs G _ C=>ht.blk G C,λN=>IN ht h.cell⟩
section
variable {w0 W:World} {g:Nat} {A:Option Addr} {n c:Nat} {l:List UInt8} {s:aY} {xs:List dB}
theorem lU {a k:Int}{m:Nat}(j:0<=a)(C:0<=k)(B:a+k<=8*(m:Int)+5)(D:m<=2 ^ 47):OB.wrap (a+k)=a+k:=by rw[IntKind.wrap_i64];omega
theorem Gz (h:ii w0 g A n c s xs W)(G:w0.heap.size<=g)(C:Sl w0 A (l.map ag))(I:O l=n)(hsz:n<=2 ^ 47)(j:0<=s.a)(B:s.a<=8*(O l:Int)):
  Calls X 224 #[V (some ⟨g,0,none⟩)] W (iF w0 g A n c l s xs 0 W):=by
 obtain⟨a,b,_⟩:=gV (cs:=aD) (ns:=aN) j B;refine(Bl g A n c l s W h.cell (C.below h.below) I hsz (by omega) _ (lU (m:=O l) j a (by omega) (by omega))).mono ?_;rintro e K ⟨rfl,D,ht⟩;exact gT h G ht rfl D rfl rfl
theorem E2 (h:ii w0 g A n c s xs W)(K:w0.heap.size<=g)(I:Sl w0 A (l.map ag))(hn:O l=n)(hsz:n<=2 ^ 47)(C:0<=s.a)(h1:s.a<=8*(O l:Int)):
  Calls X 225 #[V (some ⟨g,0,none⟩)] W (iF w0 g A n c l s xs 1 W):=by
 have N:OB.wrap (s.a+5)=s.a+5:=lU (m:=n) C (by decide) (by omega) hsz
 by_cases M:8*(O l:Int)<s.a+5
 ·have j:aC l s 1=(({s with a:=s.a+5,qu:=0},[]),5):=if_pos M
  refine(xX g A n c l s W h.cell (I.below h.below) 0 5 (s.a+5) (λB _=>(dj A n c s.a 5 B C (by decide) (by decide) (by omega) hsz).mono (λe w' hh=>hh)) N (.inr rfl)).mono ?_;rintro e T ⟨rfl,G,ht⟩;exact gT h K ht (by rw[j];rfl) (by rw[j];exact G) (by rw[j]) (by rw[j])
 ·have j:aC l s 1=(({s with a:=s.a+5,qu:=((aB l s.a.toNat 5:Nat):Int)},[]),if ((aB l s.a.toNat 5:Nat):Int)==0 then 9 else 0):=if_neg M
  refine(xX g A n c l s W h.cell (I.below h.below) ((aB l s.a.toNat 5:Nat):Int) 0 (s.a+5) (λB D=>fS _ A n c l s.a 5 B rfl D hn C (by decide) (by decide) (by omega) hsz) N (.inl rfl)).mono ?_;rintro e T ⟨rfl,G,ht⟩;exact gT h K ht (by rw[j];rfl) (by rw[j];exact G) (by rw[j]) (by rw[j])
theorem zS (h:ii w0 g A n c s xs W)(I:w0.heap.size<=g)(C:Sl w0 A (l.map ag))(D:Ts w0)(K:O l=n)(hsz:n<=2 ^ 47)(j:0<=s.a)(B:s.a<=8*(O l:Int)):
  Calls X 227 #[V (some ⟨g,0,none⟩)] W (iF w0 g A n c l s xs 4 W):=by
 obtain⟨a,b,_⟩:=gV (cs:=bm) (ns:=bO) j B;refine(CI g A n c l s W h.cell (D.below h.below) (C.below h.below) K hsz (by omega) _ (lU (m:=O l) j a (by omega) (by omega))).mono ?_;rintro e M ⟨rfl,G,ht⟩;exact gT h I ht rfl G rfl rfl
theorem EX (h:ii w0 g A n c s xs W)(I:w0.heap.size<=g)(D:Sl w0 A (l.map ag))(G:Ts w0)(K:O l=n)(hsz:n<=2 ^ 47)(B:0<=s.a)(C:s.a<=8*(O l:Int))(N:O xs<=100):
  Calls X 228 #[V (some ⟨g,0,none⟩)] W (iF w0 g A n c l s xs 5 W):=by
 obtain⟨a,b⟩:=AN (intra:=s.pt.1) B C;refine(Gm w0 g A n c l s xs W h.below I h.cell (G.below h.below) (D.below h.below) K hsz h.row N _ (lU (m:=O l) B a (by omega) (by omega))).mono ?_;intro e W' j;obtain⟨v,T,c2,M⟩:=h.block j;exact⟨j.ret,⟨v,_,M,by rw[List.map_append];rfl⟩,j.keep,j.from_⟩
theorem EZ {B C D:Nat}(h:ii w0 g A n c s xs W)(N:w0.heap.size<=g)(T:Sl w0 A (l.map ag))(hn:O l=n)(hsz:n<=2 ^ 47)(G:0<=s.a)(M:s.a<=8*(O l:Int))(hp:aA s.x=true)
  (k0:ab W B 206 #[V (some ⟨g,0,none⟩)]) (k1:ab W C 3 #[OF OE s.x]) (k2:ab W D 250 #[V (some ⟨g,10,none⟩)]):
  Calls X 255 #[V (some ⟨B,0,none⟩),V (some ⟨C,0,none⟩),V (some ⟨D,0,none⟩)] W (iF w0 g A n c l s xs 2 W):=by
 obtain⟨a,b,_⟩:=gV (cs:=ao) (ns:=au) G M;refine(Gn g B C D s.x A n c l s W h.cell k0 k1 k2 (T.below h.below) hn hsz (by omega) hp (λhe=>sT G M he) _ (lU (m:=O l) G a (by omega) (by omega))).mono ?_;rintro e W' (⟨K,rfl,I,ht⟩|⟨he,rfl,I,ht⟩)
 ·have j:aC l s 2=((s,[]),(ac ao au l s.a).2.2):=if_pos (by simpa using K)
  exact gT h N ht (by rw[j]) (by rw[j];exact I) (by rw[j]) (by rw[j])
 ·have j:aC l s 2=(({s with a:=s.a+(ac ao au l s.a).2.1,mx:=(aW s.x (ac ao au l s.a).1).1},[]),(aW s.x (ac ao au l s.a).1).2):=if_neg (by rw[he];decide)
  exact gT h N ht (by rw[j]) (by rw[j];exact I) (by rw[j]) (by rw[j])
theorem E0 {B C D:Nat}(h:ii w0 g A n c s xs W)(N:w0.heap.size<=g)(T:Sl w0 A (l.map ag))(hn:O l=n)(hsz:n<=2 ^ 47)(G:0<=s.a)(M:s.a<=8*(O l:Int))(hp:aA s.y=true)
  (k0:ab W B 206 #[V (some ⟨g,0,none⟩)]) (k1:ab W C 3 #[OF OE s.y]) (k2:ab W D 250 #[V (some ⟨g,11,none⟩)]):
  Calls X 255 #[V (some ⟨B,0,none⟩),V (some ⟨C,0,none⟩),V (some ⟨D,0,none⟩)] W (iF w0 g A n c l s xs 3 W):=by
 obtain⟨a,b,_⟩:=gV (cs:=ao) (ns:=au) G M;refine(Gp g B C D s.y A n c l s W h.cell k0 k1 k2 (T.below h.below) hn hsz (by omega) hp (λhe=>sT G M he) _ (lU (m:=O l) G a (by omega) (by omega))).mono ?_;rintro e W' (⟨K,rfl,I,ht⟩|⟨he,rfl,I,ht⟩)
 ·have j:aC l s 3=((s,[]),(ac ao au l s.a).2.2):=if_pos (by simpa using K)
  exact gT h N ht (by rw[j]) (by rw[j];exact I) (by rw[j]) (by rw[j])
 ·have j:aC l s 3=(({s with a:=s.a+(ac ao au l s.a).2.1,my:=(aW s.y (ac ao au l s.a).1).1},[]),(aW s.y (ac ao au l s.a).1).2):=if_neg (by rw[he];decide)
  exact gT h N ht (by rw[j]) (by rw[j];exact I) (by rw[j]) (by rw[j])
end
end
section
open Go Go.RowKit
attribute [local go_sem] Oper.semAt_some
open Go.Value renaming pointer→O
open Go.Obj renaming cells→U
open Tryz renaming prog→Z
open Go.Ending renaming returned→V
theorem Gq (g:Nat)(w:World):Calls Z 188 #[O (some ⟨g,0,none⟩)] w λe w'=>e=V (.func (.func 223) #[] #[O (some ⟨w.heap.size,0,none⟩)])/\w'=w.alloc (U #[O (some ⟨g,0,none⟩)] 206):=by
 go_enter Tryz.func188,Tryz.ntmps188
 go_wp2_with fail
 go_ret;exact⟨rfl,rfl⟩
theorem Im (g k:Nat)(j:Int)(w:World):Calls Z 226 #[O (some ⟨g,0,none⟩),O (some ⟨g,k,none⟩),.int .i64 j] w λe w'=>e=V (.func (.func 255) #[] #[O (some ⟨w.heap.size,0,none⟩),O (some ⟨w.heap.size+2,0,none⟩),O (some ⟨w.heap.size+1,0,none⟩)])/\
  w'=((w.alloc (U #[O (some ⟨g,0,none⟩)] 206)).alloc (U #[O (some ⟨g,k,none⟩)] 250)).alloc (U #[.int .i64 j] 3):=by
 go_enter Tryz.func226,Tryz.ntmps226
 go_wp2_with fail
 go_ret;exact⟨by simp[Nat.add_assoc],rfl⟩
end
section
open Go Go.RowKit
open List renaming mem_flatMap→O,length→U,mem_cons→Z,mem_map→Y
open Go.Value renaming slice→V
theorem fL {R:List a9}{W j:World}(h:ar R W)(B:Below W.heap.size W j):ar R j:= λr C=>bL (h r C) B (Nat.le_refl _)
theorem cr {R:List a9}{W:World}{g:Nat}{t:TypeId}{cs:Array Value}(h:ar R W)(C:ab W g t cs)(B:∀r∈R,r.e≠t) (i:Nat) (v:Value):ar R (W.setCell ⟨g,i,none⟩ v):= λr j=>ek (h r j) ⟨g,i,none⟩ v (ba (h r j) C (B r j))
theorem Bp {R:List a9}{W j:World}{g:Nat}{t:TypeId}{cs:Array Value}(h:ar R W)(G:ab W g t cs)(D:W.grownBy j (some g))(C:∀r∈R,r.e≠t):ar R j:= λr B=>rT (h r B) D G (C r B)
theorem ar.app {R S:List a9}{W:World}(h:ar R W)(k:ar S W):ar (R++S) W:= λr j=>by
 rcases List.mem_append.1 j with j|j
 ·exact h r j
 ·exact k r j
theorem ar.left {R S:List a9}{W:World}(h:ar (R++S) W):ar R W:= λr j=>h r (List.mem_append_left _ j)
theorem ar.right {R S:List a9}{W:World}(h:ar (R++S) W):ar S W:= λr j=>h r (List.mem_append_right _ j)
def a9.to (b:Nat) (r:a9):a9:={r with base:=b}
theorem cJ {w:World}{base j:Nat}{e:TypeId}{size n:Nat}{v:Value}{xs:List Value}(h:w.ownsRow base e size v n xs)(G:j<=base):w.ownsRow j e size v n xs:=by
 refine⟨h.1,?_⟩;rcases h.2 with h2|⟨g,B,C,rfl,D,I⟩
 ·exact .inl h2
 ·exact .inr ⟨g,B,C,rfl,Nat.le_trans G D,I⟩
def Cp (B:Nat) (b:dB):a9:=⟨B,189,2,V b.2.1 b.1.l.length b.2.2,b.1.l.length,az bd b.1.l⟩
def od (B:Nat) (p:ei):List a9:=⟨B,93,2,V p.A (U p.xs) p.c,U p.xs,az ia p.xs⟩::p.xs.map (Cp B)
def iN (B:Nat) (ms:List ei):List a9:=ms.flatMap (od B)
def tw (B:Nat) (p:cQ):List a9:=⟨B,5,1,V p.sA (U p.sp) p.sc,U p.sp,p.sp.map ag⟩::⟨B,55,7,V p.A (U p.ms) p.c,U p.ms,az eX p.ms⟩::iN B p.ms
def jc (B:Nat) (gs:List cQ):List a9:=gs.flatMap (tw B)
def oB (B:Nat) (p:a8):List a9:=⟨B,5,1,V p.sA (U p.sp) p.sc,U p.sp,p.sp.map ag⟩::⟨B,51,4,V p.A (U p.gs) p.c,U p.gs,az fV p.gs⟩::jc B p.gs
def lI (B:Nat) (j:List a8):List a9:=j.flatMap (oB B)
theorem Ea {B:Nat}{p:ei}:∀r∈od B p,r.e=93\/r.e=189:=by
 intro r j;rcases Z.1 j with rfl|j
 ·exact .inl rfl
 ·obtain⟨b,_,rfl⟩:=Y.1 j
  exact .inr rfl
theorem qk {B:Nat}{ms:List ei}:∀r∈iN B ms,r.e=93\/r.e=189:=by
 intro r C;obtain⟨p,_,j⟩:=O.1 C;exact Ea r j
theorem Jl {B:Nat}{p:cQ}:∀r∈tw B p,r.e=5\/r.e=55\/r.e=93\/r.e=189:=by
 intro r j;rcases Z.1 j with rfl|j
 ·exact .inl rfl
 rcases Z.1 j with rfl|j
 ·exact .inr (.inl rfl)
 ·exact .inr (.inr (qk r j))
theorem tx {B:Nat}{gs:List cQ}:∀r∈jc B gs,r.e=5\/r.e=55\/r.e=93\/r.e=189:=by
 intro r C;obtain⟨p,_,j⟩:=O.1 C;exact Jl r j
theorem EO {B:Nat}{p:a8}:∀r∈oB B p,r.e=51\/r.e=5\/r.e=55\/r.e=93\/r.e=189:=by
 intro r j;rcases Z.1 j with rfl|j
 ·exact .inr (.inl rfl)
 rcases Z.1 j with rfl|j
 ·exact .inl rfl
 ·exact .inr (tx r j)
theorem Br {B:Nat}{D:List a8}:∀r∈lI B D,r.e=51\/r.e=5\/r.e=55\/r.e=93\/r.e=189:=by
 intro r C;obtain⟨p,_,j⟩:=O.1 C;exact EO r j
theorem el {w:World}{base e size n k:Nat}{A:Option Addr}{c:Nat}{xs:List Value}(h:w.ownsRow base e size (V A k c) n xs):Sl w A xs:=by
 obtain⟨B,C,he,j⟩:=qn h
 cases he;exact j
theorem Hv {B:Nat}{p:ei}{W:World}(h:ar (od B p) W)(he:p.m.bl=p.xs.map (·.1)):lk W p:=
 ⟨he,el h.head,λb j=>el (h.tail (Cp B b) (Y.2 ⟨b,j,rfl⟩))⟩
theorem uD {B:Nat}{ms:List ei}{W:World}(h:ar (iN B ms) W){p:ei}(j:p∈ms):ar (od B p) W:= λr C=>h r (O.2 ⟨p,j,C⟩)
theorem uy {B:Nat}{ms:List cQ}{W:World}(h:ar (jc B ms) W){p:cQ}(j:p∈ms):ar (tw B p) W:= λr C=>h r (O.2 ⟨p,j,C⟩)
theorem EQ {B:Nat}{ms:List a8}{W:World}(h:ar (lI B ms) W){p:a8}(j:p∈ms):ar (oB B p) W:= λr C=>h r (O.2 ⟨p,j,C⟩)
def vX (p:ei):Prop:=p.m.bl=p.xs.map (·.1)
def vW (p:cQ):Prop:=∀m∈p.ms,vX m
def nN (p:a8):Prop:=∀g∈p.gs,vW g
theorem Ha {B:Nat}{p:cQ}{W:World}(h:ar (tw B p) W)(he:vW p):km W p:=
 ⟨el h.head,el h.tail.head,λm j=>Hv (uD h.tail.tail j) (he m j)⟩
theorem Iq {B:Nat}{p:a8}{W:World}(h:ar (oB B p) W)(he:nN p):fo W p:=
 ⟨el h.head,el h.tail.head,λm j=>Ha (uy h.tail.tail j) (he m j)⟩
end
open Go Go.RowKit
attribute [local go_sem] Oper.semAt_some
set_option maxHeartbeats 16000000
set_option maxRecDepth 100000
open Go.Lib renaming hid→O
open List renaming setIfInBounds_toArray→U,set_cons_succ→Z,set_cons_zero→V,drop_succ_cons→J,getElem?_eq_getElem→OC,drop_zero→OG,getElem?_map→OI,length→OR
open Go.Value renaming int→Y,string→OF,tuple→OT,agg→OU
open Go.IntKind renaming i64→X,wrap_i64→OD,i64→OL
open Tryz renaming ntmps173→OA,func173→OB,prog→OE
open Bool renaming false_ne_true→OH,and_eq_true→OJ,and_true→OQ
open Go.Ending renaming returned→OK
open Nat renaming le_refl→OM
open Go.Proofs.YthhijgcfbjcgiaaGreatDoor.bY renaming take→ON,step→OS
open Int renaming toNat_natCast→OO
open Go.Obj renaming cells→OP
theorem su (a b:Int)(h:dZ (a,b)=true)(w:World):Calls OE 212 #[OU #[Y X a,Y X b]] w λe w'=>e=OK (.bool true)/\Below w.heap.size w w':=by
 unfold dZ at h;simp only[OJ] at h;obtain⟨⟨⟨⟨j,h2⟩,B⟩,C⟩,D⟩:=h
 go_enter Tryz.func212,Tryz.ntmps212
 go_wp2_with fail
 go_ret;exact⟨rfl,(Below.refl _ _).alloc (OM _) _⟩
theorem Iw (q:Nat)(h:q<63):∃p c,tH[q]? =some p/\o9[q]? =some c/\(aL false).drop q=(p,c)::(aL false).drop (q+1):=by
 have j:q<(aL false).length:=by rw[eO];exact h
 refine⟨(aL false)[q].1,(aL false)[q].2,?_,?_,?_⟩
 ·unfold tH
  rw[OI,OC j];rfl
 ·unfold o9
  rw[OI,OC j];rfl
 ·exact List.drop_eq_getElem_cons j
theorem CZ (a b:Int)(dO: -127<=b/\b<=127)(w:World):Calls OE 213 #[OU #[Y X a,Y X b]] w λe w'=>e=OK (OF (bs (cA (a,b) (aL false))))/\Below w.heap.size w w':=by
 obtain⟨R,B⟩:∃R,cA (a,b) (aL false)=R:=⟨_,rfl⟩;rw[B];have HR:=O B;have fJ:OL.wrap (-b)= -b:=by rw[OD];omega
 have Z0:=ab.new w 189 #[Y X a,Y X b];have B0:=(Below.refl _ w).alloc (OM _) (OP #[Y X a,Y X b] 189);have av:=O Z0;have T:=O B0;clear B Z0 B0
 go_enter Tryz.func213,Tryz.ntmps213
 go_wp2_with fail
 refine(zK _).mono ?_;rintro e w3 ⟨w2,v1,v2,bM,rfl,hz⟩;obtain⟨A1,c1,q1,s1⟩:=qn hz.2.2.head;obtain⟨A2,c2,q2,s2⟩:=cO hz.2.2.tail.head;dsimp only at q1 q2;subst q1 q2;rw[ow,BH];have hb:=bM.trans (hz.1.mono bM.size);have G:=O (T.out.trans (hb.mono T.out.size));have aJ:=O (av.out.below hb av.out.lt);have dv:=O s1;have dy:=O s2;obtain⟨I,cI⟩:∃I,w.heap.size=I:=⟨_,rfl⟩;rw[cI] at aJ⊢;clear bM hz s1 s2 hb av T cI;go_wp2_with fail
 go_loopg [5] 63 (λg i=> λwr=>∃(q:Nat),q+g=63/\i=Y X (q:Int)/\Hid (cA (a,b) ((aL false).drop q)=R)/\Hid (Below w3.heap.size w3 wr))
 case atStart=>exact⟨0,by omega,rfl,HR,O (Below.refl _ _)⟩
 case round=>
  obtain⟨q,hq,rfl,HF,HW⟩:=hrel
  cases gk with
  |zero=>
   obtain rfl:q=63:=by omega
   have B:=HF.out;rw[show (aL false).drop 63=[] by kernel_rfl] at B;subst B;have K:=O (G.out.trans (HW.out.mono G.out.size));clear HF HR;go_wp2_with fail
   go_ret;exact⟨rfl,K.out⟩
  |succ g=>
   have eE:((q:Int)<63):=(by omega);obtain⟨p,cc,hp,cE,hd⟩:=Iw q (by omega);have B:=HF.out;rw[hd] at B;unfold cA at B;have x1:=dv.out.below HW.out;have x2:=dy.out.below HW.out;have x3:=aJ.out.below HW.out aJ.out.lt;obtain⟨ad,rfl,_,d0,d1⟩:=fH x1 q (by rw[ow];omega);obtain⟨ae,rfl,_,d2⟩:=x2 q (aR cc) (by rw[OI,cE];rfl);rw[show tH[q]'(by rw[ow];omega)=p by rw[OC (by rw[ow];omega)] at hp;exact Option.some.inj hp] at d0 d1;unfold aR at d2;have y0:=x3.cell 0;have y1:=x3.cell 1;(try dsimp only at y0 y1);obtain⟨pa,pb⟩:=p;dsimp only at d0 d1 B;have hS:(wr.cell? (ad.add (q*2))=some (Y X pa)/\wr.cell? ⟨(ad.add (q*2)).block,(ad.add (q*2)).off+1,none⟩=some (Y X pb)/\wr.cell? ⟨I,0,none⟩=some (Y X a)/\wr.cell? ⟨I,1,none⟩=some (Y X b)):=⟨d0,d1,y0,y1⟩;have M:=O hS;have D:=O B;have N:=O HW.out.drew;have HQ:=O hq;clear x1 x2 x3 hd hp cE B hS HF d0 d1 y0 y1 hq
   cases e1:(pa==a) with
   |false=>
    have B:=D.out;rw[e1,Bool.false_and,if_neg OH] at B;have HN:=O B;clear B D;go_wp2_with fail
    refine dx (λw'=>w'.cell? (ad.add (q*2))=some (Y X pa)/\w'.cell? ⟨(ad.add (q*2)).block,(ad.add (q*2)).off+1,none⟩=some (Y X pb)/\w'.cell? ⟨I,0,none⟩=some (Y X a)/\w'.cell? ⟨I,1,none⟩=some (Y X b)) 29 [(0,true),(1,true),(2,true),(3,true),(4,true),(5,true),(6,true),(7,true),(8,true),(9,true),(10,true),(11,true),(12,true),(13,true),(14,true),(15,true),(16,true),(17,true),(18,true),(19,true),(20,true),(21,true),(22,true),(23,true),(24,true),(25,true),(26,true),(27,true),(28,true)] (M.out) (λPE C=>?_)
    iterate 9
     refine bh (v:=?_) rfl (by rfl) ?_ ?_
     rotate_left
     ·intro _ j;(try dsimp only at j);obtain⟨u0,u1,u2,u3⟩:=j;go_simp;(try with_reducible rfl)
     simp only[U,V,Z]
    iterate 19
     refine iw rfl (by rfl) ?_
     simp only[U,V,Z]
    refine bh (v:=?_) rfl (by rfl) ?_ ?_;rotate_left
    ·intro _ j;(try dsimp only at j);go_simp;(try with_reducible rfl)
    simp only[U,V,Z]
    (refine C _ _ ?_;simp only[J,OG];clear C PE)
    go_wp2_with fail
    go_roundg g
    case measure=>omega
    case rel=>exact⟨q+1,by have:=HQ.out;omega,rfl,HN,N⟩
   |true=>
    cases e2:(pb==b) with
    |true=>
     have B:=D.out;rw[e1,e2,Bool.true_or,OQ,if_pos rfl] at B;subst B;have K:=O (G.out.trans (N.out.mono G.out.size));have d3:wr.drew.cell? (ae.add q)=some (OF (bs cc)):=d2;clear D HR d2;go_wp2_with fail
     refine dx (λw'=>w'.cell? (ad.add (q*2))=some (Y X pa)/\w'.cell? ⟨(ad.add (q*2)).block,(ad.add (q*2)).off+1,none⟩=some (Y X pb)/\w'.cell? ⟨I,0,none⟩=some (Y X a)/\w'.cell? ⟨I,1,none⟩=some (Y X b)) 29 [(0,true),(1,true),(2,true),(3,true),(4,true),(5,true),(6,true),(7,true),(8,true),(9,true),(10,true),(11,true),(12,true),(13,true),(14,true),(15,true),(16,true),(17,true),(18,true),(19,true),(20,true),(21,true),(22,true),(23,true),(24,true),(25,true),(26,true),(27,true),(28,true)] (M.out) (λPE C=>?_)
     iterate 18
      refine bh (v:=?_) rfl (by rfl) ?_ ?_
      rotate_left
      ·intro _ j;(try dsimp only at j);obtain⟨u0,u1,u2,u3⟩:=j;go_simp;(try with_reducible rfl)
      simp only[U,V,Z]
     iterate 9
      refine iw rfl (by rfl) ?_
      simp only[U,V,Z]
     iterate 2
      refine bh (v:=?_) rfl (by rfl) ?_ ?_
      rotate_left
      ·intro _ j;(try dsimp only at j);go_simp;(try with_reducible rfl)
      simp only[U,V,Z]
     (refine C _ _ ?_;simp only[J,OG];clear C PE)
     go_wp2_with fail
     go_ret;exact⟨rfl,K.out⟩
    |false=>
     cases e3:(pb== -b) with
     |true=>
      have B:=D.out;rw[e1,e3,Bool.or_true,OQ,if_pos rfl] at B;subst B;have K:=O (G.out.trans (N.out.mono G.out.size));have d3:wr.drew.cell? (ae.add q)=some (OF (bs cc)):=d2;clear D HR d2;go_wp2_with fail
      refine dx (λw'=>w'.cell? (ad.add (q*2))=some (Y X pa)/\w'.cell? ⟨(ad.add (q*2)).block,(ad.add (q*2)).off+1,none⟩=some (Y X pb)/\w'.cell? ⟨I,0,none⟩=some (Y X a)/\w'.cell? ⟨I,1,none⟩=some (Y X b)) 29 [(0,true),(1,true),(2,true),(3,true),(4,true),(5,true),(6,true),(7,true),(8,true),(9,true),(10,true),(11,true),(12,true),(13,true),(14,true),(15,true),(16,true),(17,true),(18,true),(19,true),(20,true),(21,true),(22,true),(23,true),(24,true),(25,true),(26,true),(27,true),(28,true)] (M.out) (λPE C=>?_)
      iterate 29
       refine bh (v:=?_) rfl (by rfl) ?_ ?_
       rotate_left
       ·intro _ j;(try dsimp only at j);obtain⟨u0,u1,u2,u3⟩:=j;go_simp;(try with_reducible rfl)
       simp only[U,V,Z]
      (refine C _ _ ?_;simp only[J,OG];clear C PE)
      go_wp2_with fail
      go_ret;exact⟨rfl,K.out⟩
     |false=>
      have B:=D.out;rw[e2,e3,Bool.or_false,Bool.and_false,if_neg OH] at B;have HN:=O B;clear B D;go_wp2_with fail
      refine dx (λw'=>w'.cell? (ad.add (q*2))=some (Y X pa)/\w'.cell? ⟨(ad.add (q*2)).block,(ad.add (q*2)).off+1,none⟩=some (Y X pb)/\w'.cell? ⟨I,0,none⟩=some (Y X a)/\w'.cell? ⟨I,1,none⟩=some (Y X b)) 29 [(0,true),(1,true),(2,true),(3,true),(4,true),(5,true),(6,true),(7,true),(8,true),(9,true),(10,true),(11,true),(12,true),(13,true),(14,true),(15,true),(16,true),(17,true),(18,true),(19,true),(20,true),(21,true),(22,true),(23,true),(24,true),(25,true),(26,true),(27,true),(28,true)] (M.out) (λPE C=>?_)
      iterate 29
       refine bh (v:=?_) rfl (by rfl) ?_ ?_
       rotate_left
       ·intro _ j;(try dsimp only at j);obtain⟨u0,u1,u2,u3⟩:=j;go_simp;(try with_reducible rfl)
       simp only[U,V,Z]
      (refine C _ _ ?_;simp only[J,OG];clear C PE)
      go_wp2_with fail
      go_roundg g
      case measure=>omega
      case rel=>exact⟨q+1,by have:=HQ.out;omega,rfl,HN,N⟩
theorem DV (n m:Nat):ak n (m+1)=(if n / 2 ^ m % 2=0 then 48 else 49)::ak n m:=by
 unfold ak;rw[List.range_succ_eq_map,List.map_cons,List.map_map];congr 1;apply List.map_congr_left;intro j B;show (if n / 2 ^ (m+1 - 1 - (j+1)) % 2=0 then _ else _)=_;rw[show m+1 - 1 - (j+1)=m - 1 - j by omega]
theorem sw (n m:Nat)(hn:n<2 ^ 32)(hm:m<=32)(w:World):Calls OE 248 #[Y X (n:Int),Y X (m:Int)] w λe w'=>e=OK (OF (bs (ak n m)))/\Below w.heap.size w w':=by
 have I:∀(W:World)(A:Option Addr)(l:List UInt8)(n c:Nat),Sl W A (l.map ag)->OR l=n->(convert 25 9 (.slice A n c)).run OE W= .ok (OF (bs l)) W:= λW A l n c h hn=>g8 (P:=OE) 25 9 5 (by kernel_rfl) (by kernel_rfl) (by kernel_rfl) h n c hn;have D:=O I;clear I;have av:=O hn
 go_enter Tryz.func248,Tryz.ntmps248
 go_wp2_with fail
 go_loopg [0,5,6] m (λg y t s=> λwx=>∃(q:Nat),q+g=m/\y=Y X ((n / 2 ^ q:Nat):Int)/\t=OF (bs (ak n q))/\s=Y X (q:Int)/\Below w.heap.size w wx)
 case atStart=>exact⟨0,by omega,by simp,by simp[bs,ak],rfl,Below.refl _ _⟩
 case round=>
  obtain⟨q,hq,rfl,rfl,rfl,G⟩:=hrel
  cases gk with
  |zero=>
   obtain rfl:q=m:=by omega
   have aJ:¬((q:Int)<(q:Int)):=(by omega);go_wp2_with fail
   go_ret;exact⟨rfl,G⟩
  |succ g=>
   have aJ:((q:Int)<(m:Int)):=(by omega);have j:=O (DV n q);have M:=bf n q;obtain⟨y,T⟩:∃y,n / 2 ^ q=y:=⟨_,rfl⟩;have N:n / 2 ^ (q+1)=y / 2:=by rw[<-T,Nat.pow_succ,Nat.div_div_eq_div_mul]
   have cI:y<4294967296:=by
    have h1:y<=n:=(by rw[<-T];exact Nat.div_le_self _ _);have:=av.out;omega
   rw[T] at j⊢;have B:=O N;obtain⟨L,hL⟩:∃L,ak n q=L:=⟨_,rfl⟩;rw[hL] at j M⊢;obtain⟨z,C⟩:∃z,y / 2=z:=⟨_,rfl⟩;rw[C] at B;have eE:(y:Int) / 2=(z:Int):=(by omega);have dO:(0:Int)<=(y:Int):=(by omega);have dy:OL.wrap (z:Int)=(z:Int):=(by rw[OD];omega);have HQ:=O hq;have cE:OR L<=32:=(by omega);have dv:OL.wrap ((q:Int)+1)=(q:Int)+1:=(by rw[OD];omega);clear T N hL C hq M
   by_cases C:y % 2=0
   ·have bM:(y:Int) % 2=0:=by omega
    rw[if_pos C] at j;have K:=D.out (wr.alloc (OP #[Y .u8 48] 5)) (some ⟨wr.heap.size,0,none⟩) [48] 1 1 (ab.sl (ab.new wr 5 #[Y .u8 48]) 0) rfl;clear C;go_wp2_with fail
    go_roundg g
    case measure=>omega
    case rel=>exact⟨q+1,by have:=HQ.out;omega,by rw[B.out],by rw[j.out],rfl,G.alloc G.size _⟩
   ·have bM:(y:Int) % 2=1:=by omega
    rw[if_neg C] at j;have K:=D.out (wr.alloc (OP #[Y .u8 49] 5)) (some ⟨wr.heap.size,0,none⟩) [49] 1 1 (ab.sl (ab.new wr 5 #[Y .u8 49]) 0) rfl;clear C;go_wp2_with fail
    go_roundg g
    case measure=>omega
    case rel=>exact⟨q+1,by have:=HQ.out;omega,by rw[B.out],by rw[j.out],rfl,G.alloc G.size _⟩
theorem xZ (a b:Int)(w:World)(hp:dZ (a,b)=true):Calls OE 214 #[OU #[Y X a,Y X b]] w λe w'=>e=OK (OT #[OF (bs (kT (a,b))),Y X 0])/\Below w.heap.size w w':=by
 have M:=O (λW=>su a b hp W);unfold dZ at hp;simp only[OJ,decide_eq_true_eq] at hp;obtain⟨⟨⟨⟨h1,h2⟩,h3⟩,h4⟩,_⟩:=hp;obtain⟨r,rfl⟩:=Int.eq_ofNat_of_zero_le h1;unfold kT;dsimp only at M⊢;rw[OO];obtain⟨u,hu⟩:∃u:Nat,b % 256=(u:Int):=⟨(b % 256).toNat,by omega⟩;have fJ:u<256:=by omega
 rw[hu,OO];have C1:=O (λW=>sw r 6 (by omega) (by decide) W);have C2:=O (λW=>sw u 8 (by omega) (by decide) W);have gj:OL.wrap (b+256)=b+256:=by rw[OD];omega
 have dv:0<=b+256:=by omega
 have bM:(b+256) % 256=(u:Int):=by omega
 have dy:(b+256).tmod 256=(u:Int):=by rw[Int.tmod_eq_emod_of_nonneg dv];exact bM
 have dO:(ak r 6).length=6:=by simp[ak]
 have eE:(ak u 8).length=8:=by simp[ak]
 clear h1 hu
 go_enter Tryz.func214,Tryz.ntmps214
 go_wp2_with (go_at_call 212;refine(M.out _).mono ?_;rintro e w1 ⟨rfl,G⟩;have D:=((ab.new w 189 #[Y X (r:Int),Y X b]).below G (ab.new w 189 #[Y X (r:Int),Y X b]).lt);have y0:=D.cell 0;have y1:=D.cell 1;have cE:=O G;have HL:=O D;clear G D)
 have hA:Below w.heap.size w (w.alloc (OP #[Y X (r:Int),Y X b] 189)):=(Below.refl w.heap.size w).alloc (OM _) _;have av:=(hA.trans (cE.out.mono hA.size)).drew;have N:=O av;clear hA av;refine aP (λw'=>w'.cell? ⟨w.heap.size,0,none⟩=some (Y X (r:Int))/\w'.cell? ⟨w.heap.size,1,none⟩=some (Y X b)) 12 (ON 0 (ON 1 (ON 4 (ON 5 (ON 6 (ON 7 (OS 2 (ON 3 (OS 8 (ON 9 (OS 10 (OS 11 .done)))))))))))) (⟨y0,y1⟩) (λPE aJ=>?_)
 iterate 6
  refine af (v:=?_) rfl (by rfl) ?_ ?_
  rotate_left
  ·intro _ B;(try dsimp only at B);obtain⟨s0,s1⟩:=B;go_simp;(try with_reducible rfl)
  simp only[U,V,Z]
 refine aG (f:=248) (args:= #[Y X (r:Int),Y X 6]) rfl (by rfl) ?_ (C1.out _) (λe w2 hr=>?_)
 ·go_simp
 obtain⟨rfl,I⟩:=hr;have C:ab w2 w.heap.size 189 #[Y X (r:Int),Y X b]:=(HL.out.drew1).below I HL.out.lt;have T:=O (N.out.trans (I.mono N.out.size));refine⟨_,rfl,_,λ_ h=>h,⟨C.cell 0,C.cell 1⟩,?_⟩;simp only[U,V,Z];refine af (v:=?_) rfl (by rfl) ?_ ?_;rotate_left
 ·intro _ B;(try dsimp only at B);go_simp;(try with_reducible rfl)
 simp only[U,V,Z];refine aG (f:=248) (args:= #[Y X (u:Int),Y X 8]) rfl (by rfl) ?_ (C2.out _) (λe w3 hr=>?_)
 ·go_simp
 obtain⟨rfl,K⟩:=hr;have j:ab w3 w.heap.size 189 #[Y X (r:Int),Y X b]:=C.below K C.lt;have cI:=O (T.out.trans (K.mono T.out.size));refine⟨_,rfl,_,λ_ h=>h,⟨j.cell 0,j.cell 1⟩,?_⟩;simp only[U,V,Z];refine af (v:=?_) rfl (by rfl) ?_ ?_;rotate_left
 ·intro _ B;(try dsimp only at B);go_simp;(try with_reducible rfl)
 simp only[U,V,Z];refine aj (v:=?_) (w':=?_) rfl (by rfl) ?_ ?_ ?_;rotate_left 2
 ·go_simp;(try (constructor<;>with_reducible rfl))
 ·exact⟨j.cell 0,j.cell 1⟩
 simp only[U,V,Z];refine aj (v:=?_) (w':=?_) rfl (by rfl) ?_ ?_ ?_;rotate_left 2
 ·go_simp;(try (constructor<;>with_reducible rfl))
 ·exact⟨j.cell 0,j.cell 1⟩
 simp only[U,V,Z];refine aJ _ _ ?_;clear aJ PE;simp only[J,List.drop_nil];clear I K C j y0 y1;go_wp2_with fail
 refine⟨rfl,?_⟩;go_wp2_with fail
 go_ret2;refine⟨?_,cI.out⟩;show Ending.returned (OT #[OF (bs fi++bs (ak r 6)++bs (ak u 8)),Y X 0])=_;rw[eL,eL]
theorem uQ (a b:Int)(first:Bool)(w:World)(hp:dZ (a,b)=true):Calls OE 173 #[OU #[Y X a,Y X b],.bool first] w λe w'=>e=OK (OT #[OF (bs (Cy (a,b) first)),Y X 0])/\Below w.heap.size w w':=by
 have M:=O (λW=>su a b hp W);have CE:=O (λW=>xZ a b W hp)
 have av: -127<=b/\b<=127:=by
  unfold dZ at hp;simp only[OJ,decide_eq_true_eq] at hp;exact⟨hp.1.1.2,hp.1.2⟩
 have CC:=O (λW=>CZ a b av W);have hl:=lH (a,b) (aL false) (rD false);unfold Cy;obtain⟨s,hs⟩:∃s,cA (a,b) (aL false)=s:=⟨_,rfl⟩;rw[hs] at CC hl⊢;obtain⟨ec,bM⟩:∃ec,kT (a,b)=ec:=⟨_,rfl⟩;rw[bM] at CE⊢;clear hp hs bM;dsimp only;have hA:Below w.heap.size w (w.alloc (OP #[Y X a,Y X b] 189)):=(Below.refl w.heap.size w).alloc (OM _) _;have N:=O hA;have T:=O (ab.new w 189 #[Y X a,Y X b]);clear hA av
 by_cases h0:s=[]
 ·subst h0
  rw[if_pos (by rfl)];clear hl
  go_enter OB,OA
  go_wp2_with (first
   |(go_at_call 212;refine(M.out _).mono ?_;rintro e w1 ⟨rfl,j⟩;have hl:=T.out.below j T.out.lt;have y0:=hl.cell 0;have y1:=hl.cell 1;have D:=O (N.out.trans (j.mono N.out.size));have I:=O hl;clear j hl)
   |(go_at_call 213;refine(CC.out _).mono ?_;rintro e w2 ⟨rfl,B⟩;have C:=I.out.below B I.out.lt;have z0:=C.cell 0;have z1:=C.cell 1;have G:=O (D.out.trans (B.mono D.out.size));clear B C)
   |(go_at_call 214;refine(CE.out _).mono ?_;rintro e w3 ⟨rfl,aJ⟩;have cE:=O (G.out.trans (aJ.mono G.out.size));clear aJ))
  go_ret2;exact⟨rfl,cE.out⟩
 ·have e1:(s==[])=false:=by simpa using h0
  have e2:s.isEmpty=false:=(by simpa using h0);rw[if_neg (by rw[e1];decide)];have cI:OR s<=100:=(by omega);clear h0 hl
  by_cases h1:first=true/\s=[49,49]
  ·obtain⟨rfl,rfl⟩:=h1
   rw[if_pos (by rfl)]
   by_cases K:b<0
   ·have d1:decide (b<0)=true:=decide_eq_true K
    rw[if_pos K];clear K
    go_enter OB,OA
    go_wp2_with (first
     |(go_at_call 212;refine(M.out _).mono ?_;rintro e w1 ⟨rfl,j⟩;have hl:=T.out.below j T.out.lt;have y0:=hl.cell 0;have y1:=hl.cell 1;have D:=O (N.out.trans (j.mono N.out.size));have I:=O hl;clear j hl)
     |(go_at_call 213;refine(CC.out _).mono ?_;rintro e w2 ⟨rfl,B⟩;have C:=I.out.below B I.out.lt;have z0:=C.cell 0;have z1:=C.cell 1;have G:=O (D.out.trans (B.mono D.out.size));clear B C))
    go_ret2;refine⟨?_,G.out⟩
    first|rfl|(rw[<-eL];rfl)
   ·have d1:decide (b<0)=false:=decide_eq_false K
    rw[if_neg K];clear K
    go_enter OB,OA
    go_wp2_with (first
     |(go_at_call 212;refine(M.out _).mono ?_;rintro e w1 ⟨rfl,j⟩;have hl:=T.out.below j T.out.lt;have y0:=hl.cell 0;have y1:=hl.cell 1;have D:=O (N.out.trans (j.mono N.out.size));have I:=O hl;clear j hl)
     |(go_at_call 213;refine(CC.out _).mono ?_;rintro e w2 ⟨rfl,B⟩;have C:=I.out.below B I.out.lt;have z0:=C.cell 0;have z1:=C.cell 1;have G:=O (D.out.trans (B.mono D.out.size));clear B C))
    go_ret2;refine⟨?_,G.out⟩
    first|rfl|(rw[<-eL];rfl)
  ·have hc:(first&&s==[49,49])=false:=by
    cases first with
    |false=>rfl
    |true=>simp at h1⊢;exact h1
   rw[hc,if_neg OH]
   cases first with
   |true=>
    have e3:(s==[49,49])=false:=(by simpa using hc);clear hc h1
    by_cases K:b<0
    ·have d1:decide (b<0)=true:=decide_eq_true K
     rw[if_pos K];clear K
     go_enter OB,OA
     go_wp2_with (first
      |(go_at_call 212;refine(M.out _).mono ?_;rintro e w1 ⟨rfl,j⟩;have hl:=T.out.below j T.out.lt;have y0:=hl.cell 0;have y1:=hl.cell 1;have D:=O (N.out.trans (j.mono N.out.size));have I:=O hl;clear j hl)
      |(go_at_call 213;refine(CC.out _).mono ?_;rintro e w2 ⟨rfl,B⟩;have C:=I.out.below B I.out.lt;have z0:=C.cell 0;have z1:=C.cell 1;have G:=O (D.out.trans (B.mono D.out.size));clear B C))
     go_ret2;refine⟨?_,G.out⟩
     first|rfl|(rw[<-eL];rfl)
    ·have d1:decide (b<0)=false:=decide_eq_false K
     rw[if_neg K];clear K
     go_enter OB,OA
     go_wp2_with (first
      |(go_at_call 212;refine(M.out _).mono ?_;rintro e w1 ⟨rfl,j⟩;have hl:=T.out.below j T.out.lt;have y0:=hl.cell 0;have y1:=hl.cell 1;have D:=O (N.out.trans (j.mono N.out.size));have I:=O hl;clear j hl)
      |(go_at_call 213;refine(CC.out _).mono ?_;rintro e w2 ⟨rfl,B⟩;have C:=I.out.below B I.out.lt;have z0:=C.cell 0;have z1:=C.cell 1;have G:=O (D.out.trans (B.mono D.out.size));clear B C))
     go_ret2;refine⟨?_,G.out⟩
     first|rfl|(rw[<-eL];rfl)
   |false=>
    clear hc h1
    by_cases K:b<0
    ·have d1:decide (b<0)=true:=decide_eq_true K
     rw[if_pos K];clear K
     go_enter OB,OA
     go_wp2_with (first
      |(go_at_call 212;refine(M.out _).mono ?_;rintro e w1 ⟨rfl,j⟩;have hl:=T.out.below j T.out.lt;have y0:=hl.cell 0;have y1:=hl.cell 1;have D:=O (N.out.trans (j.mono N.out.size));have I:=O hl;clear j hl)
      |(go_at_call 213;refine(CC.out _).mono ?_;rintro e w2 ⟨rfl,B⟩;have C:=I.out.below B I.out.lt;have z0:=C.cell 0;have z1:=C.cell 1;have G:=O (D.out.trans (B.mono D.out.size));clear B C))
     go_ret2;refine⟨?_,G.out⟩
     first|rfl|(rw[<-eL];rfl)
    ·have d1:decide (b<0)=false:=decide_eq_false K
     rw[if_neg K];clear K
     go_enter OB,OA
     go_wp2_with (first
      |(go_at_call 212;refine(M.out _).mono ?_;rintro e w1 ⟨rfl,j⟩;have hl:=T.out.below j T.out.lt;have y0:=hl.cell 0;have y1:=hl.cell 1;have D:=O (N.out.trans (j.mono N.out.size));have I:=O hl;clear j hl)
      |(go_at_call 213;refine(CC.out _).mono ?_;rintro e w2 ⟨rfl,B⟩;have C:=I.out.below B I.out.lt;have z0:=C.cell 0;have z1:=C.cell 1;have G:=O (D.out.trans (B.mono D.out.size));clear B C))
     go_ret2;refine⟨?_,G.out⟩
     first|rfl|(rw[<-eL];rfl)
end Go.Proofs.YthhijgcfbjcgiaaGreatDoor
