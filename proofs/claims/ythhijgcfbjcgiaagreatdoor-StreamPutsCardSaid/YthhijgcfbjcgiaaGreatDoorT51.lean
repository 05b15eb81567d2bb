/- Open19, Open21, Long21 -/
import Derived.Test.YthhijgcfbjcgiaaGreatDoorT08
import Derived.Test.YthhijgcfbjcgiaaGreatDoorT20
import Derived.Lib.SmallJoins
import Derived.Test.YthhijgcfbjcgiaaGreatDoorT32
import Derived.Test.YthhijgcfbjcgiaaGreatDoorT21
namespace Go.Proofs.YthhijgcfbjcgiaaGreatDoor
section
open Go Go.ChangeShapes Go.WideShapes Go.ChangeAt Go.RowKit Go.Joins
open List renaming length→O,getElem?_eq_getElem→U,getElem?_eq_some_iff→V,drop_succ_cons→X,take_succ_cons→J,drop_zero→OA,take_zero→OB,cons→OD
open Go.Proofs.Tryz renaming prog→Z,underlying3→Y
open Nat renaming mul_comm→OC
section
variable {H:Type} {enc:TypeId×Value->H}
theorem A7 {α:Type}(P:Nat->α->Prop):∀n:Nat,(∀i,i<n->∃o,P i o)->∃os:List α,O os=n/\∀i o,os[i]? =some o->P i o
 |0,_=>⟨[],rfl,λi o h=>by simp at h⟩
 |n+1,h=>by
  obtain⟨os,hl,G⟩:=A7 P n (λi j=>h i (by omega));obtain⟨x,I⟩:=h n (by omega);refine⟨os++[x],by simp[hl],λi o j=>?_⟩
  by_cases C:i<O os
  ·rw[List.getElem?_append_left C] at j
   exact G i o j
  ·rw[List.getElem?_append_right (by omega)] at j
   have B:i - O os=0:=by
    have:=(V.1 j).1;simp at this;omega
   rw[B] at j;have D:x=o:=(by simpa using j);subst D;have:i=n:=(by omega);subst this;exact I
theorem hO {P:Program}{α:Type}(f:α->List Value)(k:Nat)(hk:0<k)(hf:∀p,(f p).length=k) {W:World} (G:α->Prop) {t e:TypeId} (ht:P.underlying t=some (.slice e)) (av:P.cellsOf e=k)
  (elem:∀B cs (y:DataW H×List MemPlace),DataW.trod enc P W 0 (λ_=>true) true B e cs=some y->∃z,cs=f z/\G z) {B:Nat} {cs:List Value} {y:DataW H×List MemPlace} (h:DataW.trod enc P W 0 (λ_=>true) true B t cs=some y):
  ∃(A:Option Addr)(n c:Nat)(zs:List α),cs=[.slice A n c]/\O zs=n/\Sl W A (az f zs)/\∀z∈zs,G z:=by
 rcases DataW.trod_slice (P:=P) (t:=t) ht h with⟨C,_⟩|⟨a,len,N,T,bM,m,_,C,_,_,dv,cI,aJ,I,_,_⟩
 ·exact⟨none,0,0,[],C,rfl,λi v h=>by simp[az] at h,λz h=>by cases h⟩
 ·rw[av] at I
  obtain⟨zs,hl,hz⟩:=A7 (λi (z:α)=>G z/\∀j,j<k->W.cell? (a.add (i*k+j))=(f z)[j]?) len (λi hi=>by
   have K:=I i hi;rw[U (by omega),Option.bind_eq_some_iff] at K;obtain⟨cE,D,hy⟩:=K;obtain⟨z,rfl,hG⟩:=elem _ _ _ hy;have hc:=(World.cells?_some D).2.2;refine⟨z,hG,λj hj=>?_⟩;have q:=hc j hj;rw[ij] at q;exact q)
  refine⟨some a,len,N,zs,C,hl,λi v hv=>?_,λz hm=>?_⟩
  ·have M:=(V.1 hv).1
   rw[yd hf] at M;have hq:i / k<(O zs):=Nat.div_lt_of_lt_mul (by rw[OC];exact M);have hr:i % k<k:=Nat.mod_lt _ hk;have e1:i / k*k+i % k=i:=(by rw[OC];exact Nat.div_add_mod i k);have h1:=iz hf zs (i / k) hq (i % k) hr;rw[e1,hv] at h1;have h2:=(hz (i / k) _ (U hq)).2 (i % k) hr;rw[e1] at h2;have h3:W.cell? (a.add i)=some v:=h2.trans h1.symm;have hb:=World.block_lt_of_cell? W _ h3;rw[dh] at hb;exact⟨a,rfl,hb,h3⟩
  ·obtain⟨i,hi,rfl⟩:=List.getElem_of_mem hm
   exact(hz i _ (U hi)).1
theorem GT {α:Type}{l:List α}(h:O l=2):∃a b,l=[a,b]:=by
 match l,h with
 |[a,b],_=>exact⟨a,b,rfl⟩
theorem GU {α:Type}{l:List α}(h:O l=4):∃a b c d,l=[a,b,c,d]:=by
 match l,h with
 |[a,b,c,d],_=>exact⟨a,b,c,d,rfl⟩
theorem JS {α:Type}{l:List α}(h:O l=7):∃j B C D G I K,l=[j,B,C,D,G,I,K]:=by
 match l,h with
 |[j,B,C,D,G,I,K],_=>exact⟨j,B,C,D,G,I,K,rfl⟩
theorem rE {P:Program}{w:World}{base:Nat}{j:Nat->Bool}{held:Bool}{t:TypeId}{B C:Field}{D:Nat}{cs:List Value}{x:DataW H×List MemPlace}(ht:P.underlying t=some (.struct #[B,C]))(h:DataW.trod enc P w base j held D t cs=some x):
  ∃I K m,O cs=P.cellsOf t/\DataW.trod enc P w base j held m B.type ((cs.drop B.offset).take (P.cellsOf B.type))=some I/\DataW.trod enc P w base j held m C.type ((cs.drop C.offset).take (P.cellsOf C.type))=some K:=by
 obtain⟨xs,n,_,rfl,hl,G,M⟩:=DataW.trod_struct ht h
 match xs,G with
 |[I,K],_=>exact⟨I,K,n,hl,by simpa using M 0 B rfl,by simpa using M 1 C rfl⟩
theorem GK {P:Program}{w:World}{base:Nat}{j:Nat->Bool}{held:Bool}{t:TypeId}{C D G f3 I K M:Field}{N:Nat}{cs:List Value}{x:DataW H×List MemPlace}(ht:P.underlying t=some (.struct #[C,D,G,f3,I,K,M]))(h:DataW.trod enc P w base j held N t cs=some x):
  ∃y0 y1 y2 y3 y4 y5 y6 m,O cs=P.cellsOf t/\DataW.trod enc P w base j held m C.type ((cs.drop C.offset).take (P.cellsOf C.type))=some y0/\DataW.trod enc P w base j held m D.type ((cs.drop D.offset).take (P.cellsOf D.type))=some y1/\DataW.trod enc P w base j held m G.type ((cs.drop G.offset).take (P.cellsOf G.type))=some y2/\DataW.trod enc P w base j held m f3.type ((cs.drop f3.offset).take (P.cellsOf f3.type))=some y3/\DataW.trod enc P w base j held m I.type ((cs.drop I.offset).take (P.cellsOf I.type))=some y4/\DataW.trod enc P w base j held m K.type ((cs.drop K.offset).take (P.cellsOf K.type))=some y5/\DataW.trod enc P w base j held m M.type ((cs.drop M.offset).take (P.cellsOf M.type))=some y6:=by
 obtain⟨xs,n,_,rfl,hl,T,B⟩:=DataW.trod_struct ht h
 match xs,T with
 |[y0,y1,y2,y3,y4,y5,y6],_=>exact⟨y0,y1,y2,y3,y4,y5,y6,n,hl,by simpa using B 0 C rfl,by simpa using B 1 D rfl,by simpa using B 2 G rfl,by simpa using B 3 f3 rfl,by simpa using B 4 I rfl,by simpa using B 5 K rfl,by simpa using B 6 M rfl⟩
theorem xG {W:World}{B:Nat}{cs:List Value}{y:DataW H×List MemPlace}(I:DataW.trod enc Z W 0 (λ_=>true) true B 189 cs=some y):∃z:Int×Int,cs=bd z:=by
 obtain⟨K,M,m,j,C,D⟩:=rE Tryz.underlying189 I;rw[show (Z).cellsOf 189=2 by kernel_rfl] at j;obtain⟨c0,c1,rfl⟩:=GT j;have G:(Z).cellsOf 3=1:=by kernel_rfl
 simp only[G,OA,X,J,OB] at C D;obtain⟨a,q0,_⟩:=DataW.trod_int Y C;obtain⟨b,q1,_⟩:=DataW.trod_int Y D;simp only[OD.injEq,and_true] at q0 q1;exact⟨(a,b),by rw[q0,q1];rfl⟩
theorem vA {W:World}{j:Nat}{cs:List Value}{y:DataW H×List MemPlace}(N:DataW.trod enc Z W 0 (λ_=>true) true j 93 cs=some y):∃z:dB,cs=ia z/\Sl W z.2.1 (az bd z.1.l):=by
 obtain⟨y0,y1,m,C,D,G⟩:=rE Tryz.underlying93 N;rw[show (Z).cellsOf 93=2 by kernel_rfl] at C;obtain⟨c0,c1,rfl⟩:=GT C;have I:(Z).cellsOf 3=1:=by kernel_rfl
 have K:(Z).cellsOf 91=1:=by kernel_rfl
 simp only[I,K,OA,X,J,OB] at D G;obtain⟨a,q0,_⟩:=DataW.trod_int Y D;obtain⟨B,n,c,l,q1,hl,M,_⟩:=hO bd 2 (by decide) pE (λ_=>True) Tryz.underlying91 (by kernel_rfl) (λj cs y h=>by obtain⟨z,T⟩:=xG h;exact⟨z,T,trivial⟩) G;simp only[OD.injEq,and_true] at q0 q1;refine⟨(⟨a,l⟩,B,c),?_,M⟩;rw[q0,q1];show _=[Value.int .i64 a,.slice B (O l) c];rw[hl]
end
end
section
open Go Go.ChangeShapes Go.WideShapes Go.ChangeAt Go.RowKit Go.Joins
open Go.Proofs.Tryz renaming prog→O,underlying3→U,underlying22→OB,underlying49→OC
open List renaming drop_succ_cons→Z,take_succ_cons→V,drop_zero→Y,take_zero→X,cons→J,length→OA
open Go.Value renaming slice→OD
section
variable {H:Type} {enc:TypeId×Value->H}
theorem GJ {P:Program}{w:World}{base:Nat}{j:Nat->Bool}{held:Bool}{t:TypeId}{B C D:Field}{G:Nat}{cs:List Value}{x:DataW H×List MemPlace}(ht:P.underlying t=some (.struct #[B,C,D]))(h:DataW.trod enc P w base j held G t cs=some x):
  ∃M N T m,OA cs=P.cellsOf t/\DataW.trod enc P w base j held m B.type ((cs.drop B.offset).take (P.cellsOf B.type))=some M/\DataW.trod enc P w base j held m C.type ((cs.drop C.offset).take (P.cellsOf C.type))=some N/\DataW.trod enc P w base j held m D.type ((cs.drop D.offset).take (P.cellsOf D.type))=some T:=by
 obtain⟨xs,n,_,rfl,hl,I,K⟩:=DataW.trod_struct ht h
 match xs,I with
 |[M,N,T],_=>exact⟨M,N,T,n,hl,by simpa using K 0 B rfl,by simpa using K 1 C rfl,by simpa using K 2 D rfl⟩
theorem oR {W:World}{j:Nat}{cs:List Value}{y:DataW H×List MemPlace}(C:DataW.trod enc O W 0 (λ_=>true) true j 25 cs=some y):∃(A:Option Addr)(c:Nat)(l:List UInt8),cs=[OD A (OA l) c]/\Sl W A (l.map ag):=by
 obtain⟨A,n,c,l,q,hl,B,_⟩:=hO (λb=>[ag b]) 1 (by decide) (λ_=>rfl) (λ_=>True) Tryz.underlying25 (by kernel_rfl) (λj cs y h=>by
  obtain⟨n,q0,_,D⟩:=DataW.trod_int Tryz.underlying5 h
  have G:0<=n/\n<256:=by
   simp[Lit.wf,IntKind.min,IntKind.max,IntKind.bits,IntKind.signed] at D;omega
  refine⟨UInt8.ofNat n.toNat,?_,trivial⟩;rw[q0];simp[ag];omega) C
 refine⟨A,c,l,by rw[q,hl],?_⟩;rw[Kh];exact B
theorem zq {P:Program}{W:World}{t e:TypeId}(ht:P.underlying t=some (.slice e)){B:Nat}{A:Option Addr}{n c:Nat}{y:DataW H×List MemPlace}(h:DataW.trod enc P W 0 (λ_=>true) true B t [OD A n c]=some y):n<=9223372036854775807:=by
 rcases DataW.trod_slice (P:=P) (t:=t) ht h with⟨j,_⟩|⟨a,len,I,C,G,m,_,j,_,_,M,D,_⟩
 ·have K:=(Value.slice.inj (J.inj j).1).2.1
  omega
 ·have K:=(Value.slice.inj (J.inj j).1).2.1
  unfold maxLen at D;omega
def wl (s:a8):Prop:=∀g∈s.gs,OA g.ms<=9223372036854775807
theorem vL {W:World}{j:Nat}{cs:List Value}{y:DataW H×List MemPlace}(hf:DataW.trod enc O W 0 (λ_=>true) true j 55 cs=some y):∃z:ei,cs=eX z/\lk W z:=by
 obtain⟨y0,y1,y2,y3,y4,y5,y6,m,B,C,D,h2,G,I,K,M⟩:=GK Tryz.underlying55 hf;rw[show (O).cellsOf 55=7 by kernel_rfl] at B;obtain⟨c0,c1,c2,c3,c4,c5,c6,rfl⟩:=JS B;have e1:(O).cellsOf 3=1:=by kernel_rfl
 have e2:(O).cellsOf 53=1:=by kernel_rfl
 simp only[e1,e2,Y,Z,V,X] at C D h2 G I K M;obtain⟨a,q0,_⟩:=DataW.trod_int U C;obtain⟨b,q1,_⟩:=DataW.trod_int U D;obtain⟨e,N,_⟩:=DataW.trod_int U h2;obtain⟨f,T,_⟩:=DataW.trod_int U G;obtain⟨g,q4,_⟩:=DataW.trod_int U I;obtain⟨i,q5,_⟩:=DataW.trod_int U K;obtain⟨A,n,c,xs,q6,hl,hS,hb⟩:=hO ia 2 (by decide) th (λz=>Sl W z.2.1 (az bd z.1.l)) Tryz.underlying53 (by kernel_rfl) (λj cs y h=>vA h) M;simp only[J.injEq,and_true] at q0 q1 N T q4 q5 q6;refine⟨⟨⟨a,b,e,f,g,i,xs.map (·.1)⟩,xs,A,c⟩,?_,⟨rfl,hS,hb⟩⟩;rw[q0,q1,N,T,q4,q5,q6,<-hl];rfl
theorem vD {W:World}{j:Nat}{cs:List Value}{y:DataW H×List MemPlace}(hf:DataW.trod enc O W 0 (λ_=>true) true j 51 cs=some y):∃z:cQ,cs=fV z/\km W z/\OA z.ms<=9223372036854775807:=by
 obtain⟨y0,y1,y2,y3,m,hx,B,K,M,h2,D⟩:=trod_struct4 Tryz.underlying51 hf;rw[show (O).cellsOf 51=4 by kernel_rfl] at B;obtain⟨c0,c1,c2,c3,rfl⟩:=GU B;have T:(O).cellsOf 3=1:=by kernel_rfl
 have e2:(O).cellsOf 25=1:=by kernel_rfl
 have e3:(O).cellsOf 49=1:=by kernel_rfl
 simp only[T,e2,e3,Y,Z,V,X] at K M h2 D;obtain⟨a,q0,_⟩:=DataW.trod_int U K;obtain⟨b,q1,_⟩:=DataW.trod_int U M;obtain⟨sA,sc,sp,N,G⟩:=oR h2;obtain⟨A,n,c,xs,I,hl,hS,hb⟩:=hO eX 7 (by decide) xy (λz=>lk W z) OC (by kernel_rfl) (λj cs y h=>vL h) D;rw[I] at D;have C:=zq OC D;simp only[J.injEq,and_true] at q0 q1 N I;refine⟨⟨a,b,sp,sA,sc,xs,A,c⟩,?_,⟨G,hS,hb⟩,by rw[<-hl] at C;exact C⟩;rw[q0,q1,N,I,<-hl];rfl
theorem yl {W:World}{j:Nat}{cs:List Value}{y:DataW H×List MemPlace}(hf:DataW.trod enc O W 0 (λ_=>true) true j 35 cs=some y):∃z:a8,cs=eu z/\fo W z/\wl z:=by
 obtain⟨y0,y1,m,B,M,N⟩:=rE Tryz.underlying35 hf;rw[show (O).cellsOf 35=4 by kernel_rfl] at B;obtain⟨c0,c1,c2,c3,rfl⟩:=GU B;have e1:(O).cellsOf 3=1:=by kernel_rfl
 have e2:(O).cellsOf 25=1:=by kernel_rfl
 have e3:(O).cellsOf 32=3:=by kernel_rfl
 have e4:(O).cellsOf 33=1:=by kernel_rfl
 simp only[e3,e4,Y,Z,V,X] at M N;obtain⟨z0,z1,z2,k,_,G,I,K⟩:=GJ Tryz.underlying32 M;simp only[e1,e2,Y,Z,V,X] at G I K;obtain⟨a,q0,_⟩:=DataW.trod_int U G;obtain⟨b,q1,_⟩:=DataW.trod_int U I;obtain⟨sA,sc,sp,q2,D⟩:=oR K;obtain⟨A,n,c,xs,q3,hl,hS,T⟩:=hO fV 4 (by decide) xd (λz=>km W z/\OA z.ms<=9223372036854775807) Tryz.underlying33 (by kernel_rfl) (λj cs y h=>vD h) N;simp only[J.injEq,and_true] at q0 q1 q2 q3;refine⟨⟨a,b,sp,sA,sc,xs,A,c⟩,?_,⟨D,hS,λg C=>(T g C).1⟩,λg C=>(T g C).2⟩;rw[q0,q1,q2,q3,<-hl];rfl
set_option maxRecDepth 100000 in
theorem Ci {W:World}{r:Reach}{K:Nat}{v:Value}{d:DataW H}{T:List MemPlace}(C:Value.okWide O W r K 22 v)(h:DataW.Trod enc O W 0 (λ_=>true) true 22 v d T):∃(A:Option Addr)(c:Nat)(G:List a8),v=OD A (OA G) c/\eV W A G/\∀s∈G,wl s:=by
 obtain⟨a0,len,j,rfl⟩:=okWide_slice (P:=O) (t:=22) OB C;obtain⟨B,N⟩:=h;obtain⟨A,n,c,xs,q,hl,M,I⟩:=hO eu 4 (by decide) yj (λz=>fo W z/\wl z) OB (by kernel_rfl) (λB cs y h=>yl h) N;have e:Value.slice a0 len j=OD A n c:=by simpa [Value.cells] using q
 cases e
 exact⟨a0,j,xs,by rw[hl],⟨M,λs D=>(I s D).1⟩,λs D=>(I s D).2⟩
end
end
open Go Go.RowKit
attribute [local go_sem] Oper.semAt_some
open Go.Lib renaming hid→O
open List renaming length→U,getElem_mem→OA
open Go.Value renaming slice→Z,int→Y
open Go.IntKind renaming i64→V,wrap_i64→J,i64→OB
open Nat renaming lt_or_ge→OC
theorem rf {α:Type}{P:α->Prop}{l:List α}{j:Nat}(h:∀k (B:k<U l),k<j->P l[k]) (G:j<U l) (C:P l[j]):∀k (B:k<U l),k<j+1->P l[k]:= λk B D=>by
 rcases OC k j with h2|h2
 ·exact h k B h2
 ·obtain rfl:k=j:=by omega
  exact C
theorem tg {α:Type}{P:α->Prop}{l:List α}{j:Nat}(h:∀k (B:k<U l),k<j->P l[k]) (D:U l<=j):∀x∈l,P x:= λx C=>by
 obtain⟨k,B,rfl⟩:=List.getElem_of_mem C;exact h k B (by omega)
def JJ (n:Nat) (j:List a8) (w:World) (e:Ending) (w':World):Prop:=(∃b,e=.returned (.bool b)/\(b=false->n<=4->∀s∈j,eF s)/\(b=false->4<n->100<n/\∀k (B:k<U j),k<4->eF j[k]))/\Below w.heap.size w w'
set_option maxRecDepth 100000 in
set_option maxHeartbeats 16000000 in
theorem zo (ss:List a8)(A:Option Addr)(n c:Nat)(w:World)(hn:U ss=n)(KO:eV w A ss)(hL:∀s∈ss,wl s):Calls Tryz.prog 10 #[Z A n c] w (JJ n ss w):=by
 have HN:=O hn;have kU:=O KO;have HL:=O hL;clear hn KO hL
 go_enter Tryz.func10,Tryz.ntmps10
 go_wp2_with fail
 go_loopg [3,4] 5 (λgk m i=> λwr=>∃(j:Nat)(M:Int),j+gk=5/\j<=n/\i=Y V (j:Int)/\m=Y V M/\Hid (∀k (hk:k<U ss),k<j->eF ss[k])/\Hid (Below w.heap.size w wr))
 case atStart=>exact⟨0,0,by omega,by omega,rfl,rfl,O (λk hk h=>by omega),O (Below.refl _ _)⟩
 case round=>
  obtain⟨j,M,hj,Ky,rfl,rfl,HJ,HB⟩:=hrel
  cases gk with
  |zero=>
   have KT:¬((j:Int)<5):=(by omega);have HH:=O (show 5<=n by omega);have dv:=O (show j=5 by omega);have HQ:Hid (decide ((n:Int)<=100)=false->100<n):=O (λh=>by simp at h;omega)
   cases h4:decide ((4:Int)<(n:Int)) with
   |false=>simp at h4;omega
   |true=>
    cases kA:decide ((n:Int)<=100) with
    |_=>
     clear hj Ky;rcases OC j n with av|Kt
     ·have KA:((j:Int)<(n:Int)):=by omega
      go_wp2_with fail
      go_ret;exact⟨⟨_,rfl,(λ_ h=>by have:=HH.out;omega),λhb _=>⟨by first|(cases hb;done)|exact HQ.out kA|exact HQ.out rfl|(simp at hb;done),λk hk h4=>HJ.out k hk (by have:=dv.out;omega)⟩⟩,HB.out⟩
     ·have KA:¬((j:Int)<(n:Int)):=by omega
      go_wp2_with fail
      go_ret;exact⟨⟨_,rfl,(λ_ h=>by have:=HH.out;omega),λhb _=>⟨by first|(cases hb;done)|exact HQ.out kA|exact HQ.out rfl|(simp at hb;done),λk hk h4=>HJ.out k hk (by have:=dv.out;omega)⟩⟩,HB.out⟩
  |succ og=>
   have KT:((j:Int)<5):=(by omega);rcases OC j n with av|Kt
   case inr=>
    have KA:¬((j:Int)<(n:Int)):=(by omega);have KL:=O (tg HJ.out (by rw[HN.out];exact Kt));have h4:¬((4:Int)<(n:Int)):=(by omega);clear hj Ky Kt;go_wp2_with fail
    go_ret;exact⟨⟨_,rfl,(λ_ _=>KL.out),λ_ h=>absurd h (by omega)⟩,HB.out⟩
   have KA:((j:Int)<(n:Int)):=(by omega);have Lf:¬((j:Int)<0):=(by omega);have eE:j<(U ss):=(by rw[HN.out];exact av);obtain⟨ad,rfl,_,c0,c1,c2,c3⟩:=iC (kU.out.row.below HB.out) j eE;have Lh:OB.wrap ((j:Int)+1)=(j:Int)+1:=(by rw[J];omega);have B:=OA eE;have jY:=O (λh=>rf HJ.out eE h);obtain⟨S,K8⟩:∃S,ss[j]=S:=⟨_,rfl⟩;rw[K8] at B c0 c1 c2 c3 jY
   have Hu:Hid (∀W,Below w.heap.size w W->W.cell? ⟨(ad.add (j*4)).block,(ad.add (j*4)).off+3,none⟩=some (Z S.A (U S.gs) S.c)):=O λW hb=>by
    obtain⟨Lg,e,_,_,_,_,d3⟩:=iC (kU.out.row.below hb) j eE
    cases e
    rw[K8] at d3;exact d3
   have Le:=kU.out.sh _ B;have jg:=HL.out _ B;obtain⟨tm,ty,sp,sA,sc,gs,gA,gc⟩:=S;obtain⟨_,I,dy⟩:=Le;dsimp only at c0 c1 c2 c3 I dy Hu;have jg:∀g∈gs,U g.ms<=9223372036854775807:=jg;have K0:=O I;have KG:=O dy;have L7:=O jg;have dv:=O (And.intro hj av);obtain⟨sk,KC⟩:∃k,U sp=k:=⟨_,rfl⟩;obtain⟨gn,Kv⟩:∃k,U gs=k:=⟨_,rfl⟩;have L6:=O KC;have JT:=O Kv;rw[KC] at c2;rw[Kv] at c3 Hu;clear B K8 eE hj Ky av I dy jg KC Kv HJ
   cases KM:decide ((14:Int)<(gn:Int)) with
   |true=>
    go_wp2_with fail
    go_ret;exact⟨⟨_,rfl,(λh=>by cases h),(λh=>by cases h)⟩,HB.out⟩
   |false=>
   cases KN:decide ((60:Int)<(sk:Int)) with
   |true=>
    go_wp2_with fail
    go_ret;exact⟨⟨_,rfl,(λh=>by cases h),(λh=>by cases h)⟩,HB.out⟩
   |false=>
   have KD:=O (show gn<=14 by simp at KM;omega);have KZ:=O (show sk<=60 by simp at KN;omega);go_wp2_with fail
   clear c0 c1 c2 c3 KM KN
   go_loopg [3,5] gn (λgk m i=> λwr=>∃(j2:Nat)(M:Int),j2+gk=gn/\i=Y V (j2:Int)/\m=Y V M/\Hid (∀k (hk:k<U gs),k<j2->ra gs[k])/\Hid (Below w.heap.size w wr))
   case atStart=>exact⟨0,M,by omega,rfl,rfl,O (λk hk h=>by omega),HB⟩
   case round=>
    obtain⟨j2,M,Kw,rfl,rfl,K3,HB⟩:=hrel;have z3:=Hu.out _ HB.out
    cases gk with
    |zero=>
     have KU:¬((j2:Int)<(gn:Int)):=(by omega);have D:Hid (∀k (hk:k<U ss),k<j+1->eF ss[k]):=O (jY.out ⟨by dsimp only;have:=KZ.out;have:=L6.out;omega,by dsimp only;have:=KD.out;have:=JT.out;omega,tg K3.out (by dsimp only;rw[JT.out];omega)⟩);clear Kw;go_wp2_with fail
     go_roundg og
     case measure=>omega
     case rel=>exact⟨j+1,M,by have:=dv.out.1;omega,by have:=dv.out.2;omega,rfl,rfl,D,HB⟩
    |succ mg=>
     have KU:((j2:Int)<(gn:Int)):=(by omega);have Lc:¬((j2:Int)<0):=(by omega);have N:j2<(U gs):=(by rw[JT.out];omega);obtain⟨a2,rfl,_,d0,d1,d2,d3⟩:=jM (K0.out.below HB.out) j2 N;have Li:OB.wrap ((j2:Int)+1)=(j2:Int)+1:=(by have:=KD.out;rw[J];omega);have B:=OA N;have cE:=O (λh=>rf K3.out N h);obtain⟨G,hG⟩:∃G,gs[j2]=G:=⟨_,rfl⟩;rw[hG] at B d0 d1 d2 d3 cE;have Lb:=KG.out _ B;have Ku:=L7.out _ B;obtain⟨num,qu,L8,gj,iP,ms,mA,mc⟩:=G;obtain⟨_,K,fJ⟩:=Lb;dsimp only at d0 d1 d2 d3 K fJ Ku;have K6:=O K;have KK:=O fJ;have KI:=O Kw;have KH:=O Ku;obtain⟨aJ,dO⟩:∃k,U L8=k:=⟨_,rfl⟩;obtain⟨mn,KB⟩:∃k,U ms=k:=⟨_,rfl⟩;have L5:=O dO;have K5:=O KB;rw[dO] at d2;rw[KB] at d3;obtain⟨M2,L9⟩:∃M2,OB.wrap (M+(mn:Int))=M2:=⟨_,rfl⟩;have KR:=HB.out.alloc HB.out.size (.cells #[Y V num,Y V qu,Z gj aJ iP,Z mA mn mc] 51);obtain⟨g6,La⟩:∃g,wr.heap.size=g:=⟨_,rfl⟩;have KQ:ab (wr.alloc (.cells #[Y V num,Y V qu,Z gj aJ iP,Z mA mn mc] 51)) g6 51 #[Y V num,Y V qu,Z gj aJ iP,Z mA mn mc]:=aE (ab.new _ _ _) La;have L0:=O KQ;have Hl:=O KR;clear B hG N Kw K fJ Ku dO KB KR KQ K3
     cases KY:decide ((60:Int)<(aJ:Int)) with
     |true=>
      go_wp2_with fail
      go_ret;exact⟨⟨_,rfl,(λh=>by cases h),(λh=>by cases h)⟩,Hl.out⟩
     |false=>
     cases KX:decide ((120:Int)<M2) with
     |true=>
      go_wp2_with fail
      go_ret;exact⟨⟨_,rfl,(λh=>by cases h),(λh=>by cases h)⟩,Hl.out⟩
     |false=>
     have KF:=O (show aJ<=60 by simp at KY;omega);go_wp2_with fail
     clear d0 d1 d2 d3 z3 KY KX L9
     go_loopg [7] mn (λgk i=> λwr=>∃(j3:Nat),j3+gk=mn/\i=Y V (j3:Int)/\Hid (∀k (hk:k<U ms),k<j3->wi ms[k])/\Hid (Below w.heap.size w wr)/\Hid (ab wr g6 51 #[Y V num,Y V qu,Z gj aJ iP,Z mA mn mc]))
     case atStart=>exact⟨0,by omega,rfl,O (λk hk h=>by omega),Hl,L0⟩
     case round=>
      obtain⟨j3,Kx,rfl,K4,C,Ht⟩:=hrel;have z3:=Ht.out.cell 3;(try dsimp only at z3)
      cases gk with
      |zero=>
       have KV:¬((j3:Int)<(mn:Int)):=(by omega);have D:Hid (∀k (hk:k<U gs),k<j2+1->ra gs[k]):=O (cE.out ⟨by dsimp only;have:=KF.out;have:=L5.out;omega,by dsimp only;exact KH.out,tg K4.out (by dsimp only;rw[K5.out];omega)⟩);clear Kx;go_wp2_with fail
       go_roundg mg
       case measure=>omega
       case rel=>exact⟨j2+1,M2,by have:=KI.out;omega,rfl,rfl,D,C⟩
      |succ ig=>
       have KV:((j3:Int)<(mn:Int)):=(by omega);have Ld:¬((j3:Int)<0):=(by omega);have T:j3<(U ms):=(by rw[K5.out];omega);obtain⟨a3,rfl,_,e0,e1,e2,e3,e4,e5,e6⟩:=iB (K6.out.below C.out) j3 T;have Lj:OB.wrap ((j3:Int)+1)=(j3:Int)+1:=(by have:=KH.out;have:=K5.out;rw[J];omega);have B:=OA T;have cI:=O (λh=>rf K4.out T h);obtain⟨X,hX⟩:∃X,ms[j3]=X:=⟨_,rfl⟩;rw[hX] at B e0 e1 e2 e3 e4 e5 e6 cI;have KW:=KK.out _ B;obtain⟨m,xs,xA,xc⟩:=X;dsimp only at e0 e1 e2 e3 e4 e5 e6;have CH:=O (λW (hb:Below w.heap.size w W)=>Cd m xs xA xc W (KW.row.below hb));unfold dU at CH;have KJ:=O Kx;obtain⟨bb,K9⟩:∃bb,lB xs=bb:=⟨_,rfl⟩;rw[K9] at CH;have L4:=O K9;clear B hX T Kx KW K9 K4
       cases bb with
       |true=>
        go_wp2_with (go_at_call 29;refine(CH.out _ C.out).mono ?_;rintro e w7 ⟨rfl,bM⟩;have rG:=O (C.out.trans (bM.mono C.out.size));clear bM)
        go_ret;exact⟨⟨_,rfl,(λh=>by cases h),(λh=>by cases h)⟩,rG.out⟩
       |false=>
        have Kz:=FZ L4.out;have D:Hid (∀k (hk:k<U ms),k<j3+1->wi ms[k]):=O (cI.out ⟨by dsimp only;have:=Kz.1;omega,λb hb=>by have:=Kz.2 b hb;omega⟩);clear Kz;go_wp2_with (go_at_call 29;refine(CH.out _ C.out).mono ?_;rintro e w7 ⟨rfl,bM⟩;have rG:=O (C.out.trans (bM.mono C.out.size));have KE:=O (Ht.out.below bM Ht.out.lt);clear bM)
        go_roundg ig
        case measure=>omega
        case rel=>exact⟨j3+1,by have:=KJ.out;omega,rfl,D,rG,KE⟩
end Go.Proofs.YthhijgcfbjcgiaaGreatDoor
