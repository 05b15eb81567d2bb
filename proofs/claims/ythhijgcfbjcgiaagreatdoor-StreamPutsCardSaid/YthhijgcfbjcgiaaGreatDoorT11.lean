/- Ref05, Ref06, Ref07 -/
import Derived.Test.YthhijgcfbjcgiaaGreatDoorT10
import Derived.Test.YthhijgcfbjcgiaaGreatDoorT07
import Derived.Test.YthhijgcfbjcgiaaGreatDoorT02
namespace Go.Proofs.YthhijgcfbjcgiaaGreatDoor
open Go Go.RowKit
set_option maxHeartbeats 16000000
set_option maxRecDepth 100000
open Go.Lib renaming hid→O
open Go.Value renaming int→U,bool→OG,string→OJ,tuple→OK,slice→OP,pointer→OV
open Go.IntKind renaming i64→Z,wrap_i64→V,i64→OB
open Tryz renaming prog→J,ntmps170→OD,func170→OF,results78→OL,ntmps132→OM,func132→ON,ntmps78→OO,func78→OQ,ntmps169→OT,func169→OU
open Go.Ending renaming returned→OA
open Nat renaming le_refl→OC
open List renaming length→OE,drop_eq_getElem_cons→OI,getElem_map→OR
open Bool renaming false_and→OH
open Go.Obj renaming cells→OS
def jE (cs:List (List UInt8)) (ns:List Int) (d:Int):List UInt8×Int:=match cK cs ns d with
 |some c=>(c,0)
 |none=>([],18)
theorem uO (b m:Nat)(cs:List (List UInt8))(ns:List Int)(d:Int)(w:World)(hT:oZ w b m cs ns)(hm:OE cs=m)(T:OE ns=m)(dy:m<=300):
  Calls J 168 #[OV (some ⟨b,0,none⟩),U Z d] w λe w'=>e=OA (OK #[OJ (bs (jE cs ns d).1),U Z (jE cs ns d).2])/\w=w':=by
 obtain⟨X,Y,x,y,hB,hX,hY⟩:=hT;obtain⟨R,hR⟩:∃R,jE cs ns d=R:=⟨_,rfl⟩;rw[hR];have cI:w.cell? ⟨b,0,none⟩=some (OP X m x):=by rw[hB.cell];rfl
 have dv:w.cell? ⟨b,1,none⟩=some (OP Y m y):=by rw[hB.cell];rfl
 have HR:=O hR;have Hm:=O hm;have aJ:=O T;have HX:=O hX;have HY:=O hY
 have D:∀q (B:q<OE cs)(C:q<OE ns),cK (cs.drop q) (ns.drop q) d=cK cs ns d->(if d=ns[q] then some cs[q] else cK (cs.drop (q+1)) (ns.drop (q+1)) d)=cK cs ns d:= λq B C h=>by
  rw[OI B,OI C,cK] at h;exact h
 have M:=O D;clear hR hm T hX hY hB D
 go_enter Tryz.func168,Tryz.ntmps168
 go_wp2_with fail
 go_loopg [6] m (λg t=> λwx=>∃(q:Nat),q+g=m/\t=U Z (q:Int)/\Hid (cK (cs.drop q) (ns.drop q) d=cK cs ns d)/\w=wx)
 case atStart=>exact⟨0,by omega,rfl,O rfl,rfl⟩
 case round=>
  obtain⟨q,hq,rfl,HF,rfl⟩:=hrel
  cases gk with
  |succ g=>
   have cE:((q:Int)<(m:Int)):=(by omega);have B:q<(OE cs):=(by rw[Hm.out];omega);have C:q<(OE ns):=(by rw[aJ.out];omega);obtain⟨ad,rfl,_,I⟩:=HX.out.at_ q (by simpa using B);rw[OR] at I;unfold aR at I;obtain⟨ae,rfl,_,bM⟩:=HY.out.int q C;have j:=M.out q B C HF.out;generalize cs[q]=cq at I j;generalize ns[q]=nq at bM j
   by_cases K:nq=d
   ·rw[if_pos K.symm] at j
    have G:=O j;clear j;have hd:(nq==d)=true:=(by simpa using K);clear K;go_wp2_with fail
    go_ret2;refine⟨?_,rfl⟩;rw[<-HR.out,jE,<-G.out];rfl
   ·rw[if_neg (λh=>K h.symm)] at j
    have G:=O j;clear j;have hd:(nq==d)=false:=(by simpa using K);clear K;go_wp2_with fail
    go_roundg g
    case measure=>omega
    case rel=>exact⟨q+1,by omega,rfl,G,rfl⟩
  |zero=>
   have cE:¬((q:Int)<(m:Int)):=by omega
   have N:cK cs ns d=none:=by
    rw[<-HF.out,List.drop_eq_nil_of_le (by rw[Hm.out];omega),cK.eq_def]
   have av:=O N;clear N HF;go_wp2_with fail
   go_ret2;refine⟨?_,rfl⟩;rw[<-HR.out,jE,av.out];rfl
theorem zG (w:World):Calls J 210 #[] w λe w'=>(∃A,e=OA (OP A 10 10)/\Sl w' A (aD.map aR))/\Below w.heap.size w w':=by
 go_enter Tryz.func210,Tryz.ntmps210
 go_wp2_with fail
 go_ret;exact⟨⟨_,rfl,ab.sl (ab.new w 9 (aD.map aR).toArray) 0⟩,(Below.refl _ _).alloc (OC _) _⟩
def DB (m:Nat) (cs:List (List UInt8)) (ns:List Int) (w:World) (e:Ending) (w':World):Prop:=∃b,e=OA (OV (some ⟨b,0,none⟩))/\oZ w' b m cs ns/\Below w.heap.size w w'
theorem CV (w:World):Calls J 167 #[] w (DB 10 aD aN w):=by
 go_enter Tryz.func167,Tryz.ntmps167
 go_wp2_with fail
 refine(zG w).mono ?_;rintro e K ⟨⟨X,rfl,hX⟩,B⟩;have I:=O B;have M:=O hX;clear B hX;have MK:=O (λ(Y:Option Addr) (y:Nat) (W:World) (h1:Sl W X (aD.map aR)) (h2:Sl W Y (aN.map aH))=>sq X Y 10 10 y aD aN W h1 h2 rfl rfl (by decide) (by decide) (by kernel_rfl) (by kernel_rfl));have hY:Sl (K.alloc (OS (aN.map aH).toArray 3)) (some ⟨K.heap.size,0,none⟩) (aN.map aH):=ab.sl (ab.new K 3 (aN.map aH).toArray) 0;have N:=O hY;clear hY;have C:=I.out.alloc I.out.size (OS (aN.map aH).toArray 3);have G:=O C;have j:=O (M.out.alloc (OS (aN.map aH).toArray 3));clear M I C;have T:(aN.map aH).toArray= #[U Z 1,U Z 2,U Z 3,U Z 4,U Z 5,U Z 6,U Z 7,U Z 8,U Z 9,U Z 10]:=by kernel_rfl
 rw[T] at N j G;clear T;go_wp2_with fail
 refine(MK.out _ _ _ j.out N.out).mono ?_;rintro e w3 ⟨b,rfl,hT,D⟩;have HT:=O hT;have B3:=O (G.out.trans (D.mono G.out.size));clear hT D G;go_wp2_with fail
 go_ret;exact⟨b,rfl,HT.out,B3.out⟩
theorem EB (d:Int)(w:World):
  Calls J 117 #[U Z d] w λe w'=>e=OA (OK #[OJ (bs (jE aD aN d).1),U Z (jE aD aN d).2])/\Below w.heap.size w w':=by
 have B:=O (λ(b:Nat) (W:World) (h:oZ W b 10 aD aN)=>uO b 10 aD aN d W h rfl rfl (by decide));generalize jE aD aN d=R at B⊢;obtain⟨K,M⟩:=R
 go_enter Tryz.func117,Tryz.ntmps117
 go_wp2_with fail
 refine(CV w).mono ?_;rintro e I ⟨b,rfl,C,j⟩;have D:=O j;have G:=O C;clear j C;go_wp2_with fail
 refine(B.out b I G.out).mono ?_;rintro e N ⟨rfl,rfl⟩;go_wp2_with fail
 go_ret2;exact⟨rfl,D.out⟩
def rx (k:Int):List Value:=[OG (pI k),OG (pQ k),OG (pV k),OG (pF k),OG (pC k)]
theorem xT {k:Int}(h:k<1\/10<k):rx k=[OG false,OG false,OG false,OG false,OG false]:=by
 have j:pI k=false:=by unfold pI;simp;omega
 have B:pQ k=false:=by unfold pQ;simp;omega
 have C:pV k=false:=by unfold pV;simp;omega
 have D:pF k=false:=by unfold pF;simp;omega
 have G:pC k=false:=by unfold pC;simp;omega
 unfold rx;rw[j,B,C,D,G]
def lY (k:Int) (w:World) (e:Ending) (w':World):Prop:=e=OA (OK #[.agg (rx k).toArray,U Z (if eT k then 0 else 18)])/\Below w.heap.size w w'
theorem ox (k:Int)(w:World):Calls J 78 #[U Z k] w (lY k w):=by
 by_cases j:k<1
 ·have q0:decide (k<1)=true:=by simpa using j
  unfold lY;rw[xT (.inl j),show eT k=false by unfold eT;simp;omega]
  go_enter OQ,OO
  go_wp2_with fail
  refine bodyPost_ret (by simp[results,OL,go_sem];try rfl) rfl ?_;exact⟨rfl,(Below.refl _ _).alloc (OC _) _⟩
 by_cases B:10<k
 ·have q0:decide (k<1)=false:=by simpa using j
  have q1:decide (10<k)=true:=(by simpa using B);unfold lY;rw[xT (.inr B),show eT k=false by unfold eT;simp;omega]
  go_enter OQ,OO
  go_wp2_with fail
  refine bodyPost_ret (by simp[results,OL,go_sem];try rfl) rfl ?_;exact⟨rfl,(Below.refl _ _).alloc (OC _) _⟩
 have C:k=1\/k=2\/k=3\/k=4\/k=5\/k=6\/k=7\/k=8\/k=9\/k=10:=by omega
 clear j B;rcases C with rfl|rfl|rfl|rfl|rfl|rfl|rfl|rfl|rfl|rfl
 all_goals
  go_enter OQ,OO
  go_wp2_with fail
  refine bodyPost_ret (by simp[results,OL,go_sem];try rfl) rfl ?_
  exact⟨rfl,((Below.refl _ _).alloc (OC _) _).alloc (by simp) _⟩
theorem zH (w:World):Calls J 171 #[] w λe w'=>(∃A,e=OA (OP A 32 32)/\Sl w' A (ao.map aR))/\Below w.heap.size w w':=by
 go_enter Tryz.func171,Tryz.ntmps171
 go_wp2_with fail
 go_ret;exact⟨⟨_,rfl,ab.sl (ab.new w 9 (ao.map aR).toArray) 0⟩,(Below.refl _ _).alloc (OC _) _⟩
def DY (lo:Int) (j:Nat):List Int:=(List.range j).map λ(k:Nat)=>(k:Int)+lo
theorem FK (lo:Int)(j:Nat):(DY lo (j+1)).map aH=(DY lo j).map aH++[aH ((j:Int)+lo)]:=by simp[DY,List.range_succ]
theorem uP (d:Int)(w:World)(N: -16<=d)(h2:d<=15):
  Calls J 120 #[U Z d] w λe w'=>e=OA (OK #[OJ (bs (cf d)),U Z 0])/\Below w.heap.size w w':=by
 have q0:decide (d< -16)=false:=by simp;omega
 have q1:decide (15<d)=false:=by simp;omega
 obtain⟨k,K⟩:∃k:Nat,d+16=(k:Int):=⟨(d+16).toNat,by omega⟩;have j:k<(OE ao):=by rw[show (OE ao)=32 from rfl];omega
 have D:cf d=ao[k]:=by
  unfold cf eh;rw[if_neg (by omega),show (d - -16).toNat=k by omega,List.getElem?_eq_getElem j];rfl
 have T:OB.wrap (d+16)=(k:Int):=by rw[V];omega
 have B:=O j;rw[D];clear D K
 go_enter Tryz.func120,Tryz.ntmps120
 go_wp2_with fail
 refine(zH w).mono ?_;rintro e w1 ⟨⟨A,rfl,G⟩,I⟩;obtain⟨ad,rfl,_,C⟩:=G.at_ k (by rw[List.length_map];exact B.out);rw[OR] at C;unfold aR at C;have M:((k:Int)<32):=by have:=B.out;rw[show (OE ao)=32 from rfl] at this;omega
 go_wp2_with fail
 go_ret2;exact⟨rfl,I⟩
theorem jG (n:Int)(w:World):Calls J 169 #[U Z n] w λe w'=>e=OA (OG (aA n))/\w=w':=by
 unfold aA
 by_cases B: -15<=n
 ·have j:decide (-15<=n)=true:=by simpa using B
  rw[j,Bool.true_and]
  go_enter OU,OT
  go_wp2_with fail
  go_ret;exact⟨rfl,rfl⟩
 ·have j:decide (-15<=n)=false:=by simpa using B
  rw[j,OH]
  go_enter OU,OT
  go_wp2_with fail
  go_ret;exact⟨rfl,rfl⟩
theorem GL {pr d:Int}(j:aA pr=true)(h2: -16<=d)(B:d<=15):aW pr d=if aA (pr+d) then(pr+d,0) else if aA (pr+if d<0 then d+32 else d - 32) then(pr+(if d<0 then d+32 else d - 32),0) else(0,12):=by
 unfold aW;have C: -15<=pr/\pr<=15:=by unfold aA at j;simpa using j
 rw[j,show decide (d< -16)=false by simp;omega,show decide (15<d)=false by simp;omega,if_neg (by decide)]
 by_cases hd:d<0
 ·rw[if_pos hd]
  have:aA (pr+d - 32)=false:=(by unfold aA;simp;omega);rw[this];simp only[Int.add_assoc];rfl
 ·rw[if_neg hd]
  have:aA (pr+d+32)=false:=(by unfold aA;simp;omega);rw[this,show pr+(d - 32)=pr+d - 32 by omega];rfl
theorem CX (pr d:Int)(w:World)(D:aA pr=true)(h2: -16<=d)(h3:d<=15):Calls J 170 #[U Z pr,U Z d] w λe w'=>e=OA (OK #[U Z (aW pr d).1,U Z (aW pr d).2])/\w=w':=by
 have hp: -15<=pr/\pr<=15:=by unfold aA at D;simpa using D
 rw[GL D h2 h3];have q0:decide (d< -16)=false:=by simp;omega
 have q1:decide (15<d)=false:=by simp;omega
 obtain⟨o,K⟩:∃o,(if d<0 then d+32 else d - 32)=o:=⟨_,rfl⟩;rw[K];have N:=jG pr w;rw[D] at N;have B:=O N;have j:=O (jG (pr+d) w);have C:=O (jG (pr+o) w);have w1:OB.wrap (pr+d)=pr+d:=by rw[V];omega
 have w2:OB.wrap (pr+o)=pr+o:=by rw[V];split at K<;>omega
 have w3:OB.wrap (d - 32)=d - 32:=by rw[V];omega
 have w4:OB.wrap (d+32)=d+32:=by rw[V];omega
 clear N D;obtain⟨a,ha⟩:∃a,pr+d=a:=⟨_,rfl⟩;obtain⟨c,hc⟩:∃c,pr+o=c:=⟨_,rfl⟩;rw[ha] at w1 j⊢;rw[hc] at w2 C⊢;obtain⟨p1,G⟩:∃p1,aA a=p1:=⟨_,rfl⟩;obtain⟨M,I⟩:∃M,aA c=M:=⟨_,rfl⟩;rw[G] at j⊢;rw[I] at C⊢;have HO:=O K;clear G I K hp h2 h3
 have T:(d<0/\d+32=o)\/(¬d<0/\d - 32=o):=by
  have:=HO.out
  by_cases hd:d<0
  ·rw[if_pos hd] at this;exact .inl ⟨hd,this⟩
  ·rw[if_neg hd] at this;exact .inr ⟨hd,this⟩
 clear HO;rcases T with⟨hd,rfl⟩|⟨hd,rfl⟩
 ·have q2:decide (d<0)=true:=by simpa using hd
  clear hd
  cases p1 with
  |true=>
   go_enter OF,OD
   go_wp2_with (first|(go_at_call 169;refine B.out.mono ?_;rintro e w' ⟨rfl,rfl⟩;clear B)|(go_at_call 169;refine j.out.mono ?_;rintro e w' ⟨rfl,rfl⟩;clear j))
   go_ret2;exact⟨rfl,rfl⟩
  |false=>
   cases M with
   |true=>
    go_enter OF,OD
    go_wp2_with (first|(go_at_call 169;refine B.out.mono ?_;rintro e w' ⟨rfl,rfl⟩;clear B)|(go_at_call 169;refine j.out.mono ?_;rintro e w' ⟨rfl,rfl⟩;clear j)|(go_at_call 169;refine C.out.mono ?_;rintro e w' ⟨rfl,rfl⟩;clear C))
    go_ret2;exact⟨rfl,rfl⟩
   |false=>
    go_enter OF,OD
    go_wp2_with (first|(go_at_call 169;refine B.out.mono ?_;rintro e w' ⟨rfl,rfl⟩;clear B)|(go_at_call 169;refine j.out.mono ?_;rintro e w' ⟨rfl,rfl⟩;clear j)|(go_at_call 169;refine C.out.mono ?_;rintro e w' ⟨rfl,rfl⟩;clear C))
    go_ret2;exact⟨rfl,rfl⟩
 ·have q2:decide (d<0)=false:=by simpa using hd
  clear hd
  cases p1 with
  |true=>
   go_enter OF,OD
   go_wp2_with (first|(go_at_call 169;refine B.out.mono ?_;rintro e w' ⟨rfl,rfl⟩;clear B)|(go_at_call 169;refine j.out.mono ?_;rintro e w' ⟨rfl,rfl⟩;clear j))
   go_ret2;exact⟨rfl,rfl⟩
  |false=>
   cases M with
   |true=>
    go_enter OF,OD
    go_wp2_with (first|(go_at_call 169;refine B.out.mono ?_;rintro e w' ⟨rfl,rfl⟩;clear B)|(go_at_call 169;refine j.out.mono ?_;rintro e w' ⟨rfl,rfl⟩;clear j)|(go_at_call 169;refine C.out.mono ?_;rintro e w' ⟨rfl,rfl⟩;clear C))
    go_ret2;exact⟨rfl,rfl⟩
   |false=>
    go_enter OF,OD
    go_wp2_with (first|(go_at_call 169;refine B.out.mono ?_;rintro e w' ⟨rfl,rfl⟩;clear B)|(go_at_call 169;refine j.out.mono ?_;rintro e w' ⟨rfl,rfl⟩;clear j)|(go_at_call 169;refine C.out.mono ?_;rintro e w' ⟨rfl,rfl⟩;clear C))
    go_ret2;exact⟨rfl,rfl⟩
theorem DU {j to d:Int}(h2: -16<=d)(B:d<=15)(h:aW j d=(to,0)):d=cY j to:=by
 have:=yC h2 B (by rw[h]);rw[h] at this;exact this.2.symm
theorem sr (B to:Int)(w:World)(N:aA B=true)(h2:aA to=true):Calls J 119 #[U Z B,U Z to] w λe w'=>e=OA (OK #[U Z (cY B to),U Z 0])/\w=w':=by
 have P0:=jG B w;have P1:=jG to w;rw[N] at P0;rw[h2] at P1;have H0:=O P0;have H1:=O P1;have TU:=O (λd h2 T=>CX B d w N h2 T);obtain⟨D,hD⟩:∃D,cY B to=D:=⟨_,rfl⟩;have K:=fU B to;have ht:=E6 N h2;rw[hD] at K ht⊢;have HT:=O ht;have HO:=O (λ(d:Int) h2 T (h:aW B d=(to,0))=>DU h2 T h);rw[hD] at HO;have HR:=O K;obtain⟨m,hm⟩:∃m:Nat,D+16=(m:Int):=⟨(D+16).toNat,by omega⟩;have HM:=O hm;clear P0 P1 N h2 K ht hD hm
 go_enter Tryz.func119,Tryz.ntmps119
 go_wp2_with (first|(go_at_call 169;refine H0.out.mono ?_;rintro e w' ⟨rfl,rfl⟩;clear H0)|(go_at_call 169;refine H1.out.mono ?_;rintro e w' ⟨rfl,rfl⟩;clear H1))
 go_loopg [6] m (λg t=> λwx=>∃(q:Nat),q+g=m/\t=U Z ((q:Int)+ -16)/\w=wx)
 case atStart=>exact⟨0,by omega,rfl,rfl⟩
 case round=>
  obtain⟨q,hq,rfl,rfl⟩:=hrel;have G:(q:Int)+ -16<=15:=(by have:=HM.out;have:=HR.out;omega);have hw:OB.wrap ((q:Int)+ -16+1)=(q:Int)+ -16+1:=(by rw[V];omega);have HQ:=O hq;have I:=TU.out ((q:Int)+ -16) (by omega) G
  cases gk with
  |zero=>
   obtain rfl:q=m:=by omega
   have hd:(q:Int)+ -16=D:=(by have:=HM.out;omega);rw[hd] at I G hw⊢;rw[HT.out] at I;have C:=O I;clear I hd;go_wp2_with (go_at_call 170;refine C.out.mono ?_;rintro e w' ⟨rfl,rfl⟩)
   go_ret2;exact⟨rfl,rfl⟩
  |succ g=>
   have j:aW B ((q:Int)+ -16)≠(to,0):= λh=>by
    have T:=HO.out ((q:Int)+ -16) (by omega) G h;have:=HM.out;omega
   obtain⟨d,hd⟩:∃d,(q:Int)+ -16=d:=⟨_,rfl⟩;rw[hd] at I G hw j⊢;have HD:=O hd;obtain⟨⟨r1,r2⟩,K⟩:∃r,aW B d=r:=⟨_,rfl⟩;rw[K] at I j;have C:=O I;clear I K hd
   by_cases M:r2=0
   ·have e0:(r2==0)=true:=by simpa using M
    have e1:(r1==to)=false:=by
     rw[beq_eq_false_iff_ne];intro h;exact j (by rw[h,M])
    clear M j;go_wp2_with (go_at_call 170;refine C.out.mono ?_;rintro e w' ⟨rfl,rfl⟩)
    go_roundg g
    case measure=>omega
    case rel=>exact⟨q+1,by have:=HQ.out;omega,by have:=HD.out;subst this;push_cast;congr 1;omega,rfl⟩
   ·have e0:(r2==0)=false:=by simpa using M
    clear M j;go_wp2_with (go_at_call 170;refine C.out.mono ?_;rintro e w' ⟨rfl,rfl⟩)
    go_roundg g
    case measure=>omega
    case rel=>exact⟨q+1,by have:=HQ.out;omega,by have:=HD.out;subst this;push_cast;congr 1;omega,rfl⟩
theorem vO (ad d:Int)(had:Bool)(x y:Int)(w:World):Calls J 118 #[U Z ad,U Z d,OG had,U Z x,U Z y] w λe w'=>e=OA (OK #[U Z (cZ ad d had x y).1,U Z (cZ ad d had x y).2])/\w=w':=by
 unfold cZ Cg;obtain⟨a,j⟩:∃a,(ad==1)=a:=⟨_,rfl⟩;obtain⟨b,B⟩:∃b,(ad==12)=b:=⟨_,rfl⟩;obtain⟨c,C⟩:∃c,(ad==23)=c:=⟨_,rfl⟩;obtain⟨e,he⟩:∃e,(d !=1)=e:=⟨_,rfl⟩;rw[j,B,C,he]
 cases a<;>cases b<;>cases c<;>cases e<;>cases had<;>(go_enter Tryz.func118,Tryz.ntmps118;go_wp2_with fail;go_ret2;exact⟨rfl,rfl⟩)
theorem zJ (w:World):Calls J 211 #[] w λe w'=>(∃A,e=OA (OP A 63 63)/\Sl w' A (bm.map aR))/\Below w.heap.size w w':=by
 go_enter Tryz.func211,Tryz.ntmps211
 go_wp2_with fail
 go_ret;exact⟨⟨_,rfl,ab.sl (ab.new w 9 (bm.map aR).toArray) 0⟩,(Below.refl _ _).alloc (OC _) _⟩
theorem CY (w:World):Calls J 172 #[] w (DB 63 bm bO w):=by
 have e1:DY 1 63=bO:=by kernel_rfl
 have E1:=O e1;have MK:=O (λ(X Y:Option Addr) (y:Nat) (W:World) (h1:Sl W X (bm.map aR)) (h2:Sl W Y (bO.map aH))=>sq X Y 63 63 y bm bO W h1 h2 rfl rfl (by decide) (by decide) (by kernel_rfl) (by kernel_rfl));clear e1
 go_enter Tryz.func172,Tryz.ntmps172
 go_wp2_with fail
 go_loopg [1,2] 63 (λg v i=> λwr=>∃(j:Nat),j+g=63/\i=U Z ((j:Int)+1)/\wr.ownsRow w.heap.size 3 1 v j ((DY 1 j).map aH)/\Below w.heap.size w wr)
 case atStart=>exact⟨0,by omega,rfl,World.ownsRow_nil _ _ _ _,Below.refl _ _⟩
 case round=>
  obtain⟨j,hj,rfl,I,C⟩:=hrel
  cases gk with
  |zero=>
   obtain rfl:j=63:=by omega
   rw[E1.out] at I;obtain⟨Y,y,rfl,hS⟩:=cO I;have HY:=O hS;have M:=O C;clear I hS C;go_wp2_with fail
   refine(zJ wr).mono ?_;rintro e w2 ⟨⟨X,rfl,hX⟩,B⟩;have T:=O (HY.out.below B);have HX:=O hX;have N:=O (M.out.trans (B.mono M.out.size));clear B hX M;go_wp2_with fail
   refine(MK.out X Y y w2 HX.out T.out).mono ?_;rintro e w3 ⟨b,rfl,hT,D⟩;have B3:=O (N.out.trans (D.mono N.out.size));have HT:=O hT;clear D hT N;go_wp2_with fail
   go_ret;exact⟨b,rfl,HT.out,B3.out⟩
  |succ g=>
   have bM:(j:Int)+1<=63:=(by omega);have hw:OB.wrap ((j:Int)+1+1)=(j:Int)+1+1:=(by rw[V];omega);have Ho:=O I;clear I;have cE:=C.size;have HJ:=O hj;obtain⟨d,hd⟩:∃d,(j:Int)+1=d:=⟨_,rfl⟩;rw[hd] at bM hw⊢;have HD:=O hd;clear hd;go_wp2_with (at_builtin;refine dA jx rfl rfl rfl (Ho.out.alloc _) rfl (m:=1) (news:=[aH d]) rfl (ab.sl (ab.new wr 3 #[aH d]) 0) (by intro u hu;simp[aH] at hu;subst hu;rfl) (by omega) (by simp;omega) ?_;intro v1 w1 K G _;have aJ:=O K;clear K;have av:=O G;clear G)
   go_roundg g
   case measure=>omega
   case rel=>
    refine⟨j+1,by omega,by have:=HD.out;subst this;push_cast;rfl,?_,kC (C.alloc C.size _) (Ho.out.alloc _) av.out (by have:=C.size;simp;omega) (OC _)⟩;rw[FK,HD.out];exact aJ.out
theorem ED (d:Int)(w:World):
  Calls J 121 #[U Z d] w λe w'=>e=OA (OK #[OJ (bs (jE bm bO d).1),U Z (jE bm bO d).2])/\Below w.heap.size w w':=by
 have B:=O (λ(b:Nat) (W:World) (h:oZ W b 63 bm bO)=>uO b 63 bm bO d W h rfl rfl (by decide));generalize jE bm bO d=R at B⊢;obtain⟨K,M⟩:=R
 go_enter Tryz.func121,Tryz.ntmps121
 go_wp2_with fail
 refine(CY w).mono ?_;rintro e I ⟨b,rfl,C,j⟩;have D:=O j;have G:=O C;clear j C;go_wp2_with fail
 refine(B.out b I G.out).mono ?_;rintro e N ⟨rfl,rfl⟩;go_wp2_with fail
 go_ret2;exact⟨rfl,D.out⟩
def n7 (p:Int) (i:Nat):Bool:=decide (1<=p)&&decide (p<=63)&&(p / (2:Int) ^ (6 - i) % 2==1)
theorem EC (p:Int)(i:Nat)(I:1<=i)(K:i<=6)(w:World):Calls J 132 #[U Z p,U Z (i:Int)] w λe w'=>e=OA (OG (n7 p i))/\w=w':=by
 unfold n7
 by_cases C:1<=p
 ·have j:decide (1<=p)=true:=by simpa using C
  rw[j]
  by_cases D:p<=63
  ·have B:decide (p<=63)=true:=by simpa using D
   rw[B];have G:i=1\/i=2\/i=3\/i=4\/i=5\/i=6:=(by omega);rcases G with rfl|rfl|rfl|rfl|rfl|rfl
   all_goals
    go_enter ON,OM
    go_wp2_with fail
    go_ret
    first|exact⟨rfl,rfl⟩|exact⟨by simp,rfl⟩
  ·have B:decide (p<=63)=false:=by simpa using D
   rw[B]
   go_enter ON,OM
   go_wp2_with fail
   go_ret;exact⟨rfl,rfl⟩
 ·have j:decide (1<=p)=false:=by simpa using C
  rw[j]
  go_enter ON,OM
  go_wp2_with fail
  go_ret;exact⟨rfl,rfl⟩
def fy (p:Int):Nat->Nat
 |0=>0
 |j+1=>fy p j+(if n7 p (j+1) then 1 else 0)
theorem xg (p:Int):fy p 6=cC p:=by
 unfold cC
 by_cases h:1<=p/\p<=63
 ·rw[if_pos h]
  obtain⟨k,rfl⟩:=Int.eq_ofNat_of_zero_le (by omega:0<=p);have C:decide ((1:Int)<=(k:Int))=true:=(by simpa using h.1);have D:decide ((k:Int)<=63)=true:=by simpa using h.2
  have j:∀i m:Nat,(2:Int) ^ (6 - i)=(m:Int)->(if n7 (k:Int) i then 1 else 0)=k / m % 2:= λi m G=>by
   unfold n7;rw[C,D,G]
   by_cases B:((k:Int) / (m:Int) % 2==1)=true
   ·rw[B,if_pos (by decide)]
    have:(k:Int) / (m:Int) % 2=1:=(by simpa using B);have:k / m % 2=1:=(by exact_mod_cast this);omega
   ·rw[Bool.not_eq_true] at B
    rw[B,if_neg (by decide)];have:¬(k:Int) / (m:Int) % 2=1:=(by simpa using B);have:¬k / m % 2=1:= λh=>this (by exact_mod_cast h);omega
  unfold fy fy fy fy fy fy fy;rw[j 1 32 rfl,j 2 16 rfl,j 3 8 rfl,j 4 4 rfl,j 5 2 rfl,j 6 1 rfl,Int.toNat_natCast,Nat.div_one];omega
 ·rw[if_neg h]
  have j:∀i,n7 p i=false:= λi=>by
   unfold n7
   by_cases I:1<=p
   ·rw[show decide (p<=63)=false by simp;omega,Bool.and_false,OH]
   ·rw[show decide (1<=p)=false by simp;omega,OH,OH]
  unfold fy fy fy fy fy fy fy;simp[j]
theorem tA (p:Int):∀j,fy p j<=j
 |0=>OC _
 |j+1=>by unfold fy;have:=tA p j;split<;>omega
theorem zI (p:Int)(w:World):Calls J 80 #[U Z p] w λe w'=>e=OA (U Z (cC p:Nat))/\w=w':=by
 go_enter Tryz.func80,Tryz.ntmps80
 go_wp2_with fail
 go_loopg [3,4] 6 (λg t s=> λwx=>∃(q:Nat),q+g=6/\t=U Z (fy p q:Nat)/\s=U Z ((q:Int)+1)/\w=wx)
 case atStart=>exact⟨0,by omega,rfl,rfl,rfl⟩
 case round=>
  obtain⟨q,N,rfl,rfl,rfl⟩:=hrel;have j:=tA p q;have T:OB.wrap ((q:Int)+1+1)=(q:Int)+1+1:=by rw[V];omega
  cases gk with
  |zero=>
   obtain rfl:q=6:=by omega
   rw[xg];go_wp2_with fail
   go_ret;exact⟨rfl,rfl⟩
  |succ g=>
   have G:(q:Int)+1<=6:=(by omega);have B:=O (show fy p (q+1)=fy p q+(if n7 p (q+1) then 1 else 0) from rfl);have C:=O (EC p (q+1) (by omega) (by omega) w);rw[Int.natCast_add,Int.natCast_one] at C;have I:=O N;have D:=O (show ((q+1:Nat):Int)+1=(q:Int)+1+1 by omega);obtain⟨d,hd⟩:∃d,(q:Int)+1=d:=⟨_,rfl⟩;rw[hd] at G T C D⊢;obtain⟨z,M⟩:∃z,fy p q=z:=⟨_,rfl⟩;rw[M] at j B⊢;have av:OB.wrap ((z:Int)+1)=(z:Int)+1:=(by rw[V];omega);clear hd M;obtain⟨b,K⟩:∃b,n7 p (q+1)=b:=⟨_,rfl⟩;rw[K] at C B;clear K j
   cases b with
   |true=>
    go_wp2_with (go_at_call 132;refine C.out.mono ?_;rintro e w' ⟨rfl,rfl⟩;clear C)
    go_roundg g
    case measure=>omega
    case rel=>exact⟨q+1,by have:=I.out;omega,by rw[B.out];rfl,by rw[D.out],rfl⟩
   |false=>
    go_wp2_with (go_at_call 132;refine C.out.mono ?_;rintro e w' ⟨rfl,rfl⟩;clear C)
    go_roundg g
    case measure=>omega
    case rel=>exact⟨q+1,by have:=I.out;omega,by rw[B.out];rfl,by rw[D.out],rfl⟩
theorem um (n m j:Nat)(B:j<m):(ak n m).take (j+1)=(ak n m).take j++[if n / 2 ^ (m - 1 - j) % 2=0 then 48 else 49]:=by
 rw[List.take_add_one];congr 1
 have:(ak n m)[j]? =some (if n / 2 ^ (m - 1 - j) % 2=0 then 48 else 49):=by
  unfold ak;rw[List.getElem?_map,List.getElem?_range B];rfl
 rw[this];rfl
theorem gD (n m:Nat)(hn:n<2 ^ 32)(hm:m<=32)(w:World):Calls J 113 #[U Z (n:Int),U Z (m:Int)] w λe w'=>e=OA (OJ (bs (ak n m)))/\Below w.heap.size w w':=by
 have eE:OB.wrap ((m:Int) - 1)=(m:Int) - 1:=by rw[V];omega
 have G:∀(W:World)(A:Option Addr)(l:List UInt8)(n c:Nat),Sl W A (l.map ag)->OE l=n->(convert 25 9 (OP A n c)).run J W= .ok (OJ (bs l)) W:= λW A l n c h hn=>g8 (P:=J) 25 9 5 (by kernel_rfl) (by kernel_rfl) (by kernel_rfl) h n c hn;have C:=O G;clear G
 go_enter Tryz.func113,Tryz.ntmps113
 go_wp2_with fail
 go_loopg [5,6] m (λg t s=> λwx=>∃(q:Nat),q+g=m/\t=OJ (bs ((ak n m).take q))/\s=U Z ((m:Int) - 1 - (q:Int))/\Below w.heap.size w wx)
 case atStart=>exact⟨0,by omega,by simp[bs],by simp,Below.refl _ _⟩
 case round=>
  obtain⟨q,hq,rfl,rfl,D⟩:=hrel
  cases gk with
  |zero=>
   obtain rfl:q=m:=by omega
   have av:¬(0<=(q:Int) - 1 - (q:Int)):=(by omega);rw[List.take_of_length_le (by rw[bf];omega)];go_wp2_with fail
   go_ret;exact⟨rfl,D⟩
  |succ g=>
   obtain⟨r,hr⟩:∃r:Nat,m - 1 - q=r:=⟨_,rfl⟩;have K:(m:Int) - 1 - (q:Int)=(r:Int):=(by omega);rw[K];have av:0<=(r:Int):=(by omega);have cE:(r:Int)<=31:=(by omega);have B:=um n m q (by omega);rw[hr] at B;have j:=O B;have M:=O hq;have HR:=O hr;obtain⟨L,hL⟩:∃L,(ak n m).take q=L:=⟨_,rfl⟩;have bM:OE L<=32:=(by rw[<-hL,List.length_take];omega);rw[hL] at j⊢;have fJ:OB.wrap ((r:Int) - 1)=(r:Int) - 1:=(by rw[V];omega);obtain⟨y,N⟩:∃y,n / 2 ^ r=y:=⟨_,rfl⟩;have iP:((n:Int) / 2 ^ r)=(y:Int):=(by rw[<-N];exact_mod_cast rfl);have gj:(0:Int)<=(y:Int):=by omega
   have dv:(y:Int)<=4294967296:=by
    have h1:y<=n:=(by rw[<-N];exact Nat.div_le_self _ _);omega
   rw[N] at j;have cI:(r:Int)<=64:=(by omega);have dO:(r:Int).toNat=r:=(by omega);have dy:¬((r:Int)<0):=(by omega);clear hL B hq hr K N
   by_cases T:y % 2=0
   ·have aJ:(y:Int) % 2=0:=by omega
    rw[if_pos T] at j;have I:=C.out (wr.alloc (OS #[U .u8 48] 5)) (some ⟨wr.heap.size,0,none⟩) [48] 1 1 (ab.sl (ab.new wr 5 #[U .u8 48]) 0) rfl;clear T;go_wp2_with fail
    go_roundg g
    case measure=>omega
    case rel=>exact⟨q+1,by have:=M.out;omega,by rw[j.out],by rw[show (m:Int) - 1 - ((q+1:Nat):Int)=(r:Int) - 1 by have:=M.out;have:=HR.out;omega],D.alloc D.size _⟩
   ·have aJ:(y:Int) % 2=1:=by omega
    rw[if_neg T] at j;have I:=C.out (wr.alloc (OS #[U .u8 49] 5)) (some ⟨wr.heap.size,0,none⟩) [49] 1 1 (ab.sl (ab.new wr 5 #[U .u8 49]) 0) rfl;clear T;go_wp2_with fail
    go_roundg g
    case measure=>omega
    case rel=>exact⟨q+1,by have:=M.out;omega,by rw[j.out],by rw[show (m:Int) - 1 - ((q+1:Nat):Int)=(r:Int) - 1 by have:=M.out;have:=HR.out;omega],D.alloc D.size _⟩
end Go.Proofs.YthhijgcfbjcgiaaGreatDoor
