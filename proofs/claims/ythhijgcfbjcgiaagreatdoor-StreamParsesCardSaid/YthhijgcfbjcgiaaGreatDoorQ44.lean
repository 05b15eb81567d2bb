/- MacsP, Macs, ShotP, RPic -/
import Derived.Test.YthhijgcfbjcgiaaGreatDoorQ39
import Derived.Test.YthhijgcfbjcgiaaGreatDoorQ43
import Derived.Test.YthhijgcfbjcgiaaGreatDoorQ06
namespace Go.Proofs.YthhijgcfbjcgiaaGreatDoor
section
open Go Go.RowKit
open Go.IntKind renaming i64→O
open Go.Value renaming int→U,bool→V
open List renaming length→Z
section
variable {l:List UInt8} {f g:Int} {k p:Nat} {x:bi} {d nb e:Int}
theorem Bn (h:dz l p=(34,nb,0)):bL l f g (k+1) p x=([],p,0):=by
 rw[bL];dsimp only;rw[h];dsimp only;rw[if_pos rfl,if_pos rfl]
theorem Bm (h:dz l p=(0,nb,0)):bL l f g (k+1) p x=bL l f g k (p+nb.toNat) x:=by
 rw[bL];dsimp only;rw[h];dsimp only;rw[if_pos rfl,if_neg (by decide),if_pos rfl]
theorem Bj (h:dz l p=(d,nb,0))(j:d≠34)(h2:d≠0)(B:33<x.ad+d):bL l f g (k+1) p x=([],0,13):=by
 rw[bL];dsimp only;rw[h];dsimp only;rw[if_pos rfl,if_neg j,if_neg h2,if_pos B]
theorem Ew (h:dz l p=(d,nb,0))(j:d≠34)(h2:d≠0)(B:¬33<x.ad+d)(C:(b9 l ((p+nb.toNat:Nat):Int) (x.ad+d) x).2.2≠0):
  bL l f g (k+1) p x=([],0,dQ (b9 l ((p+nb.toNat:Nat):Int) (x.ad+d) x).2.2):=by
 rw[bL];dsimp only;rw[h];dsimp only;rw[if_pos rfl,if_neg j,if_neg h2,if_neg B,if_neg C]
theorem Ex (h:dz l p=(d,nb,0))(j:d≠34)(h2:d≠0)(B:¬33<x.ad+d)(C:(b9 l ((p+nb.toNat:Nat):Int) (x.ad+d) x).2.2=0)(D:iM f g (b9 l ((p+nb.toNat:Nat):Int) (x.ad+d) x).1=false):
  bL l f g (k+1) p x=([],0,12):=by
 rw[bL];dsimp only;rw[h];dsimp only;rw[if_pos rfl,if_neg j,if_neg h2,if_neg B,if_pos C,D];rfl
theorem Bk (h:dz l p=(d,nb,0))(j:d≠34)(h2:d≠0)(B:¬33<x.ad+d)(C:(b9 l ((p+nb.toNat:Nat):Int) (x.ad+d) x).2.2=0)(D:iM f g (b9 l ((p+nb.toNat:Nat):Int) (x.ad+d) x).1=true):
  bL l f g (k+1) p x=((b9 l ((p+nb.toNat:Nat):Int) (x.ad+d) x).1::(bL l f g k (p+nb.toNat+(b9 l ((p+nb.toNat:Nat):Int) (x.ad+d) x).2.1.toNat) (ed (b9 l ((p+nb.toNat:Nat):Int) (x.ad+d) x).1)).1,
   (bL l f g k (p+nb.toNat+(b9 l ((p+nb.toNat:Nat):Int) (x.ad+d) x).2.1.toNat) (ed (b9 l ((p+nb.toNat:Nat):Int) (x.ad+d) x).1)).2.1,
   (bL l f g k (p+nb.toNat+(b9 l ((p+nb.toNat:Nat):Int) (x.ad+d) x).2.1.toNat) (ed (b9 l ((p+nb.toNat:Nat):Int) (x.ad+d) x).1)).2.2):=by
 rw[bL];dsimp only;rw[h];dsimp only;rw[if_pos rfl,if_neg j,if_neg h2,if_neg B,if_pos C,D];rfl
theorem Bl (h:dz l p=(d,nb,5))(j:dB l p=true):bL l f g (k+1) p x=([],p,0):=by
 rw[bL];dsimp only;rw[h];dsimp only;rw[if_neg (by decide),if_pos rfl,if_pos j]
theorem Ev (h:dz l p=(d,nb,5))(j:dB l p=false):bL l f g (k+1) p x=([],0,6):=by
 rw[bL];dsimp only;rw[h];dsimp only;rw[if_neg (by decide),if_pos rfl,j];rfl
theorem Eu (h:dz l p=(d,nb,e))(j:e≠0)(B:e≠5):bL l f g (k+1) p x=([],0,e):=by
 rw[bL];dsimp only;rw[h];dsimp only;rw[if_neg j,if_neg B]
end
def AI (w:World) (g:Nat) (A:Option Addr) (l:List UInt8):Prop:=∀W,w.grownBy W (some g)->Tz W/\Ts W/\Sl W A (l.map af)
theorem AI.to {w W:World}{g:Nat}{A:Option Addr}{l:List UInt8}(h:AI w g A l)(B:w.grownBy W (some g)):AI W g A l:= λC j=>h C (B.trans j)
theorem xA {w W B:World}{g:Nat}{row:Option Nat}(h:w.grownBy W (some g))(C:W.grownBy B row)(D:∀k,row=some k->w.heap.size<=k):w.grownBy B (some g):=h.andThen C (λj e=> .inl (D j e))
theorem df {w W:World}{g h:Nat}(B:w.grownBy W (some g))(j:w.heap.size<=h)(i:Nat)(v:Value):w.grownBy (W.setCell ⟨h,i,none⟩ v) (some g):=xA B (hO W h i v) (λk e=>by cases e;exact j)
def jm (x:bi):Array Value:= #[U O x.ad,V x.had,U O x.x,U O x.y]
structure lW (w:World) (g hl:Nat) (bv sv:Value) (p:Nat) (x:bi) (v:Value) (es:List dF) (W:World):Prop where
 gb:w.grownBy W (some g)
 pr:ab W g 77 (cL bv p sv)
 la:ab W hl 102 (jm x)
 hl:w.heap.size<=hl
 rows:ai (⟨w.heap.size,55,7,v,Z es,av dy es⟩::fc w.heap.size es) W
theorem lN {B:Nat}{v:Value}{j:List dF}{t:TypeId}(D:t≠55)(h2:t≠93)(G:t≠189):∀r∈(⟨B,55,7,v,Z j,av dy j⟩::fc B j:List aV),r.e≠t:=by
 intro r C;rcases List.mem_cons.1 C with rfl|C
 ·exact Ne.symm D
 ·rcases nC r C with h|h<;>rw[h]
  ·exact Ne.symm h2
  ·exact Ne.symm G
section
variable {w:World} {g hl:Nat} {bv sv:Value} {p:Nat} {x:bi} {v:Value} {es:List dF} {W W':World}
theorem lW.below (h:lW w g hl bv sv p x v es W)(j:Below W.heap.size W W'):lW w g hl bv sv p x v es W':=
 ⟨h.gb.trans (dw j (Nat.le_refl _)),h.pr.below j h.pr.lt,h.la.below j h.la.lt,h.hl,cD h.rows j⟩
theorem lW.at (h:lW w g hl bv sv p x v es W)(q:Nat):lW w g hl bv sv q x v es (W.setCell ⟨g,1,none⟩ (U O (q:Int))):=
 ⟨h.gb.trans (hO _ _ _ _),mp h.pr q,h.la.far (p:=⟨g,1,none⟩) (aU h.la h.pr (by decide)) _,h.hl,br h.rows h.pr (lN (by decide) (by decide) (by decide)) _ _⟩
theorem lW.last (h:lW w g hl bv sv p x v es W)(y:bi):lW w g hl bv sv p y v es ((((W.setCell ⟨hl,0,none⟩ (U O y.ad)).setCell ⟨hl,1,none⟩ (V y.had)).setCell ⟨hl,2,none⟩ (U O y.x)).setCell ⟨hl,3,none⟩ (U O y.y)):=by
 have j:g≠hl:= λe=>aU h.la h.pr (by decide) e.symm;have C:=h.la.set_ 0 (U O y.ad);have D:=C.set_ 1 (V y.had);have G:=D.set_ 2 (U O y.x);have I:=G.set_ 3 (U O y.y);have B:∀r∈(⟨w.heap.size,55,7,v,Z es,av dy es⟩::fc w.heap.size es:List aV),r.e≠102:=lN (by decide) (by decide) (by decide)
 refine⟨df (df (df (df h.gb h.hl _ _) h.hl _ _) h.hl _ _) h.hl _ _,(((h.pr.far (p:=⟨hl,0,none⟩) j _).far (p:=⟨hl,1,none⟩) j _).far (p:=⟨hl,2,none⟩) j _).far (p:=⟨hl,3,none⟩) j _,?_,h.hl,
  br (br (br (br h.rows h.la B _ _) C B _ _) D B _ _) G B _ _⟩
 unfold jm at*
 simpa using I
end
theorem qw {B:Nat}{p:dF}{t:TypeId}(h2:t≠93)(j:t≠189):∀r∈kW B p,r.e≠t:=by
 intro r C;rcases Eo r C with h|h<;>rw[h]
 ·exact Ne.symm h2
 ·exact Ne.symm j
theorem vB {R:List aV}{W:World}{h:Nat}{m:aT}{v:Value}(N:ai R W)(K:ab W h 55 (bP m v))(j:∀r∈R,r.e≠55) (a:aT) (u:Value):
  ai R (((((((W.setCell ⟨h,0,none⟩ (U O a.ad)).setCell ⟨h,1,none⟩ (U O a.kd)).setCell ⟨h,2,none⟩ (U O a.qu)).setCell ⟨h,3,none⟩ (U O a.x)).setCell ⟨h,4,none⟩ (U O a.y)).setCell ⟨h,5,none⟩ (U O a.pa)).setCell ⟨h,6,none⟩ u):=by
 have B:=K.set_ 0 (U O a.ad);have C:=B.set_ 1 (U O a.kd);have D:=C.set_ 2 (U O a.qu);have G:=D.set_ 3 (U O a.x);have I:=G.set_ 4 (U O a.y);have M:=I.set_ 5 (U O a.pa);exact br (br (br (br (br (br (br N K j _ _) B j _ _) C j _ _) D j _ _) G j _ _) I j _ _) M j _ _
theorem cG {W:World}{base e size n g:Nat}{v:Value}{xs:List Value}(h:W.ownsRow base e size v n xs)(j:v.ownBlock≠some g)(i:Nat)(u:Value):(W.setCell ⟨g,i,none⟩ u).ownsRow base e size v n xs:=eR h ⟨g,i,none⟩ u j
theorem Iv {w:World}{g hl:Nat}{G K:Value}{p:Nat}{x:bi}{v:Value}{I:List dF}{W:World}{h:Nat}{m:aT}{u0:Value}(j:lW w g hl G K p x v I W)(D:ab W h 55 (bP m u0))(B:w.heap.size<=h)(C:v.ownBlock≠some h)(a:aT)(u:Value):
  lW w g hl G K p x v I (((((((W.setCell ⟨h,0,none⟩ (U O a.ad)).setCell ⟨h,1,none⟩ (U O a.kd)).setCell ⟨h,2,none⟩ (U O a.qu)).setCell ⟨h,3,none⟩ (U O a.x)).setCell ⟨h,4,none⟩ (U O a.y)).setCell ⟨h,5,none⟩ (U O a.pa)).setCell ⟨h,6,none⟩ u):=by
 have n1:g≠h:=aU j.pr D (by decide);have n2:hl≠h:=aU j.la D (by decide)
 refine⟨df (df (df (df (df (df (df j.gb B _ _) B _ _) B _ _) B _ _) B _ _) B _ _) B _ _,
  ((((((j.pr.far (p:=⟨h,0,none⟩) n1 _).far (p:=⟨h,1,none⟩) n1 _).far (p:=⟨h,2,none⟩) n1 _).far (p:=⟨h,3,none⟩) n1 _).far (p:=⟨h,4,none⟩) n1 _).far (p:=⟨h,5,none⟩) n1 _).far (p:=⟨h,6,none⟩) n1 _,
  ((((((j.la.far (p:=⟨h,0,none⟩) n2 _).far (p:=⟨h,1,none⟩) n2 _).far (p:=⟨h,2,none⟩) n2 _).far (p:=⟨h,3,none⟩) n2 _).far (p:=⟨h,4,none⟩) n2 _).far (p:=⟨h,5,none⟩) n2 _).far (p:=⟨h,6,none⟩) n2 _,j.hl,?_⟩
 refine ai.cons (cG (cG (cG (cG (cG (cG (cG j.rows.head C _ _) C _ _) C _ _) C _ _) C _ _) C _ _) C _ _) (vB j.rows.tail D ?_ a u);intro r M;rcases nC r M with h|h<;>rw[h]<;>decide
theorem Hh:eY Tryz.prog 49 55 7 72:= .mk' (z:=.agg #[U O 0,U O 0,U O 0,U O 0,U O 0,U O 0,.slice none 0 0]) (by kernel_rfl) (by kernel_rfl) rfl (by decide) (by decide)
theorem vO {P:Program}{t e size bytes:Nat}{W:World}{base n:Nat}{m:Nat}{v:Value}{xs news:List Value}{A:Option Addr}{c:Nat}(M:eY P t e size bytes){j:List (Option Tmp)}{E:Act->World->Prop}{S:World->Prop}{r:eT}{tmps:Array Value}{defers:List Deferred}{o:Oper}{d:Nat}{s x:Operand}(hd:o.dst=some d)(hw:bA o j tmps=true)
  (ho:o.op= .call {callee:= .builtin .append,args:= #[s,x],argTypes:= #[t,t]}) (hs:Act.eval ⟨tmps,defers⟩ s=v) (hc:W.ownsRow base e size v n xs) (hx:Act.eval ⟨tmps,defers⟩ x=.slice A m c) (hS:Sl W A news)
  (hl:Z news=m*size) (N:∀u∈news,u.oneCell'=true) (hb:(n+m)*bytes<=140737488355328) (B:base<=W.heap.size)
  (h:∀D G,G.ownsRow base e size D (n+m) (xs++news)->W.grownBy G v.ownBlock->S G/\ct P j E r S ⟨tmps.setIfInBounds d D,defers⟩ G):
  kj P j o (λK w'=>∃I:World->Prop,(∀w,I w->S w)/\I w'/\ct P j E r I K w') ⟨tmps,defers⟩ W:=by
 obtain⟨D,w',C,h2,T,h4⟩:=nK M o.type (c:=c) hc hl hS N hb B;obtain⟨h7,h8⟩:=h D w' h2 T;refine az (v:=D) (w':=w') hd hw ?_ h7 h8;unfold execOp;simp only[ho,resolve,invoke,builtin,Sem.run_bind,Sem.run_pure,Result.andThen_ok,List.map_toArray,List.map_cons,List.map_nil,hs,hx,C]
def Jb (g:Nat) (B C:Value) (r:List aT×Nat×Int) (w:World) (e:Ending) (w':World):Prop:=
 w.grownBy w' (some g)/\((r.2.2=0/\∃v j,e=.returned v/\j.map (·.m)=r.1/\(∀m∈j,nS m)/\ab w' g 77 (cL B r.2.1 C)/\ai (⟨w.heap.size,55,7,v,Z j,av dy j⟩::fc w.heap.size j) w')\/(r.2.2≠0/\io r.2.2 e/\∃D,ab w' g 77 (cL B D C)))
end
section
open Go Go.RowKit
attribute [local go_sem] Oper.semAt_some
open Go.Lib renaming hid→O
open List renaming setIfInBounds_toArray→U,set_cons_succ→Z,set_cons_zero→V,length→OA,drop_succ_cons→OB,drop_zero→OC,length_singleton→OI,length_append→OJ,mem_map→ON
open Go.Proofs.YthhijgcfbjcgiaaGreatDoor.cb renaming take→Y,step→OD
open Go.Value renaming slice→X,int→OH,pointer→OO
open Int renaming toNat_natCast→J
open Go.Obj renaming cells→OE
open Go.IntKind renaming wrap_i64→OF,i64→OG,i64→OK
open Nat renaming le_refl→OL,lt_irrefl→OM
set_option maxRecDepth 100000 in
set_option maxHeartbeats 16000000 in
theorem wF (g:Nat)(A:Option Addr)(n c:Nat)(l:List UInt8)(p0:Nat)(sv:Value)(f nm:Int)(w:World)(hb:ab w g 77 (cL (X A n c) p0 sv))(hE:AI w g A l)(hn:OA l=n)(hsz:n<=2 ^ 40)(hp:p0<=8*n)(hf:f=0\/f=1)(LF:nm∈aJ f):
  Calls Tryz.prog 89 #[OO (some ⟨g,0,none⟩),OH OG f,OH OG nm] w (Jb g (X A n c) sv (bL l f nm (8*OA l+1) p0 co) w):=by
 have KN:=O hE;have HN:=O hn;have Lo:=O (And.intro hf LF);obtain⟨r,j⟩:∃r,bL l f nm (8*OA l+1) p0 co=r:=⟨_,rfl⟩;rw[j];obtain⟨hl,KU⟩:∃hl,w.heap.size=hl:=⟨_,rfl⟩
 have h0:lW w g hl (X A n c) sv p0 co (X none 0 0) [] (w.alloc (OE #[OH OG 0,.bool false,OH OG 0,OH OG 0] 102)):=
  ⟨F5 w g _,hb.alloc _,aH (ab.new _ _ _) KU,by omega,ai.cons (World.ownsRow_nil _ _ _ _) (aA _)⟩
 have ja:=O h0;have Mh:=O KU;have LV:=O j;have Lr:=O hp;have fW:Hid (n<=2 ^ 47):=O (by omega);clear hE hf LF j h0 hb hp
 go_enter Tryz.func89,Tryz.ntmps89
 go_wp2_with fail
 go_step3
 go_wp2_with fail
 go_step3
 go_wp2_with fail
 (try rw[KU]);generalize w.alloc (OE #[OH OG 0,.bool false,OH OG 0,OH OG 0] 102)=W1 at ja⊢;clear KU
 go_loopg [6] (8*n+1 - p0) (λgk v=> λwr=>∃(k p:Nat)(x:bi)(es:List dF),p+gk=8*n+1/\p<=8*n/\Hid (8*n<p+k)/\Hid (r=(es.map (·.m)++(bL l f nm k p x).1,(bL l f nm k p x).2.1,(bL l f nm k p x).2.2))/\Hid (lW w g hl (X A n c) sv p x v es wr)/\Hid (0<=x.ad/\x.ad<=33/\(OA es:Int)<=x.ad)/\Hid (∀m∈es,nS m))
 case atStart=>exact⟨8*OA l+1,p0,co,[],by have:=Lr.out;omega,Lr.out,O (by have:=HN.out;omega),O (by rw[LV.out];rfl),ja,O (by decide),O (λm hm=>by cases hm)⟩
 case round=>
  obtain⟨k,p,x,es,LG,gy,HK,HE,HS,HX,HQ⟩:=hrel;obtain⟨k,rfl⟩:∃k',k=k'+1:=⟨k - 1,by have:=HK.out;omega⟩;obtain⟨Av,cv,hv⟩:=aP HS.out.rows.head;dsimp only at hv;subst hv;have wj:Below wr.heap.size wr wr.drew:=(Below.refl _ _).drew;have N:=O (HS.out.below wj);have Ld:=KN.out _ N.out.gb;have CA:=ze A n c l (p:Int) wr.drew Ld.1 Ld.2.2 hn (by have:=fW.out;omega) (by omega);rw[Ig] at CA;obtain⟨⟨d,nb,e⟩,hd⟩:∃z,dz l (p:Int)=z:=⟨_,rfl⟩;have KT:= @rq l (p:Int) (by omega) (by rw[hn];omega);rw[hd] at CA KT;dsimp only at CA KT;have KM:=O CA;have HD:=O hd;have L7:=O KT;have Ls:=O LG;clear wj Ld CA hd KT LG;go_wp2_with fail
  refine bf (λw'=>ab w' g 77 (cL (X A n c) p sv)) 17 (Y 0 (Y 1 (Y 2 (Y 3 (Y 4 (Y 5 (Y 6 (Y 7 (Y 8 (Y 9 (OD 10 (Y 11 (Y 12 (Y 13 (Y 14 (OD 15 (OD 16 .done))))))))))))))))) (N.out.pr) (λPE cz=>?_)
  iterate 10
   refine aj (v:=?_) rfl (by rfl) ?_ ?_
   rotate_left
   ·intro _ K;(try dsimp only at K);have a:=K;unfold cL at a;have a0:=a.cell 0;have a1:=a.cell 1;(try dsimp only at a0 a1);go_simp;(try with_reducible rfl)
   simp only[U,V,Z]
  refine aX (f:=143) rfl (by rfl) (by first|(go_simp;done)|(go_simp;rfl)) KM.out ?_;rintro e1 w2 ⟨rfl,Ly⟩;have B:=O (N.out.below Ly);refine⟨_,rfl,_,λ_ h=>h,B.out.pr,?_⟩;simp only[U,V,Z]
  iterate 4
   refine aj (v:=?_) rfl (by rfl) ?_ ?_
   rotate_left
   ·intro _ K;(try dsimp only at K);go_simp;(try with_reducible rfl)
   simp only[U,V,Z]
  refine az (v:=?_) (w':=?_) rfl (by rfl) ?_ ?_ ?_;rotate_left 2
  ·go_simp;(try (constructor<;>with_reducible rfl))
  ·exact B.out.pr
  simp only[U,V,Z];refine az (v:=?_) (w':=?_) rfl (by rfl) ?_ ?_ ?_;rotate_left 2
  ·go_simp;(try (constructor<;>with_reducible rfl))
  ·exact B.out.pr
  simp only[U,V,Z];refine cz _ _ ?_;clear cz PE;simp only[OB,OC];clear Ly KM N HS;go_wp2_with fail
  refine⟨rfl,?_⟩
  by_cases KF:e=5
  ·subst KF
   have CO:=O (rf g A n c l p sv w2 B.out.pr (KN.out _ B.out.gb).2.2 HN.out (by have:=fW.out;omega) gy)
   cases ho:dB l p with
   |true=>
    have j:=HE.out;rw[Bl HD.out ho] at j;subst j;rw[ho] at CO;clear ho gy;go_wp2_with (go_at_call 47;refine CO.out.mono ?_;rintro e3 w3 ⟨rfl,rfl⟩)
    (try rw[Exit.noGoto_ret]);go_ret;exact⟨B.out.gb,.inl ⟨rfl,_,es,rfl,by simp,HQ.out,B.out.pr,B.out.rows⟩⟩
   |false=>
    have j:=HE.out;rw[Ev HD.out ho] at j;subst j;rw[ho] at CO;clear ho gy;go_wp2_with (first|(go_at_call 47;refine CO.out.mono ?_;rintro e3 w3 ⟨rfl,rfl⟩)|(go_at_call 87;refine(dW g nb 5 (by decide) _).mono ?_;rintro e3 w3 ⟨M,rfl⟩;unfold io at M;subst M))
    exact⟨rfl,B.out.gb,.inr ⟨by simp,rfl,p,B.out.pr⟩⟩
  by_cases KE:e=0
  ·subst KE
   have L7:=O (L7.out rfl)
   by_cases kz:d=34
   ·subst kz
    have j:=HE.out;rw[Bn HD.out] at j;subst j;clear gy;go_wp2_with fail
    (try rw[Exit.noGoto_ret]);go_ret;exact⟨B.out.gb,.inl ⟨rfl,_,es,rfl,by simp,HQ.out,B.out.pr,B.out.rows⟩⟩
   obtain⟨dn,J2,Lb,LE,dt⟩:=L7.out kz;have LH:=ph dn J2;obtain⟨C,Mb⟩:∃C:Nat,nb=(C:Int):=⟨_,LE⟩;subst Mb;rw[hn] at dt;have LD:1<=C:=(by omega);have KL:OK.wrap ((p:Int)+(C:Int))=(p:Int)+(C:Int):=(by rw[OF];omega);have L8:=O KL;have Lk:=B.out.at (p+C);rw[show ((p+C:Nat):Int)=(p:Int)+(C:Int) by omega] at Lk;have jT:=O Lk;have K0:=O (show p+C<=8*n by omega);have KO:=O LD;clear LH LE dt KL Lk LD;have Mf:(d==34)=false:=by simpa using kz
   by_cases K5:d=0
   ·subst K5
    have j:=HE.out;rw[Bm HD.out,J] at j;have HR:=O j;clear j gy J2 Lb;go_wp2_with (go_at_call 87;refine(ff g (X A n c) sv p (C:Int) _ B.out.pr L8.out).mono ?_;rintro e3 w3 ⟨⟨u,rfl⟩,rfl⟩)
    go_roundg (8*n+1 - (p+C))
    case measure=>have:=Ls.out;have:=KO.out;have:=K0.out;omega
    case rel=>exact⟨k,p+C,x,es,by have:=K0.out;omega,K0.out,O (by have:=HK.out;have:=KO.out;omega),HR,jT,HX,HQ⟩
   have Mg:(d==0)=false:=(by simpa using K5);have Lc:1<=d/\d<=33:=(by omega);have CN:=O (λW=>wQ x.ad d W (by have:=HX.out;omega) (by omega));have LL:=HX.out
   have Lf:ks x.ad d=if 33<x.ad+d then(0,13) else(x.ad+d,0):=by
    unfold ks;rw[if_neg (by omega)]
   rw[Lf] at CN;have G:=jT.out.la;unfold jm at G;have y0:=G.cell 0;(try dsimp only at y0)
   by_cases K2:33<x.ad+d
   ·rw[if_pos K2] at CN
    have j:=HE.out;rw[Bj HD.out kz K5 K2] at j;subst j;clear gy J2 Lb Lc LL Lf G K2 kz K5;go_wp2_with fail
    refine(ff g (X A n c) sv p (C:Int) _ B.out.pr L8.out).mono ?_;rintro e3 w3 ⟨⟨u,rfl⟩,rfl⟩;go_wp2_with (go_at_call 144;refine(CN.out _).mono ?_;rintro e4 w4 ⟨rfl,rfl⟩)
    refine(dW g 0 13 (by decide) _).mono ?_;rintro e3 w3 ⟨M,rfl⟩;unfold io at M;subst M;exact⟨rfl,jT.out.gb,.inr ⟨by simp,rfl,p+C,jT.out.pr⟩⟩
   rw[if_neg K2] at CN;have LJ:OK.wrap (((p+C:Nat):Int)+0)=((p+C:Nat):Int)+0:=(by have:=K0.out;rw[OF];omega);have Ip:((p+C:Nat):Int)=(p:Int)+(C:Int):=(by omega);obtain⟨⟨m,KX,er⟩,hm⟩:∃z,b9 l ((p+C:Nat):Int) (x.ad+d) x=z:=⟨_,rfl⟩;have Le:= @rG l ((p+C:Nat):Int) (x.ad+d) x (by omega) (by rw[hn];have:=K0.out;omega);have CG:=O (λW (h1:Sl W A (l.map af)) (h2:Ts W)=>Ep A n c l ((p+C:Nat):Int) (x.ad+d) x W h1 HN.out fW.out h2 (by have:=K0.out;have:=fW.out;omega));rw[hm] at Le CG;rw[Ip] at CG;unfold dK at CG;have LT:=O Le;have HM:=O hm;have M5:=O LJ;have KM:=O Ip;have H3:=O (show d≠34/\d≠0/\¬33<x.ad+d from⟨kz,K5,K2⟩);have LN:=O Lc;clear gy J2 Lb Lc LL Lf G K2 kz K5 Le hm LJ Ip;go_wp2_with fail
   refine(ff g (X A n c) sv p (C:Int) _ B.out.pr L8.out).mono ?_;rintro e3 w3 ⟨⟨u,rfl⟩,rfl⟩;go_wp2_with (go_at_call 144;refine(CN.out _).mono ?_;rintro e4 w4 ⟨rfl,rfl⟩)
   refine(ff g (X A n c) sv (p+C) 0 _ jT.out.pr M5.out).mono ?_;rintro e3 w3 ⟨⟨u2,rfl⟩,Lm⟩;have Li:=jT.out.at (p+C);rw[Int.add_zero] at Lm;rw[<-Lm] at Li;have M4:=O Li;clear Lm Li y0 jT B CN
   go_upto_region 10 with fail
   have N:=O (M4.out.below (Below.refl _ _).drew);have KY:=O (KN.out _ N.out.gb)
   go_cut [12,9,10] (λMe s9 Md wx=>∃(D:Nat)(A6:Option Addr)(c6:Nat)(xs:List ew),Me=OO (some ⟨D,0,none⟩)/\s9=OH OG KX/\Md=OH OG er/\Hid (lW w g hl (X A n c) sv (p+C) x (X Av (OA es) cv) es wx)/\Hid (ab wx D 55 (bP m (X A6 (OA xs) c6)))/\Hid (m.bl=xs.map (·.1))/\Hid (ai (kW w.heap.size ⟨m,xs,A6,c6⟩) wx)/\Hid ((Value.slice Av (OA es) cv).ownBlock≠some D))
   case first=>
    have LI:=N.out.pr;have G:=N.out.la;have ja:=O (show aa [(g,77,cL (X A n c) (p+C) sv),(hl,102,jm x)] w3.drew from aa.cons LI (aa.cons G (ag _)));clear LI G;refine bf (λw'=>aa [(g,77,cL (X A n c) (p+C) sv),(hl,102,jm x)] w') 20 (Y 0 (Y 1 (Y 2 (Y 3 (Y 4 (Y 5 (Y 6 (Y 7 (Y 8 (Y 9 (Y 10 (Y 11 (.fork 12 (Y 13 (Y 14 (Y 15 (Y 16 (OD 17 (OD 18 (OD 19 (.done)))))))) 17 (OD 12 (Y 13 (Y 14 (Y 15 (Y 16 (OD 18 (OD 19 (.done))))))))))))))))))))) (ja.out) (λPE cz=>?_)
    iterate 12
     refine aj (v:=?_) rfl (by rfl) ?_ ?_
     rotate_left
     ·intro _ K;(try dsimp only at K);have a:=K.head;have b:=K.tail.head;unfold cL at a;unfold jm at b;have a0:=a.cell 0;have a1:=a.cell 1;have b0:=b.cell 0;have b1:=b.cell 1;have b2:=b.cell 2;have b3:=b.cell 3;(try simp only[KM.out] at a1);(try dsimp only at a0 a1 b0 b1 b2 b3);go_simp;(try with_reducible rfl)
     simp only[U,V,Z]
    refine⟨?_,?_⟩
    ·refine aX (f:=145) rfl (by rfl) (by first|(go_simp;done)|(go_simp;rfl)) (CG.out _ KY.out.2.2 KY.out.2.1) ?_
     rintro e4 w4 ⟨K4,v6,xs,bE,Io,T,gJ⟩;obtain⟨A6,c6,Ll⟩:=aP T;subst Ll;unfold bP at bE;dsimp only at bE Io T;subst bE;have aB:=O (N.out.below K4);have K9:=O Io;have KJ:w.heap.size<=w3.drew.heap.size:=N.out.gb.size;have K1:Hid (ai (kW w.heap.size ⟨m,xs,A6,c6⟩) w4):=O (ai.cons (bX T KJ) λr j=>by obtain⟨b,La,rfl⟩:=ON.1 j;exact bX (gJ b La) KJ);have K3:=ja.out.below K4;refine⟨_,rfl,_,λ_ h=>h,K3,?_⟩;simp only[U,V,Z]
     iterate 4
      refine aj (v:=?_) rfl (by rfl) ?_ ?_
      rotate_left
      ·intro _ K;(try dsimp only at K);go_simp;(try with_reducible rfl)
      simp only[U,V,Z]
     clear Io T gJ;obtain⟨D,dD⟩:∃D,w4.heap.size=D:=⟨_,rfl⟩;refine az (v:=?_) (w':=?_) rfl (by rfl) ?_ ?_ ?_;rotate_left 2
     ·go_simp;(try (constructor<;>with_reducible rfl))
     ·exact K3.alloc _
     simp only[U,V,Z];refine bG _ (w':=?_) rfl (by rfl) ?_ ?_ ?_;rotate_left 1
     ·go_simp;(first|(with_reducible rfl)|(constructor<;>with_reducible rfl)|skip)
     ·exact K3.alloc _
     refine az (v:=?_) (w':=?_) rfl (by rfl) ?_ ?_ ?_;rotate_left 2
     ·go_simp;(try (constructor<;>with_reducible rfl))
     ·exact K3.alloc _
     simp only[U,V,Z];refine cz _ _ ?_;clear cz PE;simp only[OB,OC];go_wp2_with fail
     refine⟨rfl,?_⟩;go_wp2_with fail
     go_meet
     case rel=>
      have LA:Below w4.heap.size w4 (w4.alloc (OE (bP m (X A6 (OA xs) c6)) 55)):=(Below.refl _ _).alloc (OL _) _;exact⟨D,A6,c6,xs,rfl,rfl,rfl,O (aB.out.below LA),O (aH (ab.new _ _ _) dD),K9,O (cD K1.out LA),O (λe=>by have:=(aB.out.rows.head.lt D e).2;rw[dD] at this;exact OM _ this)⟩
    ·have KZ:w.heap.size<=w3.drew.heap.size:=N.out.gb.size
     obtain⟨D,dD⟩:∃D,w3.heap.size=D:=⟨_,rfl⟩;have KR:Hid ((Value.slice Av (OA es) cv).ownBlock≠some D):=O (λe=>by have:=(N.out.rows.head.lt D e).2;rw[<-dD] at this;exact OM _ this);refine az (v:=?_) (w':=?_) rfl (by rfl) ?_ ?_ ?_;rotate_left 2
     ·go_simp;(try (constructor<;>with_reducible rfl))
     ·exact ja.out.alloc _
     simp only[U,V,Z];have aC:Below w3.drew.heap.size w3.drew (w3.drew.alloc (OE (bP m0 (X none 0 0)) 55)):=(Below.refl _ _).alloc (OL _) _;have KI:=(KN.out _ N.out.gb);have L9:ab (w3.drew.alloc (OE (bP m0 (X none 0 0)) 55)) D 55 (bP m0 (X none 0 0)):=aH (ab.new _ _ _) dD;refine aX (f:=145) rfl (by rfl) (by first|(go_simp;done)|(go_simp;rfl)) (CG.out _ (KI.2.2.below aC) (KI.2.1.below aC)) ?_;rintro e4 w4 ⟨K4,v6,xs,bE,Io,T,gJ⟩;obtain⟨A6,c6,Ll⟩:=aP T;subst Ll;unfold bP at bE;dsimp only at bE Io T;subst bE;have I:=L9.below K4 L9.lt;have aB:=O ((N.out.below aC).below K4);have K9:=O Io;have KJ:w.heap.size<=(w3.drew.alloc (OE (bP m0 (X none 0 0)) 55)).heap.size:=Nat.le_trans KZ aC.size;have K1:Hid (ai (kW w.heap.size ⟨m,xs,A6,c6⟩) w4):=O (ai.cons (bX T KJ) λr j=>by obtain⟨b,La,rfl⟩:=ON.1 j;exact bX (gJ b La) KJ);have K3:=(ja.out.below aC).below K4;refine⟨_,rfl,_,λ_ h=>h,K3,?_⟩;simp only[U,V,Z]
     iterate 4
      refine aj (v:=?_) rfl (by rfl) ?_ ?_
      rotate_left
      ·intro _ K;(try dsimp only at K);go_simp;(try with_reducible rfl)
      simp only[U,V,Z]
     have hU:=O I;have k0:=I.frozen 0;have k1:=I.frozen 1;have k2:=I.frozen 2;have k3:=I.frozen 3;have k4:=I.frozen 4;have k5:=I.frozen 5;have k6:=I.frozen 6;unfold bP m0 at I;have j0:=I.cell 0;have j1:=I.cell 1;have j2:=I.cell 2;have j3:=I.cell 3;have j4:=I.cell 4;have j5:=I.cell 5;have j6:=I.cell 6;simp at j0 j1 j2 j3 j4 j5 j6;have KC:=O (Iv aB.out hU.out (by rw[<-dD];exact KZ) KR.out m (X A6 (OA xs) c6));have LZ:=O (vB K1.out hU.out (qw (by decide) (by decide)) m (X A6 (OA xs) c6));have LR:=O (Bi hU.out m (X A6 (OA xs) c6));clear Io T gJ L9 I aC KI;refine bG _ (w':=?_) rfl (by rfl) ?_ ?_ ?_;rotate_left 1
     ·go_simp;(first|(with_reducible rfl)|(constructor<;>with_reducible rfl)|skip)
     ·exact aa.cons KC.out.pr (aa.cons KC.out.la (ag _))
     refine az (v:=?_) (w':=?_) rfl (by rfl) ?_ ?_ ?_;rotate_left 2
     ·go_simp;(try (constructor<;>with_reducible rfl))
     ·exact aa.cons KC.out.pr (aa.cons KC.out.la (ag _))
     simp only[U,V,Z];refine cz _ _ ?_;clear cz PE;simp only[OB,OC];go_wp2_with fail
     refine⟨rfl,?_⟩;go_wp2_with fail
     go_meet
     case rel=>exact⟨D,A6,c6,xs,rfl,rfl,rfl,KC,LR,K9,LZ,KR⟩
   obtain⟨D,A6,c6,xs,rfl,rfl,rfl,aB,hU,K9,K1,KR⟩:=hcut
   by_cases KG:er=0
   ·subst KG
    obtain⟨KW,had,M6,L0,dt,L4⟩:=LT.out rfl;(try dsimp only at KW had L0 dt L4);obtain⟨n2,M9⟩:∃n2:Nat,KX=(n2:Int):=⟨KX.toNat,by omega⟩;subst M9;rw[hn] at dt;have KL:OK.wrap (((p+C:Nat):Int)+(n2:Int))=((p+C:Nat):Int)+(n2:Int):=(by have:=fW.out;rw[OF];omega);have Lx:=O KL;have KH:p+C+n2<=8*n:=(by omega);have Kr:=O KH;have Mj:=O (show 1<=n2 by omega);have Mi:=O KW;have LM:=O had;have CF:=O (λW=>rc m A6 (OA xs) c6 f nm KW Lo.out.1 Lo.out.2 W);have L5:=O (λW=>qQ m A6 (OA xs) c6 W);unfold fI at CF L5;clear KW had M6 L0 dt L4 KL KH;go_wp2_with fail
    refine(ff g (X A n c) sv (p+C) (n2:Int) _ aB.out.pr Lx.out).mono ?_;rintro e5 w5 ⟨⟨u5,rfl⟩,LK⟩;have Lj:=aB.out.at (p+C+n2);have KV:=hU.out.far (p:=⟨g,1,none⟩) (λe=>aU (show ab wc D 55 (bP m (X A6 (OA xs) c6)) from hU.out) aB.out.pr (by decide) e) (OH OG ((p+C+n2:Nat):Int));have Lh:=br K1.out aB.out.pr (qw (by decide) (by decide)) 1 (OH OG ((p+C+n2:Nat):Int));rw[show ((p+C+n2:Nat):Int)=((p+C:Nat):Int)+(n2:Int) by omega,<-LK] at Lj KV Lh;have Lu:=O Lj;have Lp:=O KV;have LW:=O Lh;clear LK Lj Lh aB hU K1;have dY:=KV;unfold bP at dY;have j0:=dY.cell 0;have j1:=dY.cell 1;have j2:=dY.cell 2;have j3:=dY.cell 3;have j4:=dY.cell 4;have j5:=dY.cell 5;have j6:=dY.cell 6;simp at j0 j1 j2 j3 j4 j5 j6;clear KV dY
    cases K6:iM f nm m with
    |false=>
     have j:=HE.out;rw[Ex HD.out (by have:=H3.out;omega) (by have:=H3.out;omega) (by have:=H3.out;omega) (by rw[J,HM.out]) (by rw[J,HM.out];exact K6)] at j;subst j;rw[K6] at CF;clear K6;go_wp2_with (go_at_call 77;refine(CF.out _).mono ?_;rintro e6 w6 ⟨rfl,rX⟩;have KQ:=O (Lu.out.below rX);clear rX)
     refine(dW g 0 12 (by decide) _).mono ?_;rintro e7 w7 ⟨M,rfl⟩;unfold io at M;subst M;exact⟨rfl,KQ.out.gb,.inr ⟨by simp,rfl,p+C+n2,KQ.out.pr⟩⟩
    |true=>
     have j:=HE.out;rw[Bk HD.out (by have:=H3.out;omega) (by have:=H3.out;omega) (by have:=H3.out;omega) (by rw[J,HM.out]) (by rw[J,HM.out];exact K6)] at j;rw[J,HM.out] at j;dsimp only at j;rw[J] at j;have M0:=O j;rw[K6] at CF;clear K6 j;go_wp2_with (go_at_call 77;refine(CF.out _).mono ?_;rintro e6 w6 ⟨rfl,rX⟩;have KQ:=O (Lu.out.below rX);have Lq:=O (Lp.out.below rX Lp.out.lt);have LX:=O (cD LW.out rX);clear rX)
     have wj:Below w6.heap.size w6 w6.drew:=(Below.refl _ _).drew;have Lw:=O (KQ.out.below wj);have Iq:=O (Lq.out.below wj Lq.out.lt);have Lt:=O (cD LX.out wj);clear wj;refine bf (λw'=>ab w' D 55 (bP m (X A6 (OA xs) c6))) 5 (Y 0 (Y 1 (Y 4 (OD 2 (OD 3 .done))))) (Iq.out) (λPE cz=>?_)
     iterate 3
      refine aj (v:=?_) rfl (by rfl) ?_ ?_
      rotate_left
      ·intro _ K;(try dsimp only at K);have a:=K;unfold bP at a;have a0:=a.cell 0;have a1:=a.cell 1;have a2:=a.cell 2;have a3:=a.cell 3;have a4:=a.cell 4;have a5:=a.cell 5;have a6:=a.cell 6;(try dsimp only at a0 a1 a2 a3 a4 a5 a6);go_simp;(try with_reducible rfl)
      simp only[U,V,Z]
     refine az (v:=?_) (w':=?_) rfl (by rfl) ?_ ?_ ?_;rotate_left 2
     ·go_simp;(try (constructor<;>with_reducible rfl))
     ·exact Iq.out.alloc _
     simp only[U,V,Z];have aC:Below w6.drew.heap.size w6.drew (w6.drew.alloc (OE (dy ⟨m,xs,A6,c6⟩).toArray 55)):=(Below.refl _ _).alloc (OL _) _;have dE:=O (Lw.out.below aC);have LQ:=O (Iq.out.below aC Iq.out.lt);have LY:=O (cD Lt.out aC);have KK:(w6.drew.alloc (OE (dy ⟨m,xs,A6,c6⟩).toArray 55)).ownsRow w.heap.size 55 7 (X Av (OA es) cv) (OA es) (av dy es):=dE.out.rows.head;refine vO Hh rfl (by rfl) rfl rfl KK rfl (news:=dy ⟨m,xs,A6,c6⟩) (m:=1) (by have h:=ab.sl (ab.new w6.drew 55 (dy ⟨m,xs,A6,c6⟩).toArray) 0;exact h) rfl (by intro u hu;simp only[dy,List.mem_cons,List.mem_nil_iff,or_false] at hu;rcases hu with rfl|rfl|rfl|rfl|rfl|rfl|rfl<;>rfl) (by have:=HX.out;omega) (dE.out.gb.size) ?_;intro v7 w7 Lg K8;obtain⟨Ax,cx,Mc⟩:=aP Lg;subst Mc
     have LC:lW w g hl (X A n c) sv (p+C+n2) x (X Ax (OA es+1) cx) (es++[⟨m,xs,A6,c6⟩]) w7:=by
      have eE:=KK;refine⟨xA dE.out.gb K8 (λk e=>(eE.lt k e).1),dE.out.pr.grown K8 (ba eE dE.out.pr (by decide)),dE.out.la.grown K8 (ba eE dE.out.la (by decide)),dE.out.hl,?_⟩;have M8:(es++[(⟨m,xs,A6,c6⟩:dF)]).length=OA es+1:=(by rw[OJ,OI]);refine ai.cons ?_ ?_
      ·rw[M8,eo,dV]
       exact Lg
      ·have M7:fc w.heap.size (es++[(⟨m,xs,A6,c6⟩:dF)])=fc w.heap.size es++kW w.heap.size ⟨m,xs,A6,c6⟩:=by unfold fc;rw[List.flatMap_append];simp
       rw[M7];have hk:∀R:List aV,ai R (w6.drew.alloc (OE (dy ⟨m,xs,A6,c6⟩).toArray 55))->(∀r∈R,r.e≠55)->ai R w7:= λR hR Ma r j=>(hR r j).kept K8 (ji eE (hR r j) (Ne.symm (Ma r j)));exact(hk _ dE.out.rows.tail (by intro r j;rcases nC r j with h|h<;>rw[h]<;>decide)).app (hk _ LY.out (qw (by decide) (by decide)))
     have LU:=O LC;have LP:=O (LQ.out.grown K8 KR.out);refine⟨LP.out,?_⟩;simp only[U,V,Z];refine cz _ _ ?_;clear cz PE;simp only[OB,OC];clear LC Lg K8 KK aC;unfold dK at L5;go_wp2_with (go_at_call 64;refine(L5.out _).mono ?_;rintro e8 w8 ⟨rfl,Lz⟩;have Lv:=O (LU.out.below Lz);have G:=Lv.out.la;unfold jm at G;have z0:=G.cell 0;have z1:=G.cell 1;have z2:=G.cell 2;have z3:=G.cell 3;have f0:=G.frozen 0;have f1:=G.frozen 1;have f2:=G.frozen 2;have f3:=G.frozen 3;(try dsimp only at z0 z1 z2 z3 f0 f1 f2 f3);clear G Lz)
     refine⟨rfl,?_⟩;go_wp2_with fail
     go_roundg (8*n+1 - (p+C+n2))
     case measure=>have:=Ls.out;have:=KO.out;have:=Kr.out;omega
     case rel=>
      refine⟨k,p+C+n2,ed m,es++[⟨m,xs,A6,c6⟩],by have:=Kr.out;omega,Kr.out,O (by have:=HK.out;have:=KO.out;omega),O ?_,O (Lv.out.last (ed m)),O ?_,O ?_⟩
      ·rw[M0.out];simp
      ·rw[kC,OJ,OI]
       have:=LM.out;have:=HX.out;have:=H3.out;have:=LN.out;omega
      ·intro y hy
       rcases List.mem_append.1 hy with hy|hy
       ·exact HQ.out y hy
       ·rw[List.mem_singleton] at hy
        subst hy;exact K9.out
   ·have j:=HE.out
    rw[Ew HD.out (by have:=H3.out;omega) (by have:=H3.out;omega) (by have:=H3.out;omega) (by rw[J,HM.out];exact KG),J,HM.out] at j;dsimp only at j;subst j;have LO:=O KG;have L6:=O (dO KG);clear KG;go_wp2_with fail
    refine(dW g KX er LO.out _).mono ?_;rintro e7 w7 ⟨M,rfl⟩;unfold io at M;subst M;exact⟨rfl,aB.out.gb,.inr ⟨L6.out,rfl,p+C,aB.out.pr⟩⟩
  ·have j:=HE.out
   rw[Eu HD.out KE KF] at j;subst j;have LB:dQ e=e:=(by unfold dQ;rw[if_neg KF]);have L6:=O LB;have Ln:=O KE;have k1:(e==5)=false:=(by simpa using KF);have k2:(e==0)=false:=(by simpa using KE);clear gy LB KE KF;go_wp2_with fail
   refine(dW g nb e Ln.out _).mono ?_;rintro e3 w3 ⟨M,rfl⟩;rw[L6.out] at M;unfold io at M;subst M;exact⟨rfl,B.out.gb,.inr ⟨Ln.out,rfl,p,B.out.pr⟩⟩
end
section
open Go Go.RowKit
open List renaming mem_cons→O,length→U,mem_map→Y
open Go.IntKind renaming i64→Z
open Go.Value renaming int→V,pointer→J
open Tryz renaming prog→X
theorem pY {B D:Nat}{ms:List dF}{W:World}(h:ai (fc B ms) W)(I:D<=B):ai (fc D ms) W:=by
 intro r M;obtain⟨p,K,j⟩:=List.mem_flatMap.1 M;have G:=vc h K;rcases O.1 j with rfl|j
 ·exact bX G.head I
 ·obtain⟨b,C,rfl⟩:=Y.1 j
  exact bX (G.tail (CL B b) (Y.2 ⟨b,C,rfl⟩)) I
def wK (num qu:Int) (u v:Value):Array Value:= #[V Z num,V Z qu,u,v]
structure oP (w:World) (g h2:Nat) (bv sv:Value) (p:Nat) (lr:aV) (tm ty:Int) (spv:Value) (sp:List UInt8) (v:Value) (gs:List cJ) (W:World):Prop where
 gb:w.grownBy W (some g)
 pr:ab W g 77 (cL bv p sv)
 sh:ab W h2 35 #[V Z tm,V Z ty,spv,v]
 h2:w.heap.size<=h2
 rows:ai (⟨w.heap.size,51,4,v,U gs,av fb gs⟩::⟨w.heap.size,5,1,spv,U sp,sp.map af⟩::lr::fP w.heap.size gs) W
 le:lr.e=3
theorem qc {B:Nat}{v spv:Value}{sp:List UInt8}{lr:aV}{gs:List cJ}{t:TypeId}(hl:lr.e=3)(C:t≠51)(h2:t≠5)(D:t≠3)(G:t≠55)(I:t≠93)(K:t≠189):
  ∀r∈(⟨B,51,4,v,U gs,av fb gs⟩::⟨B,5,1,spv,U sp,sp.map af⟩::lr::fP B gs:List aV),r.e≠t:=by
 intro r j;rcases O.1 j with rfl|j
 ·exact Ne.symm C
 rcases O.1 j with rfl|j
 ·exact Ne.symm h2
 rcases O.1 j with rfl|j
 ·rw[hl];exact Ne.symm D
 ·rcases qt r j with h|h|h|h<;>rw[h]
  ·exact Ne.symm h2
  ·exact Ne.symm G
  ·exact Ne.symm I
  ·exact Ne.symm K
section
variable {w:World} {g h2:Nat} {bv sv:Value} {p:Nat} {lr:aV} {tm ty:Int} {spv:Value} {sp:List UInt8} {v:Value} {gs:List cJ} {W W':World}
theorem oP.go (h:oP w g h2 bv sv p lr tm ty spv sp v gs W){q:Nat}(j:W.grownBy W' (some g))(B:ab W' g 77 (cL bv q sv)):oP w g h2 bv sv q lr tm ty spv sp v gs W':=
 ⟨h.gb.trans j,B,iT h.sh j (aU h.sh h.pr (by decide)),h.h2,BC h.rows h.pr j (qc h.le (by decide) (by decide) (by decide) (by decide) (by decide) (by decide)),h.le⟩
theorem oP.below (h:oP w g h2 bv sv p lr tm ty spv sp v gs W)(j:Below W.heap.size W W'):oP w g h2 bv sv p lr tm ty spv sp v gs W':=h.go (dw j (Nat.le_refl _)) (h.pr.below j h.pr.lt)
theorem oP.off (h:oP w g h2 bv sv p lr tm ty spv sp v gs W){k:Nat}{cs:Array Value}{t:TypeId}(j:ab W k t cs)(ht:t=51\/t=32)(D:w.heap.size<=k)(C:∀r∈(⟨w.heap.size,51,4,v,U gs,av fb gs⟩::⟨w.heap.size,5,1,spv,U sp,sp.map af⟩::lr::fP w.heap.size gs:List aV),r.v.ownBlock≠some k) (i:Nat) (u:Value):
  oP w g h2 bv sv p lr tm ty spv sp v gs (W.setCell ⟨k,i,none⟩ u):=
 ⟨df h.gb D _ _,h.pr.far (p:=⟨k,i,none⟩) (aU h.pr j (by rcases ht with rfl|rfl<;>decide)) _,h.sh.far (p:=⟨k,i,none⟩) (aU h.sh j (by rcases ht with rfl|rfl<;>decide)) _,h.h2,λr B=>eR (h.rows r B) ⟨k,i,none⟩ u (C r B),h.le⟩
theorem GN {R:List aV}(h:ai R W){k:Nat}(B:W.heap.size<=k):∀r∈R,r.v.ownBlock≠some k:= λr j e=>by
 have:=((h r j).lt k e).2;omega
end
theorem Hg:eY X 33 51 4 64:= .mk' (z:=.agg #[V Z 0,V Z 0,.slice none 0 0,.slice none 0 0]) (by kernel_rfl) (by kernel_rfl) rfl (by decide) (by decide)
def Jk (g:Nat) (j B:Value) (r:dI×Nat×Int) (w:World) (e:Ending) (w':World):Prop:=
 w.grownBy w' (some g)/\((r.2.2=0/\∃s:bu,e=.returned (iF s)/\s.s=r.1/\ki s/\ab w' g 77 (cL j r.2.1 B)/\ai (lc w.heap.size s) w')\/(r.2.2≠0/\io r.2.2 e/\∃C,ab w' g 77 (cL j C B)))
theorem GQ (h:Nat)(tm ty:Int)(u v:Value)(tmps:Array Value)(W:World)(j:ab W h 35 #[V Z tm,V Z ty,u,v])(C:tmps.getD 2 undef=J (some ⟨h,0,none⟩)):
  (results Tryz.f48 tmps).run X W= .ok (.agg #[V Z tm,V Z ty,u,v]) W:=by
 have c0:=j.cell 0;have c1:=j.cell 1;have c2:=j.cell 2;have c3:=j.cell 3;simp at c0 c1 c2 c3;have B:tmps[2]?.getD undef=J (some ⟨h,0,none⟩):=by simpa using C
 simp[results,Tryz.results48,B,asAddr,c0,c1,c2,c3,go_sem]
end
open Go Go.RowKit
attribute [local go_sem] Oper.semAt_some
set_option maxHeartbeats 16000000
set_option maxRecDepth 100000
open Go.Lib renaming hid→O
open Go.IntKind renaming wrap_i64→U,i64→V,i64→Y
open Go.Value renaming int→Z,slice→X,tuple→OM,pointer→OP
open List renaming length→J
open Nat renaming le_refl→OA
open Tryz renaming results147→OB,results95→OC,ntmps95→OH,prog→OI,func95→OJ,ntmps94→OK,func94→ON
open Int renaming tdiv_eq_ediv_of_nonneg→OD,tmod_eq_emod_of_nonneg→OE,toNat_natCast→OF
open Go.World renaming ownsRow_nil→OG
open Go.Ending renaming returned→OL
open Go.Obj renaming cells→OO
theorem yq (tm ty:Int)(A:Option Addr)(n c:Nat)(B:0<=ty/\ty<=63)(w:World):Calls OI 41 #[.agg #[Z V tm,Z V ty,X A n c]] w λe w'=>e=OL (Z V (dv ty))/\Below w.heap.size w w':=by
 have D:=O ((Below.refl _ w).alloc (OA _) (OO #[Z V tm,Z V ty,X A n c] 32));obtain⟨k,rfl⟩:=Int.eq_ofNat_of_zero_le B.1;have I:k<=63:=by omega
 have C:bits BinOp.and Y (k:Int) 63=(k:Int):=by
  have:∀j:Fin 64,bits BinOp.and Y ((j.1:Nat):Int) 63=((j.1:Nat):Int):=(by decide+kernel);exact this ⟨k,by omega⟩
 have K:Y.wrap ((k:Int) / 4)=(k:Int) / 4:=by rw[U];omega
 have G:((k:Int)).tdiv 4=(k:Int) / 4:=OD (by omega);have h2:((k:Int) / 4).tmod 2=(k:Int) / 4 % 2:=OE (by omega);unfold dv
 go_enter Tryz.func41,Tryz.ntmps41
 go_wp2_with fail
 go_ret;exact⟨rfl,D.out⟩
def yD (l:List UInt8) (p:Nat):List UInt8×Nat×Int:=if (dj l 32 p).2.2=0 then dj l 32 p else([],0,(dj l 32 p).2.2)
def nT (r:List UInt8×Nat×Int) (p:Nat) (w:World) (e:Ending) (w':World):Prop:=
 ∃v,e=OL (OM #[v,Z V (dR r.2 p),Z V r.2.2])/\Below w.heap.size w w'/\w'.ownsRow w.heap.size 5 1 v r.1.length (r.1.map af)
theorem rS {w W:World}{p:Nat}(e:Int)(he:e≠0)(j:Below w.heap.size w W):nT ([],0,e) p w (OL (OM #[X none 0 0,Z V 0,Z V e])) W:=
 ⟨X none 0 0,by unfold dR;rw[if_neg he],j,OG _ _ _ _⟩
theorem pW (A:Option Addr)(n c:Nat)(l:List UInt8)(p:Nat)(w:World)(hA:Sl w A (l.map af))(hn:J l=n)(hsz:n<=2 ^ 40)(hp:p<=8*n):
  Calls OI 147 #[X A n c,Z V (p:Int)] w (nT (yD l p) p w):=by
 have HA:=O hA;have HN:=O hn;have HP:=O hp;have RM:=O (λ(i m:Int) W (h0:0<=i) (h1:0<=m) (h2:m<=32) (h3:8*(n:Int)<i+m) (h4:i<=9223372036854775807)=>cZ A n c i m W h0 h1 h2 h3 h4 (by omega));have RD:=O (λ(v i m:Int) W (hv:v=(au l i.toNat m.toNat:Nat)) hr (h0:0<=i) (h1:0<=m) (h2:m<=32) (h3:i+m<=8*(n:Int))=>hv▸dL A n c l i m W hr hn h0 h1 h2 h3 (by omega));obtain⟨r,hr⟩:∃r,yD l p=r:=⟨_,rfl⟩;rw[hr];unfold yD at hr;have ja:=O hr;have Io:(p:Int)<=8*(n:Int):=by omega
 have rX:(n:Int)<=1099511627776:=by omega
 clear hA hn hp hr hsz
 go_enter Tryz.func147,Tryz.ntmps147
 go_wp2_with fail
 go_loopg [7,8] 33 (λgk v k=> λwr=>∃(pre:List UInt8),J pre+gk=33/\k=Z V (((9*J pre:Nat)):Int)/\Hid (rm l p pre)/\Hid (ar w [] [⟨w.heap.size,5,1,v,J pre,pre.map af⟩] wr))
 case atStart=>exact⟨[],rfl,rfl,O (rR _ _),O (fd (ju w) _ _ _)⟩
 case round=>
  obtain⟨pre,hj,rfl,HS,T⟩:=hrel;obtain⟨A5,c5,hv⟩:=aP T.out.2.2.head;dsimp only at hv;subst hv;have I:=HS.out.le;obtain⟨j,C⟩:∃j,J pre=j:=⟨_,rfl⟩;obtain⟨s,hs⟩:∃s,p+9*j=s:=⟨_,rfl⟩;have G:=HS.out.eq;rw[C,hs] at G;rw[C] at I hj⊢;have gJ:=O C;have wj:=O hs;have gy:Hid (ar w [] [⟨w.heap.size,5,1,X A5 j c5,j,pre.map af⟩] wr):=O (by have h:=T.out;rw[C] at h;exact h);have Ip:Y.wrap ((p:Int)+((9*j:Nat):Int))=(s:Int):=(by rw[U];omega);have dD:Y.wrap ((s:Int)+1)=(s:Int)+1:=(by rw[U];omega);have N:Y.wrap (((9*j:Nat):Int)+9)=((9*(j+1):Nat):Int):=(by rw[U];omega);have aB:Y.wrap (((9*j:Nat):Int)+1)=((s+1:Nat):Int) - (p:Int):=(by rw[U];omega);have B:=ja.out;rw[G] at B
  by_cases h1:8*n<s+1
  ·have C1:=O (λW=>RM.out (s:Int) 1 W (by omega) (by decide) (by decide) (by omega) (by omega))
   rw[um (by rw[HN.out];exact h1),if_neg (by simp)] at B;dsimp only at B;subst B;clear hj C hs G I h1 RM RD dD N aB;generalize ((9*j:Nat):Int)=kk at*;go_wp2_with (go_at_call 91;refine(C1.out _).mono ?_;rintro e w2 ⟨rfl,rfl⟩)
   (try rw[Exit.noGoto_ret]);exact bodyPost_ret (by simp[results,OB,go_sem]) rfl (rS 5 (by decide) T.out.1)
  have R1:=O (RD.out (aS l s:Nat) (s:Int) 1 wr (by rw[OF,show (1:Int).toNat=1 from rfl,gW]) (HA.out.below T.out.1) (by omega) (by decide) (by decide) (by omega))
  by_cases hb:aS l s=0
  ·rw[oJ (by rw[HN.out];omega) hb,if_pos (by rfl)] at B
   have D:((aS l s:Nat):Int)=0:=(by omega);rw[D] at R1;subst B;clear hj hs G I h1 RM RD dD N hb D;generalize ((9*j:Nat):Int)=kk at*;go_wp2_with (go_at_call 91;refine R1.out.mono ?_;rintro e w2 ⟨rfl,rfl⟩)
   (try rw[Exit.noGoto_ret]);refine bodyPost_ret (v:=OM #[X A5 j c5,Z V ((s:Int)+1 - (p:Int)),Z V 0]) (by simp[results,OB,go_sem]) rfl ⟨X A5 j c5,?_,T.out.1,?_⟩
   ·unfold dR
    rw[if_pos (by rfl)];simp
   ·have h:=T.out.2.2.head
    simp only[List.append_nil];rw[C] at h⊢;exact h
  have bE:=kD l s hb;have D:((aS l s:Nat):Int)=1:=(by omega);rw[D] at R1;have M:((j:Int)==32)=decide (j=32):=by rw[Bool.eq_iff_iff];simp;omega
  by_cases K:j=32
  ·have e0:32 - j=0:=by omega
   rw[e0,rP (by rw[HN.out];omega) hb,if_neg (by simp)] at B;have jT:((j:Int)==32)=true:=(by rw[M];simpa using K);dsimp only at B;subst B;clear hj hs G I h1 RM RD dD N aB hb D bE M e0 K;generalize ((9*j:Nat):Int)=kk at*;go_wp2_with (go_at_call 91;refine R1.out.mono ?_;rintro e w2 ⟨rfl,rfl⟩)
   (try rw[Exit.noGoto_ret]);exact bodyPost_ret (by simp[results,OB,go_sem]) rfl (rS 4 (by decide) T.out.1)
  have jT:((j:Int)==32)=false:=(by rw[M];simpa using K);have e1:32 - j=(31 - j)+1:=by omega
  by_cases h9:8*n<s+9
  ·have C8:=O (λW=>RM.out ((s:Int)+1) 8 W (by omega) (by decide) (by decide) (by omega) (by omega))
   rw[e1,rQ (by rw[HN.out];omega) hb (by rw[HN.out];exact h9),if_neg (by simp)] at B;dsimp only at B;subst B;clear hj hs G I h1 RM RD N aB hb D bE M e1 K h9;generalize ((9*j:Nat):Int)=kk at*;go_wp2_with fail
   refine R1.out.mono ?_;rintro e w2 ⟨rfl,rfl⟩;go_wp2_with fail
   refine(C8.out _).mono ?_;rintro e w2 ⟨rfl,rfl⟩;go_wp2_with fail
   (try rw[Exit.noGoto_ret]);exact bodyPost_ret (by simp[results,OB,go_sem]) rfl (rS 5 (by decide) T.out.1)
  have R8:=O (RD.out (au l (s+1) 8:Nat) ((s:Int)+1) 8 wr (by rw[show ((s:Int)+1).toNat=s+1 by omega];rfl) (HA.out.below T.out.1) (by omega) (by decide) (by decide) (by omega));have hx:=cW l (s+1) 8;have aC:=O (HS.out.next (by rw[C];omega) (by rw[C,hs];exact hb) (by rw[C,hs,HN.out];omega));rw[C,hs] at aC;obtain⟨x,dY⟩:∃x,au l (s+1) 8=x:=⟨_,rfl⟩;rw[dY] at R8 aC hx;have Iq:IntKind.u8.wrap (x:Int)=(x:Int):=(by rw[IntKind.wrap_u8];omega);have eE:Hid (af (UInt8.ofNat x)=Z .u8 (x:Int)):=O (by unfold af;rw[gG _ (by omega)]);have kz:j<=32:=(by omega);have hg:∃g,gk=g+1:=⟨gk - 1,by omega⟩;obtain⟨g,rfl⟩:=hg;have HJ:=O hj;clear hj hs G I h1 RM RD aB hb D bE M e1 K h9 B dY hx;obtain⟨k2,cz⟩:∃k:Int,((9*(j+1):Nat):Int)=k:=⟨_,rfl⟩;rw[cz] at N;have hU:=O cz;clear cz;generalize ((9*j:Nat):Int)=kk at*;go_wp2_with fail
  refine R1.out.mono ?_;rintro e w2 ⟨rfl,rfl⟩;go_wp2_with fail
  refine R8.out.mono ?_;rintro e w2 ⟨rfl,rfl⟩;go_wp2_with (at_builtin;refine bW jw rfl rfl 1 [Z .u8 (x:Int)] rfl gy.out rfl rfl (by intro u hu;simp at hu;subst hu;rfl) (by omega) ⟨OA _,T.out.1.size⟩ (by simp) (by simp) ?_;intro v6 W6 dE;have fW:=O dE;clear dE)
  go_roundg g
  case measure=>omega
  case rel=>
   have dt:(pre++[UInt8.ofNat x]).length=j+1:=(by rw[List.length_append,List.length_singleton,gJ.out]);refine⟨pre++[UInt8.ofNat x],by rw[dt];have:=HJ.out;omega,?_,O aC.out,O ?_⟩
   ·rw[dt,hU.out]
   ·have h:=fW.out
    rw[dt,List.map_append,List.map_singleton,eE.out];exact h
theorem EY (A:Option Addr)(n c:Nat)(l:List UInt8)(p:Nat)(w:World)(M:Sl w A (l.map af))(G:J l=n)(hsz:n<=2 ^ 40)(hp:p<=8*n):
  Calls OI 95 #[X A n c,Z V (p:Int)] w (rY (fa l p) p w):=by
 have HN:=O G;obtain⟨r,j⟩:∃r,fa l p=r:=⟨_,rfl⟩;rw[j];unfold fa at j
 by_cases K:8*n<p+5
 ·rw[if_pos (by rw[HN.out];exact K)] at j
  subst j;have C1:=O (λW=>cZ A n c (p:Int) 5 W (by omega) (by decide) (by decide) (by omega) (by omega) (by omega));clear M G hp K hsz
  go_enter OJ,OH
  go_wp2_with (go_at_call 91;refine(C1.out _).mono ?_;rintro e w2 ⟨rfl,rfl⟩)
  exact bodyPost_ret (by simp[results,OC,go_sem]) rfl (jg 5 (by decide) (Below.refl _ _))
 rw[if_neg (by rw[HN.out];exact K)] at j;have I:=O (dL A n c l (p:Int) 5 w M G (by omega) (by decide) (by decide) (by omega) (by omega));rw[OF,show (5:Int).toNat=5 from rfl] at I
 by_cases D:au l p 5=0
 ·rw[if_pos D] at j
  subst j;rw[D] at I;simp only[Int.natCast_zero] at I;clear M G hp K hsz D
  go_enter OJ,OH
  go_wp2_with (go_at_call 91;refine I.out.mono ?_;rintro e w2 ⟨rfl,rfl⟩)
  exact bodyPost_ret (by simp[results,OC,go_sem]) rfl (jg 9 (by decide) (Below.refl _ _))
 rw[if_neg D] at j;have aC:(((au l p 5:Nat):Int)==0)=false:=by simp[D]
 have cz:Y.wrap ((p:Int)+5)=((p+5:Nat):Int):=by rw[U];omega
 have B:=O (pW A n c l (p+5) w M G hsz (by omega));unfold nT yD at B;generalize au l p 5=q at*;have C:= @nN l 32 (p+5);generalize dj l 32 (p+5)=z at*;obtain⟨sp,en,er⟩:=z;dsimp only at j B C
 by_cases he:er=0
 ·subst he
  rw[if_pos rfl] at j B;subst j;obtain⟨_,aB,T⟩:=C rfl;unfold dR at B;rw[if_pos rfl] at B;dsimp only at B;have dt:Y.wrap (5+((en:Int) - ((p:Int)+5)))=(en:Int) - (p:Int):=(by rw[U];omega);clear M G hp K D hsz aB T C
  go_enter OJ,OH
  go_wp2_with (first|(go_at_call 91;refine I.out.mono ?_;rintro e w2 ⟨rfl,rfl⟩)|(go_at_call 147;refine B.out.mono ?_;rintro e w2 ⟨v,rfl,N,ho⟩;have HB:=O N;have HO:=O ho;clear N ho))
  exact bodyPost_ret (v:=OM #[Z V (q:Int),v,Z V ((en:Int) - (p:Int)),Z V 0]) (by simp[results,OC,go_sem]) rfl ⟨v,by unfold dR;rw[if_pos rfl],HB.out,HO.out⟩
 ·rw[if_neg he] at j B
  subst j;have HE:=O he;have bE:(er !=0)=true:=(by simpa using he);unfold dR at B;rw[if_neg he] at B;dsimp only at B;clear M G hp K D hsz C he
  go_enter OJ,OH
  go_wp2_with (first|(go_at_call 91;refine I.out.mono ?_;rintro e w2 ⟨rfl,rfl⟩)|(go_at_call 147;refine B.out.mono ?_;rintro e w2 ⟨v,rfl,N,ho⟩;have HB:=O N;clear N ho))
  exact bodyPost_ret (by simp[results,OC,go_sem]) rfl (jg er HE.out HB.out)
theorem ug (h:Nat)(tm ty:Int)(v:Value)(n e:Int)(tmps:Array Value)(W:World)(j:ab W h 32 (cT tm ty v))(G:tmps.getD 4 undef=OP (some ⟨h,0,none⟩))(I:tmps.getD 5 undef=Z V n)(K:tmps.getD 6 undef=Z V e):
  (results Tryz.f94 tmps).run OI W= .ok (OM #[.agg #[Z V tm,Z V ty,v],Z V n,Z V e]) W:=by
 unfold cT at j;have c0:=j.cell 0;have c1:=j.cell 1;have c2:=j.cell 2;simp at c0 c1 c2;have B:tmps[4]?.getD undef=OP (some ⟨h,0,none⟩):=by simpa using G
 have C:tmps[5]?.getD undef=Z V n:=by simpa using I
 have D:tmps[6]?.getD undef=Z V e:=by simpa using K
 simp[results,Tryz.results94,B,C,D,asAddr,c0,c1,c2,go_sem]
def AJ (r:nQ×Nat×Int) (p:Nat) (w:World) (e:Ending) (w':World):Prop:=
 ∃v,e=OL (OM #[.agg (cT r.1.tm r.1.ty v),Z V (dR r.2 p),Z V r.2.2])/\Below w.heap.size w w'/\w'.ownsRow w.heap.size 5 1 v r.1.sp.length (r.1.sp.map af)
theorem xG {w W:World}{a b:Int}{u:Value}(B:Below w.heap.size w W)(h:ab W w.heap.size 32 (cT 0 0 (X none 0 0))):ab (((W.setCell ⟨w.heap.size,0,none⟩ (Z V a)).setCell ⟨w.heap.size,1,none⟩ (Z V b)).setCell ⟨w.heap.size,2,none⟩ u) w.heap.size 32 (cT a b u)/\Below w.heap.size w (((W.setCell ⟨w.heap.size,0,none⟩ (Z V a)).setCell ⟨w.heap.size,1,none⟩ (Z V b)).setCell ⟨w.heap.size,2,none⟩ u):=by
 refine⟨?_,((B.setCell (p:=⟨w.heap.size,0,none⟩) (OA _) _).setCell (p:=⟨w.heap.size,1,none⟩) (OA _) _).setCell (p:=⟨w.heap.size,2,none⟩) (OA _) _⟩;have j:=((h.set_ 0 (Z V a)).set_ 1 (Z V b)).set_ 2 u;unfold cT at*
 simpa using j
theorem EX (A:Option Addr)(n c:Nat)(l:List UInt8)(p:Nat)(w:World)(hA:Sl w A (l.map af))(hn:J l=n)(hsz:n<=2 ^ 40)(hp:p<=8*n):
  Calls OI 94 #[X A n c,Z V (p:Int)] w (AJ (cQ l p) p w):=by
 have HN:=O hn;obtain⟨r,hr⟩:∃r,cQ l p=r:=⟨_,rfl⟩;rw[hr];have CC:=O (λW=>bh A n c W (by omega));have k1:decide ((p:Int)<0)=false:=by simp
 have k2:¬(8*(n:Int)<(p:Int)):=by omega
 have T:=(Below.refl w.heap.size w).alloc (OA _) (OO (cT 0 0 (X none 0 0)) 32);have B:ab (w.alloc (OO (cT 0 0 (X none 0 0)) 32)) w.heap.size 32 (cT 0 0 (X none 0 0)):=ab.new _ _ _;have C:=O T;have G:=O B;unfold cQ at hr;have K:=hA.below T
 by_cases h5:8*n<p+11
 ·rw[if_pos (by rw[HN.out];exact h5)] at hr
  subst hr;have C1:=O (λW=>cZ A n c (p:Int) 11 W (by omega) (by decide) (by decide) (by omega) (by omega) (by omega));unfold cT at B;have f0:=B.frozen 0;have f1:=B.frozen 1;have f2:=B.frozen 2;clear hA K hn hp h5 hsz T B
  go_enter ON,OK
  go_wp2_with (first|(go_at_call 92;refine(CC.out _).mono ?_;rintro e w2 ⟨rfl,rfl⟩)|(go_at_call 91;refine(C1.out _).mono ?_;rintro e w2 ⟨rfl,rfl⟩))
  exact bodyPost_ret (ug w.heap.size 0 0 (X none 0 0) 0 5 _ _ G.out rfl rfl rfl) rfl ⟨_,rfl,C.out,OG _ _ _ _⟩
 rw[if_neg (by rw[HN.out];exact h5)] at hr;have R5:=O (dL A n c l (p:Int) 11 _ K hn (by omega) (by decide) (by decide) (by omega) (by omega));rw[OF,show (11:Int).toNat=11 from rfl] at R5;have M:=rH l p 5 6;have aC:=cW l p 11;have dt:=cW l (p+5) 6;have dY:Y.wrap ((p:Int)+11)=((p+11:Nat):Int):=by rw[U];omega
 have D:=O (pW A n c l (p+11) _ K hn hsz (by omega));unfold nT yD at D;rw[show 5+6=11 from rfl] at M;generalize au l p 11=x at*;generalize au l p 5=a at*;generalize au l (p+5) 6=b at*;have gy:(x:Int).tdiv 64=(a:Int):=by rw[OD (by omega)];omega
 have gJ:(x:Int).tmod 64=(b:Int):=by rw[OE (by omega)];omega
 have fW:Y.wrap (a:Int)=(a:Int):=by rw[U];omega
 have aB:= @nN l 32 (p+11);generalize dj l 32 (p+11)=z at*;obtain⟨sp,en,er⟩:=z;dsimp only at hr D aB;have y:=B;unfold cT at y
 by_cases he:er=0
 ·subst he
  rw[if_pos rfl] at hr D;subst hr;obtain⟨_,dD,cz⟩:=aB rfl;unfold dR at D;rw[if_pos rfl] at D;dsimp only at D;have eE:Y.wrap (11+((en:Int) - ((p:Int)+11)))=(en:Int) - (p:Int):=(by rw[U];omega);clear hA K hn hp h5 hsz dD cz aB M aC dt T B y
  go_enter ON,OK
  go_wp2_with (first|(go_at_call 92;refine(CC.out _).mono ?_;rintro e w2 ⟨rfl,rfl⟩)|(go_at_call 91;refine R5.out.mono ?_;rintro e w2 ⟨rfl,rfl⟩)|(go_at_call 147;refine D.out.mono ?_;rintro e w2 ⟨v,rfl,hb,ho⟩;obtain⟨A6,c6,N⟩:=aP ho;(try dsimp only at N);subst N;have j:=G.out.below hb G.out.lt;have I:=O (xG (a:=(a:Int)) (b:=(b:Int)) (u:=X A6 (J sp) c6) (C.out.trans (hb.mono C.out.size)) j);have HO:=O ho;unfold cT at j;have f0:=j.frozen 0;have f1:=j.frozen 1;have f2:=j.frozen 2;have y0:=j.cell 0;have y1:=j.cell 1;have y2:=j.cell 2;(try dsimp only at y0 y1 y2);clear hb ho j))
  have bE:(Value.slice A6 (J sp) c6).ownBlock≠some w.heap.size:= λe=>by have:=(HO.out.lt _ e).1;rw[World.size_alloc] at this;omega
  exact bodyPost_ret (ug w.heap.size a b (X A6 (J sp) c6) ((en:Int) - (p:Int)) 0 _ _ I.out.1 rfl rfl rfl) rfl ⟨_,by unfold dR;rw[if_pos rfl];rfl,I.out.2,cG (cG (cG (bX HO.out C.out.size) bE 0 _) bE 1 _) bE 2 _⟩
 ·rw[if_neg he] at hr D
  subst hr;have HE:=O he;have dE:(er !=0)=true:=(by simpa using he);unfold dR at D;rw[if_neg he] at D;dsimp only at D;clear hA K hn hp h5 hsz aB he M aC dt T B y
  go_enter ON,OK
  go_wp2_with (first|(go_at_call 92;refine(CC.out _).mono ?_;rintro e w2 ⟨rfl,rfl⟩)|(go_at_call 91;refine R5.out.mono ?_;rintro e w2 ⟨rfl,rfl⟩)|(go_at_call 147;refine D.out.mono ?_;rintro e w2 ⟨v,rfl,hb,ho⟩;obtain⟨A6,c6,N⟩:=aP ho;(try dsimp only at N);subst N;have j:=G.out.below hb G.out.lt;have I:=O (xG (a:=0) (b:=0) (u:=X none 0 0) (C.out.trans (hb.mono C.out.size)) j);unfold cT at j;have f0:=j.frozen 0;have f1:=j.frozen 1;have f2:=j.frozen 2;have y0:=j.cell 0;have y1:=j.cell 1;have y2:=j.cell 2;(try dsimp only at y0 y1 y2);clear hb ho j))
  exact bodyPost_ret (ug w.heap.size 0 0 (X none 0 0) 0 er _ _ I.out.1 rfl rfl rfl) rfl ⟨X none 0 0,by unfold dR;rw[if_neg HE.out];rfl,I.out.2,OG _ _ _ _⟩
end Go.Proofs.YthhijgcfbjcgiaaGreatDoor
