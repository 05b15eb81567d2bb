/- MacsP, Macs, ShotP, RPic -/
import Derived.Test.YthhijgcfbjcgiaaGreatDoorT40
import Derived.Test.YthhijgcfbjcgiaaGreatDoorT44
import Derived.Test.YthhijgcfbjcgiaaGreatDoorT06
namespace Go.Proofs.YthhijgcfbjcgiaaGreatDoor
section
open Go Go.RowKit
open Go.IntKind renaming i64→O
open Go.Value renaming int→U,bool→V
open List renaming length→Z
section
variable {l:List UInt8} {f g:Int} {k p:Nat} {x:bA} {d nb e:Int}
theorem Ib (h:eA l p=(34,nb,0)):ce l f g (k+1) p x=([],p,0):=by
 rw[ce];dsimp only;rw[h];dsimp only;rw[if_pos rfl,if_pos rfl]
theorem Ia (h:eA l p=(0,nb,0)):ce l f g (k+1) p x=ce l f g k (p+nb.toNat) x:=by
 rw[ce];dsimp only;rw[h];dsimp only;rw[if_pos rfl,if_neg (by decide),if_pos rfl]
theorem H7 (h:eA l p=(d,nb,0))(j:d≠34)(h2:d≠0)(B:33<x.ad+d):ce l f g (k+1) p x=([],0,13):=by
 rw[ce];dsimp only;rw[h];dsimp only;rw[if_pos rfl,if_neg j,if_neg h2,if_pos B]
theorem Jp (h:eA l p=(d,nb,0))(j:d≠34)(h2:d≠0)(B:¬33<x.ad+d)(C:(cH l ((p+nb.toNat:Nat):Int) (x.ad+d) x).2.2≠0):
  ce l f g (k+1) p x=([],0,jw (cH l ((p+nb.toNat:Nat):Int) (x.ad+d) x).2.2):=by
 rw[ce];dsimp only;rw[h];dsimp only;rw[if_pos rfl,if_neg j,if_neg h2,if_neg B,if_neg C]
theorem Jq (h:eA l p=(d,nb,0))(j:d≠34)(h2:d≠0)(B:¬33<x.ad+d)(C:(cH l ((p+nb.toNat:Nat):Int) (x.ad+d) x).2.2=0)(D:iL f g (cH l ((p+nb.toNat:Nat):Int) (x.ad+d) x).1=false):
  ce l f g (k+1) p x=([],0,12):=by
 rw[ce];dsimp only;rw[h];dsimp only;rw[if_pos rfl,if_neg j,if_neg h2,if_neg B,if_pos C,D];rfl
theorem H8 (h:eA l p=(d,nb,0))(j:d≠34)(h2:d≠0)(B:¬33<x.ad+d)(C:(cH l ((p+nb.toNat:Nat):Int) (x.ad+d) x).2.2=0)(D:iL f g (cH l ((p+nb.toNat:Nat):Int) (x.ad+d) x).1=true):
  ce l f g (k+1) p x=((cH l ((p+nb.toNat:Nat):Int) (x.ad+d) x).1::(ce l f g k (p+nb.toNat+(cH l ((p+nb.toNat:Nat):Int) (x.ad+d) x).2.1.toNat) (dT (cH l ((p+nb.toNat:Nat):Int) (x.ad+d) x).1)).1,
   (ce l f g k (p+nb.toNat+(cH l ((p+nb.toNat:Nat):Int) (x.ad+d) x).2.1.toNat) (dT (cH l ((p+nb.toNat:Nat):Int) (x.ad+d) x).1)).2.1,
   (ce l f g k (p+nb.toNat+(cH l ((p+nb.toNat:Nat):Int) (x.ad+d) x).2.1.toNat) (dT (cH l ((p+nb.toNat:Nat):Int) (x.ad+d) x).1)).2.2):=by
 rw[ce];dsimp only;rw[h];dsimp only;rw[if_pos rfl,if_neg j,if_neg h2,if_neg B,if_pos C,D];rfl
theorem H9 (h:eA l p=(d,nb,5))(j:eY l p=true):ce l f g (k+1) p x=([],p,0):=by
 rw[ce];dsimp only;rw[h];dsimp only;rw[if_neg (by decide),if_pos rfl,if_pos j]
theorem Jo (h:eA l p=(d,nb,5))(j:eY l p=false):ce l f g (k+1) p x=([],0,6):=by
 rw[ce];dsimp only;rw[h];dsimp only;rw[if_neg (by decide),if_pos rfl,j];rfl
theorem Jn (h:eA l p=(d,nb,e))(j:e≠0)(B:e≠5):ce l f g (k+1) p x=([],0,e):=by
 rw[ce];dsimp only;rw[h];dsimp only;rw[if_neg j,if_neg B]
end
def AA (w:World) (g:Nat) (A:Option Addr) (l:List UInt8):Prop:=∀W,w.grownBy W (some g)->Tz W/\Ts W/\Sl W A (l.map ag)
theorem AA.to {w W:World}{g:Nat}{A:Option Addr}{l:List UInt8}(h:AA w g A l)(B:w.grownBy W (some g)):AA W g A l:= λC j=>h C (B.trans j)
theorem wZ {w W B:World}{g:Nat}{row:Option Nat}(h:w.grownBy W (some g))(C:W.grownBy B row)(D:∀k,row=some k->w.heap.size<=k):w.grownBy B (some g):=h.andThen C (λj e=> .inl (D j e))
theorem db {w W:World}{g h:Nat}(B:w.grownBy W (some g))(j:w.heap.size<=h)(i:Nat)(v:Value):w.grownBy (W.setCell ⟨h,i,none⟩ v) (some g):=wZ B (gY W h i v) (λk e=>by cases e;exact j)
def kz (x:bA):Array Value:= #[U O x.ad,V x.had,U O x.x,U O x.y]
structure lW (w:World) (g hl:Nat) (bv sv:Value) (p:Nat) (x:bA) (v:Value) (es:List ei) (W:World):Prop where
 gb:w.grownBy W (some g)
 pr:ab W g 77 (cF bv p sv)
 la:ab W hl 102 (kz x)
 hl:w.heap.size<=hl
 rows:ar (⟨w.heap.size,55,7,v,Z es,az eX es⟩::iN w.heap.size es) W
theorem ql {B:Nat}{v:Value}{j:List ei}{t:TypeId}(D:t≠55)(h2:t≠93)(G:t≠189):∀r∈(⟨B,55,7,v,Z j,az eX j⟩::iN B j:List a9),r.e≠t:=by
 intro r C;rcases List.mem_cons.1 C with rfl|C
 ·exact Ne.symm D
 ·rcases qk r C with h|h<;>rw[h]
  ·exact Ne.symm h2
  ·exact Ne.symm G
section
variable {w:World} {g hl:Nat} {bv sv:Value} {p:Nat} {x:bA} {v:Value} {es:List ei} {W W':World}
theorem lW.below (h:lW w g hl bv sv p x v es W)(j:Below W.heap.size W W'):lW w g hl bv sv p x v es W':=
 ⟨h.gb.trans (dr j (Nat.le_refl _)),h.pr.below j h.pr.lt,h.la.below j h.la.lt,h.hl,fL h.rows j⟩
theorem lW.at (h:lW w g hl bv sv p x v es W)(q:Nat):lW w g hl bv sv q x v es (W.setCell ⟨g,1,none⟩ (U O (q:Int))):=
 ⟨h.gb.trans (gY _ _ _ _),mu h.pr q,h.la.far (p:=⟨g,1,none⟩) (aT h.la h.pr (by decide)) _,h.hl,cr h.rows h.pr (ql (by decide) (by decide) (by decide)) _ _⟩
theorem lW.last (h:lW w g hl bv sv p x v es W)(y:bA):lW w g hl bv sv p y v es ((((W.setCell ⟨hl,0,none⟩ (U O y.ad)).setCell ⟨hl,1,none⟩ (V y.had)).setCell ⟨hl,2,none⟩ (U O y.x)).setCell ⟨hl,3,none⟩ (U O y.y)):=by
 have j:g≠hl:= λe=>aT h.la h.pr (by decide) e.symm;have C:=h.la.set_ 0 (U O y.ad);have D:=C.set_ 1 (V y.had);have G:=D.set_ 2 (U O y.x);have I:=G.set_ 3 (U O y.y);have B:∀r∈(⟨w.heap.size,55,7,v,Z es,az eX es⟩::iN w.heap.size es:List a9),r.e≠102:=ql (by decide) (by decide) (by decide)
 refine⟨db (db (db (db h.gb h.hl _ _) h.hl _ _) h.hl _ _) h.hl _ _,(((h.pr.far (p:=⟨hl,0,none⟩) j _).far (p:=⟨hl,1,none⟩) j _).far (p:=⟨hl,2,none⟩) j _).far (p:=⟨hl,3,none⟩) j _,?_,h.hl,
  cr (cr (cr (cr h.rows h.la B _ _) C B _ _) D B _ _) G B _ _⟩
 unfold kz at*
 simpa using I
end
theorem tB {B:Nat}{p:ei}{t:TypeId}(h2:t≠93)(j:t≠189):∀r∈od B p,r.e≠t:=by
 intro r C;rcases Ea r C with h|h<;>rw[h]
 ·exact Ne.symm h2
 ·exact Ne.symm j
theorem uT {R:List a9}{W:World}{h:Nat}{m:aX}{v:Value}(N:ar R W)(K:ab W h 55 (dC m v))(j:∀r∈R,r.e≠55) (a:aX) (u:Value):
  ar R (((((((W.setCell ⟨h,0,none⟩ (U O a.ad)).setCell ⟨h,1,none⟩ (U O a.kd)).setCell ⟨h,2,none⟩ (U O a.qu)).setCell ⟨h,3,none⟩ (U O a.x)).setCell ⟨h,4,none⟩ (U O a.y)).setCell ⟨h,5,none⟩ (U O a.pa)).setCell ⟨h,6,none⟩ u):=by
 have B:=K.set_ 0 (U O a.ad);have C:=B.set_ 1 (U O a.kd);have D:=C.set_ 2 (U O a.qu);have G:=D.set_ 3 (U O a.x);have I:=G.set_ 4 (U O a.y);have M:=I.set_ 5 (U O a.pa);exact cr (cr (cr (cr (cr (cr (cr N K j _ _) B j _ _) C j _ _) D j _ _) G j _ _) I j _ _) M j _ _
theorem cP {W:World}{base e size n g:Nat}{v:Value}{xs:List Value}(h:W.ownsRow base e size v n xs)(j:v.ownBlock≠some g)(i:Nat)(u:Value):(W.setCell ⟨g,i,none⟩ u).ownsRow base e size v n xs:=ek h ⟨g,i,none⟩ u j
theorem Ic {w:World}{g hl:Nat}{G K:Value}{p:Nat}{x:bA}{v:Value}{I:List ei}{W:World}{h:Nat}{m:aX}{u0:Value}(j:lW w g hl G K p x v I W)(D:ab W h 55 (dC m u0))(B:w.heap.size<=h)(C:v.ownBlock≠some h)(a:aX)(u:Value):
  lW w g hl G K p x v I (((((((W.setCell ⟨h,0,none⟩ (U O a.ad)).setCell ⟨h,1,none⟩ (U O a.kd)).setCell ⟨h,2,none⟩ (U O a.qu)).setCell ⟨h,3,none⟩ (U O a.x)).setCell ⟨h,4,none⟩ (U O a.y)).setCell ⟨h,5,none⟩ (U O a.pa)).setCell ⟨h,6,none⟩ u):=by
 have n1:g≠h:=aT j.pr D (by decide);have n2:hl≠h:=aT j.la D (by decide)
 refine⟨db (db (db (db (db (db (db j.gb B _ _) B _ _) B _ _) B _ _) B _ _) B _ _) B _ _,
  ((((((j.pr.far (p:=⟨h,0,none⟩) n1 _).far (p:=⟨h,1,none⟩) n1 _).far (p:=⟨h,2,none⟩) n1 _).far (p:=⟨h,3,none⟩) n1 _).far (p:=⟨h,4,none⟩) n1 _).far (p:=⟨h,5,none⟩) n1 _).far (p:=⟨h,6,none⟩) n1 _,
  ((((((j.la.far (p:=⟨h,0,none⟩) n2 _).far (p:=⟨h,1,none⟩) n2 _).far (p:=⟨h,2,none⟩) n2 _).far (p:=⟨h,3,none⟩) n2 _).far (p:=⟨h,4,none⟩) n2 _).far (p:=⟨h,5,none⟩) n2 _).far (p:=⟨h,6,none⟩) n2 _,j.hl,?_⟩
 refine ar.cons (cP (cP (cP (cP (cP (cP (cP j.rows.head C _ _) C _ _) C _ _) C _ _) C _ _) C _ _) C _ _) (uT j.rows.tail D ?_ a u);intro r M;rcases qk r M with h|h<;>rw[h]<;>decide
theorem JN:eU Tryz.prog 49 55 7 72:= .mk' (z:=.agg #[U O 0,U O 0,U O 0,U O 0,U O 0,U O 0,.slice none 0 0]) (by kernel_rfl) (by kernel_rfl) rfl (by decide) (by decide)
theorem pZ {P:Program}{t e size bytes:Nat}{W:World}{base n:Nat}{m:Nat}{v:Value}{xs news:List Value}{A:Option Addr}{c:Nat}(M:eU P t e size bytes){j:List (Option Tmp)}{E:Act->World->Prop}{S:World->Prop}{r:eP}{tmps:Array Value}{defers:List Deferred}{o:Oper}{d:Nat}{s x:Operand}(hd:o.dst=some d)(hw:bu o j tmps=true)
  (ho:o.op= .call {callee:= .builtin .append,args:= #[s,x],argTypes:= #[t,t]}) (hs:Act.eval ⟨tmps,defers⟩ s=v) (hc:W.ownsRow base e size v n xs) (hx:Act.eval ⟨tmps,defers⟩ x=.slice A m c) (hS:Sl W A news)
  (hl:Z news=m*size) (N:∀u∈news,u.oneCell'=true) (hb:(n+m)*bytes<=140737488355328) (B:base<=W.heap.size)
  (h:∀D G,G.ownsRow base e size D (n+m) (xs++news)->W.grownBy G v.ownBlock->S G/\cg P j E r S ⟨tmps.setIfInBounds d D,defers⟩ G):
  ko P j o (λK w'=>∃I:World->Prop,(∀w,I w->S w)/\I w'/\cg P j E r I K w') ⟨tmps,defers⟩ W:=by
 obtain⟨D,w',C,h2,T,h4⟩:=nK M o.type (c:=c) hc hl hS N hb B;obtain⟨h7,h8⟩:=h D w' h2 T;refine aj (v:=D) (w':=w') hd hw ?_ h7 h8;unfold execOp;simp only[ho,resolve,invoke,builtin,Sem.run_bind,Sem.run_pure,Result.andThen_ok,List.map_toArray,List.map_cons,List.map_nil,hs,hx,C]
def IW (g:Nat) (B C:Value) (r:List aX×Nat×Int) (w:World) (e:Ending) (w':World):Prop:=
 w.grownBy w' (some g)/\((r.2.2=0/\∃v j,e=.returned v/\j.map (·.m)=r.1/\(∀m∈j,vX m)/\ab w' g 77 (cF B r.2.1 C)/\ar (⟨w.heap.size,55,7,v,Z j,az eX j⟩::iN w.heap.size j) w')\/(r.2.2≠0/\ie r.2.2 e/\∃D,ab w' g 77 (cF B D C)))
end
section
open Go Go.RowKit
attribute [local go_sem] Oper.semAt_some
open Go.Lib renaming hid→O
open List renaming setIfInBounds_toArray→U,set_cons_succ→Z,set_cons_zero→V,length→OA,drop_succ_cons→OB,drop_zero→OC,length_singleton→OI,length_append→OJ,mem_map→ON
open Go.Proofs.YthhijgcfbjcgiaaGreatDoor.bY renaming take→Y,step→OD
open Go.Value renaming slice→X,int→OH,pointer→OO
open Int renaming toNat_natCast→J
open Go.Obj renaming cells→OE
open Go.IntKind renaming wrap_i64→OF,i64→OG,i64→OK
open Nat renaming le_refl→OL,lt_irrefl→OM
set_option maxRecDepth 100000 in
set_option maxHeartbeats 16000000 in
theorem vT (g:Nat)(A:Option Addr)(n c:Nat)(l:List UInt8)(p0:Nat)(sv:Value)(f nm:Int)(w:World)(hb:ab w g 77 (cF (X A n c) p0 sv))(hE:AA w g A l)(hn:OA l=n)(hsz:n<=2 ^ 40)(hp:p0<=8*n)(hf:f=0\/f=1)(Lz:nm∈aK f):
  Calls Tryz.prog 89 #[OO (some ⟨g,0,none⟩),OH OG f,OH OG nm] w (IW g (X A n c) sv (ce l f nm (8*OA l+1) p0 bE) w):=by
 have KH:=O hE;have HN:=O hn;have Li:=O (And.intro hf Lz);obtain⟨r,j⟩:∃r,ce l f nm (8*OA l+1) p0 bE=r:=⟨_,rfl⟩;rw[j];obtain⟨hl,KM⟩:∃hl,w.heap.size=hl:=⟨_,rfl⟩
 have h0:lW w g hl (X A n c) sv p0 bE (X none 0 0) [] (w.alloc (OE #[OH OG 0,.bool false,OH OG 0,OH OG 0] 102)):=
  ⟨FM w g _,hb.alloc _,aE (ab.new _ _ _) KM,by omega,ar.cons (World.ownsRow_nil _ _ _ _) (aF _)⟩
 have jY:=O h0;have Mb:=O KM;have LO:=O j;have Ll:=O hp;have fJ:Hid (n<=2 ^ 47):=O (by omega);clear hE hf Lz j h0 hb hp
 go_enter Tryz.func89,Tryz.ntmps89
 go_wp2_with fail
 go_step3
 go_wp2_with fail
 go_step3
 go_wp2_with fail
 (try rw[KM]);generalize w.alloc (OE #[OH OG 0,.bool false,OH OG 0,OH OG 0] 102)=W1 at jY⊢;clear KM
 go_loopg [6] (8*n+1 - p0) (λgk v=> λwr=>∃(k p:Nat)(x:bA)(es:List ei),p+gk=8*n+1/\p<=8*n/\Hid (8*n<p+k)/\Hid (r=(es.map (·.m)++(ce l f nm k p x).1,(ce l f nm k p x).2.1,(ce l f nm k p x).2.2))/\Hid (lW w g hl (X A n c) sv p x v es wr)/\Hid (0<=x.ad/\x.ad<=33/\(OA es:Int)<=x.ad)/\Hid (∀m∈es,vX m))
 case atStart=>exact⟨8*OA l+1,p0,bE,[],by have:=Ll.out;omega,Ll.out,O (by have:=HN.out;omega),O (by rw[LO.out];rfl),jY,O (by decide),O (λm hm=>by cases hm)⟩
 case round=>
  obtain⟨k,p,x,es,LA,gj,HK,HE,HS,HX,HQ⟩:=hrel;obtain⟨k,rfl⟩:∃k',k=k'+1:=⟨k - 1,by have:=HK.out;omega⟩;obtain⟨Av,cv,hv⟩:=bg HS.out.rows.head;dsimp only at hv;subst hv;have Hl:Below wr.heap.size wr wr.drew:=(Below.refl _ _).drew;have N:=O (HS.out.below Hl);have L7:=KH.out _ N.out.gb;have CA:=yW A n c l (p:Int) wr.drew L7.1 L7.2.2 hn (by have:=fJ.out;omega) (by omega);rw[G9] at CA;obtain⟨⟨d,nb,e⟩,hd⟩:∃z,eA l (p:Int)=z:=⟨_,rfl⟩;have KL:= @wu l (p:Int) (by omega) (by rw[hn];omega);rw[hd] at CA KL;dsimp only at CA KL;have KG:=O CA;have HD:=O hd;have KY:=O KL;have Lm:=O LA;clear Hl L7 CA hd KL LA;go_wp2_with fail
  refine aP (λw'=>ab w' g 77 (cF (X A n c) p sv)) 17 (Y 0 (Y 1 (Y 2 (Y 3 (Y 4 (Y 5 (Y 6 (Y 7 (Y 8 (Y 9 (OD 10 (Y 11 (Y 12 (Y 13 (Y 14 (OD 15 (OD 16 .done))))))))))))))))) (N.out.pr) (λPE cE=>?_)
  iterate 10
   refine af (v:=?_) rfl (by rfl) ?_ ?_
   rotate_left
   ·intro _ K;(try dsimp only at K);have a:=K;unfold cF at a;have a0:=a.cell 0;have a1:=a.cell 1;(try dsimp only at a0 a1);go_simp;(try with_reducible rfl)
   simp only[U,V,Z]
  refine aG (f:=143) rfl (by rfl) (by first|(go_simp;done)|(go_simp;rfl)) KG.out ?_;rintro e1 w2 ⟨rfl,Ls⟩;have B:=O (N.out.below Ls);refine⟨_,rfl,_,λ_ h=>h,B.out.pr,?_⟩;simp only[U,V,Z]
  iterate 4
   refine af (v:=?_) rfl (by rfl) ?_ ?_
   rotate_left
   ·intro _ K;(try dsimp only at K);go_simp;(try with_reducible rfl)
   simp only[U,V,Z]
  refine aj (v:=?_) (w':=?_) rfl (by rfl) ?_ ?_ ?_;rotate_left 2
  ·go_simp;(try (constructor<;>with_reducible rfl))
  ·exact B.out.pr
  simp only[U,V,Z];refine aj (v:=?_) (w':=?_) rfl (by rfl) ?_ ?_ ?_;rotate_left 2
  ·go_simp;(try (constructor<;>with_reducible rfl))
  ·exact B.out.pr
  simp only[U,V,Z];refine cE _ _ ?_;clear cE PE;simp only[OB,OC];clear Ls KG N HS;go_wp2_with fail
  refine⟨rfl,?_⟩
  by_cases Kz:e=5
  ·subst Kz
   have CO:=O (qW g A n c l p sv w2 B.out.pr (KH.out _ B.out.gb).2.2 HN.out (by have:=fJ.out;omega) gj)
   cases ho:eY l p with
   |true=>
    have j:=HE.out;rw[H9 HD.out ho] at j;subst j;rw[ho] at CO;clear ho gj;go_wp2_with (go_at_call 47;refine CO.out.mono ?_;rintro e3 w3 ⟨rfl,rfl⟩)
    (try rw[Exit.noGoto_ret]);go_ret;exact⟨B.out.gb,.inl ⟨rfl,_,es,rfl,by simp,HQ.out,B.out.pr,B.out.rows⟩⟩
   |false=>
    have j:=HE.out;rw[Jo HD.out ho] at j;subst j;rw[ho] at CO;clear ho gj;go_wp2_with (first|(go_at_call 47;refine CO.out.mono ?_;rintro e3 w3 ⟨rfl,rfl⟩)|(go_at_call 87;refine(dM g nb 5 (by decide) _).mono ?_;rintro e3 w3 ⟨M,rfl⟩;unfold ie at M;subst M))
    exact⟨rfl,B.out.gb,.inr ⟨by simp,rfl,p,B.out.pr⟩⟩
  by_cases Ky:e=0
  ·subst Ky
   have KY:=O (KY.out rfl)
   by_cases kU:d=34
   ·subst kU
    have j:=HE.out;rw[Ib HD.out] at j;subst j;clear gj;go_wp2_with fail
    (try rw[Exit.noGoto_ret]);go_ret;exact⟨B.out.gb,.inl ⟨rfl,_,es,rfl,by simp,HQ.out,B.out.pr,B.out.rows⟩⟩
   obtain⟨dn,K0,L5,Ly,cI⟩:=KY.out kU;have LB:=ui dn K0;obtain⟨C,M5⟩:∃C:Nat,nb=(C:Int):=⟨_,Ly⟩;subst M5;rw[hn] at cI;have Lx:1<=C:=(by omega);have KF:OK.wrap ((p:Int)+(C:Int))=(p:Int)+(C:Int):=(by rw[OF];omega);have KZ:=O KF;have Le:=B.out.at (p+C);rw[show ((p+C:Nat):Int)=(p:Int)+(C:Int) by omega] at Le;have kA:=O Le;have K3:=O (show p+C<=8*n by omega);have KI:=O Lx;clear LB Ly cI KF Le Lx;have M9:(d==34)=false:=by simpa using kU
   by_cases K9:d=0
   ·subst K9
    have j:=HE.out;rw[Ia HD.out,J] at j;have HR:=O j;clear j gj K0 L5;go_wp2_with (go_at_call 87;refine(eZ g (X A n c) sv p (C:Int) _ B.out.pr KZ.out).mono ?_;rintro e3 w3 ⟨⟨u,rfl⟩,rfl⟩)
    go_roundg (8*n+1 - (p+C))
    case measure=>have:=Lm.out;have:=KI.out;have:=K3.out;omega
    case rel=>exact⟨k,p+C,x,es,by have:=K3.out;omega,K3.out,O (by have:=HK.out;have:=KI.out;omega),HR,kA,HX,HQ⟩
   have Ma:(d==0)=false:=(by simpa using K9);have L6:1<=d/\d<=33:=(by omega);have CN:=O (λW=>wq x.ad d W (by have:=HX.out;omega) (by omega));have LF:=HX.out
   have L9:se x.ad d=if 33<x.ad+d then(0,13) else(x.ad+d,0):=by
    unfold se;rw[if_neg (by omega)]
   rw[L9] at CN;have G:=kA.out.la;unfold kz at G;have y0:=G.cell 0;(try dsimp only at y0)
   by_cases K5:33<x.ad+d
   ·rw[if_pos K5] at CN
    have j:=HE.out;rw[H7 HD.out kU K9 K5] at j;subst j;clear gj K0 L5 L6 LF L9 G K5 kU K9;go_wp2_with fail
    refine(eZ g (X A n c) sv p (C:Int) _ B.out.pr KZ.out).mono ?_;rintro e3 w3 ⟨⟨u,rfl⟩,rfl⟩;go_wp2_with (go_at_call 144;refine(CN.out _).mono ?_;rintro e4 w4 ⟨rfl,rfl⟩)
    refine(dM g 0 13 (by decide) _).mono ?_;rintro e3 w3 ⟨M,rfl⟩;unfold ie at M;subst M;exact⟨rfl,kA.out.gb,.inr ⟨by simp,rfl,p+C,kA.out.pr⟩⟩
   rw[if_neg K5] at CN;have LD:OK.wrap (((p+C:Nat):Int)+0)=((p+C:Nat):Int)+0:=(by have:=K3.out;rw[OF];omega);have Hu:((p+C:Nat):Int)=(p:Int)+(C:Int):=(by omega);obtain⟨⟨m,KQ,er⟩,hm⟩:∃z,cH l ((p+C:Nat):Int) (x.ad+d) x=z:=⟨_,rfl⟩;have L8:= @xB l ((p+C:Nat):Int) (x.ad+d) x (by omega) (by rw[hn];have:=K3.out;omega);have CG:=O (λW (h1:Sl W A (l.map ag)) (h2:Ts W)=>Eb A n c l ((p+C:Nat):Int) (x.ad+d) x W h1 HN.out fJ.out h2 (by have:=K3.out;have:=fJ.out;omega));rw[hm] at L8 CG;rw[Hu] at CG;unfold dY at CG;have LM:=O L8;have HM:=O hm;have LW:=O LD;have KG:=O Hu;have H3:=O (show d≠34/\d≠0/\¬33<x.ad+d from⟨kU,K9,K5⟩);have LH:=O L6;clear gj K0 L5 L6 LF L9 G K5 kU K9 L8 hm LD Hu;go_wp2_with fail
   refine(eZ g (X A n c) sv p (C:Int) _ B.out.pr KZ.out).mono ?_;rintro e3 w3 ⟨⟨u,rfl⟩,rfl⟩;go_wp2_with (go_at_call 144;refine(CN.out _).mono ?_;rintro e4 w4 ⟨rfl,rfl⟩)
   refine(eZ g (X A n c) sv (p+C) 0 _ kA.out.pr LW.out).mono ?_;rintro e3 w3 ⟨⟨u2,rfl⟩,Lg⟩;have Lc:=kA.out.at (p+C);rw[Int.add_zero] at Lg;rw[<-Lg] at Lc;have LV:=O Lc;clear Lg Lc y0 kA B CN
   go_upto_region 10 with fail
   have N:=O (LV.out.below (Below.refl _ _).drew);have KR:=O (KH.out _ N.out.gb)
   go_cut [12,9,10] (λM8 s9 M7 wx=>∃(D:Nat)(A6:Option Addr)(c6:Nat)(xs:List dB),M8=OO (some ⟨D,0,none⟩)/\s9=OH OG KQ/\M7=OH OG er/\Hid (lW w g hl (X A n c) sv (p+C) x (X Av (OA es) cv) es wx)/\Hid (ab wx D 55 (dC m (X A6 (OA xs) c6)))/\Hid (m.bl=xs.map (·.1))/\Hid (ar (od w.heap.size ⟨m,xs,A6,c6⟩) wx)/\Hid ((Value.slice Av (OA es) cv).ownBlock≠some D))
   case first=>
    have LC:=N.out.pr;have G:=N.out.la;have jY:=O (show aa [(g,77,cF (X A n c) (p+C) sv),(hl,102,kz x)] w3.drew from aa.cons LC (aa.cons G (ai _)));clear LC G;refine aP (λw'=>aa [(g,77,cF (X A n c) (p+C) sv),(hl,102,kz x)] w') 20 (Y 0 (Y 1 (Y 2 (Y 3 (Y 4 (Y 5 (Y 6 (Y 7 (Y 8 (Y 9 (Y 10 (Y 11 (.fork 12 (Y 13 (Y 14 (Y 15 (Y 16 (OD 17 (OD 18 (OD 19 (.done)))))))) 17 (OD 12 (Y 13 (Y 14 (Y 15 (Y 16 (OD 18 (OD 19 (.done))))))))))))))))))))) (jY.out) (λPE cE=>?_)
    iterate 12
     refine af (v:=?_) rfl (by rfl) ?_ ?_
     rotate_left
     ·intro _ K;(try dsimp only at K);have a:=K.head;have b:=K.tail.head;unfold cF at a;unfold kz at b;have a0:=a.cell 0;have a1:=a.cell 1;have b0:=b.cell 0;have b1:=b.cell 1;have b2:=b.cell 2;have b3:=b.cell 3;(try simp only[KG.out] at a1);(try dsimp only at a0 a1 b0 b1 b2 b3);go_simp;(try with_reducible rfl)
     simp only[U,V,Z]
    refine⟨?_,?_⟩
    ·refine aG (f:=145) rfl (by rfl) (by first|(go_simp;done)|(go_simp;rfl)) (CG.out _ KR.out.2.2 KR.out.2.1) ?_
     rintro e4 w4 ⟨K8,v6,xs,bM,Ht,T,iP⟩;obtain⟨A6,c6,Lf⟩:=bg T;subst Lf;unfold dC at bM;dsimp only at bM Ht T;subst bM;have av:=O (N.out.below K8);have Kv:=O Ht;have KD:w.heap.size<=w3.drew.heap.size:=N.out.gb.size;have K4:Hid (ar (od w.heap.size ⟨m,xs,A6,c6⟩) w4):=O (ar.cons (cJ T KD) λr j=>by obtain⟨b,L4,rfl⟩:=ON.1 j;exact cJ (iP b L4) KD);have K6:=jY.out.below K8;refine⟨_,rfl,_,λ_ h=>h,K6,?_⟩;simp only[U,V,Z]
     iterate 4
      refine af (v:=?_) rfl (by rfl) ?_ ?_
      rotate_left
      ·intro _ K;(try dsimp only at K);go_simp;(try with_reducible rfl)
      simp only[U,V,Z]
     clear Ht T iP;obtain⟨D,dv⟩:∃D,w4.heap.size=D:=⟨_,rfl⟩;refine aj (v:=?_) (w':=?_) rfl (by rfl) ?_ ?_ ?_;rotate_left 2
     ·go_simp;(try (constructor<;>with_reducible rfl))
     ·exact K6.alloc _
     simp only[U,V,Z];refine bD _ (w':=?_) rfl (by rfl) ?_ ?_ ?_;rotate_left 1
     ·go_simp;(first|(with_reducible rfl)|(constructor<;>with_reducible rfl)|skip)
     ·exact K6.alloc _
     refine aj (v:=?_) (w':=?_) rfl (by rfl) ?_ ?_ ?_;rotate_left 2
     ·go_simp;(try (constructor<;>with_reducible rfl))
     ·exact K6.alloc _
     simp only[U,V,Z];refine cE _ _ ?_;clear cE PE;simp only[OB,OC];go_wp2_with fail
     refine⟨rfl,?_⟩;go_wp2_with fail
     go_meet
     case rel=>
      have Lu:Below w4.heap.size w4 (w4.alloc (OE (dC m (X A6 (OA xs) c6)) 55)):=(Below.refl _ _).alloc (OL _) _;exact⟨D,A6,c6,xs,rfl,rfl,rfl,O (av.out.below Lu),O (aE (ab.new _ _ _) dv),Kv,O (fL K4.out Lu),O (λe=>by have:=(av.out.rows.head.lt D e).2;rw[dv] at this;exact OM _ this)⟩
    ·have KT:w.heap.size<=w3.drew.heap.size:=N.out.gb.size
     obtain⟨D,dv⟩:∃D,w3.heap.size=D:=⟨_,rfl⟩;have KK:Hid ((Value.slice Av (OA es) cv).ownBlock≠some D):=O (λe=>by have:=(N.out.rows.head.lt D e).2;rw[<-dv] at this;exact OM _ this);refine aj (v:=?_) (w':=?_) rfl (by rfl) ?_ ?_ ?_;rotate_left 2
     ·go_simp;(try (constructor<;>with_reducible rfl))
     ·exact jY.out.alloc _
     simp only[U,V,Z];have aJ:Below w3.drew.heap.size w3.drew (w3.drew.alloc (OE (dC m0 (X none 0 0)) 55)):=(Below.refl _ _).alloc (OL _) _;have KC:=(KH.out _ N.out.gb);have L0:ab (w3.drew.alloc (OE (dC m0 (X none 0 0)) 55)) D 55 (dC m0 (X none 0 0)):=aE (ab.new _ _ _) dv;refine aG (f:=145) rfl (by rfl) (by first|(go_simp;done)|(go_simp;rfl)) (CG.out _ (KC.2.2.below aJ) (KC.2.1.below aJ)) ?_;rintro e4 w4 ⟨K8,v6,xs,bM,Ht,T,iP⟩;obtain⟨A6,c6,Lf⟩:=bg T;subst Lf;unfold dC at bM;dsimp only at bM Ht T;subst bM;have I:=L0.below K8 L0.lt;have av:=O ((N.out.below aJ).below K8);have Kv:=O Ht;have KD:w.heap.size<=(w3.drew.alloc (OE (dC m0 (X none 0 0)) 55)).heap.size:=Nat.le_trans KT aJ.size;have K4:Hid (ar (od w.heap.size ⟨m,xs,A6,c6⟩) w4):=O (ar.cons (cJ T KD) λr j=>by obtain⟨b,L4,rfl⟩:=ON.1 j;exact cJ (iP b L4) KD);have K6:=(jY.out.below aJ).below K8;refine⟨_,rfl,_,λ_ h=>h,K6,?_⟩;simp only[U,V,Z]
     iterate 4
      refine af (v:=?_) rfl (by rfl) ?_ ?_
      rotate_left
      ·intro _ K;(try dsimp only at K);go_simp;(try with_reducible rfl)
      simp only[U,V,Z]
     have jg:=O I;have k0:=I.frozen 0;have k1:=I.frozen 1;have k2:=I.frozen 2;have k3:=I.frozen 3;have k4:=I.frozen 4;have k5:=I.frozen 5;have k6:=I.frozen 6;unfold dC m0 at I;have j0:=I.cell 0;have j1:=I.cell 1;have j2:=I.cell 2;have j3:=I.cell 3;have j4:=I.cell 4;have j5:=I.cell 5;have j6:=I.cell 6;simp at j0 j1 j2 j3 j4 j5 j6;have Kx:=O (Ic av.out jg.out (by rw[<-dv];exact KT) KK.out m (X A6 (OA xs) c6));have LT:=O (uT K4.out jg.out (tB (by decide) (by decide)) m (X A6 (OA xs) c6));have LL:=O (Bd jg.out m (X A6 (OA xs) c6));clear Ht T iP L0 I aJ KC;refine bD _ (w':=?_) rfl (by rfl) ?_ ?_ ?_;rotate_left 1
     ·go_simp;(first|(with_reducible rfl)|(constructor<;>with_reducible rfl)|skip)
     ·exact aa.cons Kx.out.pr (aa.cons Kx.out.la (ai _))
     refine aj (v:=?_) (w':=?_) rfl (by rfl) ?_ ?_ ?_;rotate_left 2
     ·go_simp;(try (constructor<;>with_reducible rfl))
     ·exact aa.cons Kx.out.pr (aa.cons Kx.out.la (ai _))
     simp only[U,V,Z];refine cE _ _ ?_;clear cE PE;simp only[OB,OC];go_wp2_with fail
     refine⟨rfl,?_⟩;go_wp2_with fail
     go_meet
     case rel=>exact⟨D,A6,c6,xs,rfl,rfl,rfl,Kx,LL,Kv,LT,KK⟩
   obtain⟨D,A6,c6,xs,rfl,rfl,rfl,av,jg,Kv,K4,KK⟩:=hcut
   by_cases KA:er=0
   ·subst KA
    obtain⟨KO,had,LX,KU,cI,KV⟩:=LM.out rfl;(try dsimp only at KO had KU cI KV);obtain⟨n2,M0⟩:∃n2:Nat,KQ=(n2:Int):=⟨KQ.toNat,by omega⟩;subst M0;rw[hn] at cI;have KF:OK.wrap (((p+C:Nat):Int)+(n2:Int))=((p+C:Nat):Int)+(n2:Int):=(by have:=fJ.out;rw[OF];omega);have Lr:=O KF;have KB:p+C+n2<=8*n:=(by omega);have Kw:=O KB;have Md:=O (show 1<=n2 by omega);have Mc:=O KO;have LG:=O had;have CF:=O (λW=>qV m A6 (OA xs) c6 f nm KO Li.out.1 Li.out.2 W);have KW:=O (λW=>qI m A6 (OA xs) c6 W);unfold dU at CF KW;clear KO had LX KU cI KV KF KB;go_wp2_with fail
    refine(eZ g (X A n c) sv (p+C) (n2:Int) _ av.out.pr Lr.out).mono ?_;rintro e5 w5 ⟨⟨u5,rfl⟩,LE⟩;have Ld:=av.out.at (p+C+n2);have KN:=jg.out.far (p:=⟨g,1,none⟩) (λe=>aT (show ab wc D 55 (dC m (X A6 (OA xs) c6)) from jg.out) av.out.pr (by decide) e) (OH OG ((p+C+n2:Nat):Int));have Lb:=cr K4.out av.out.pr (tB (by decide) (by decide)) 1 (OH OG ((p+C+n2:Nat):Int));rw[show ((p+C+n2:Nat):Int)=((p+C:Nat):Int)+(n2:Int) by omega,<-LE] at Ld KN Lb;have Lo:=O Ld;have Lj:=O KN;have LP:=O Lb;clear LE Ld Lb av jg K4;have dO:=KN;unfold dC at dO;have j0:=dO.cell 0;have j1:=dO.cell 1;have j2:=dO.cell 2;have j3:=dO.cell 3;have j4:=dO.cell 4;have j5:=dO.cell 5;have j6:=dO.cell 6;simp at j0 j1 j2 j3 j4 j5 j6;clear KN dO
    cases Kt:iL f nm m with
    |false=>
     have j:=HE.out;rw[Jq HD.out (by have:=H3.out;omega) (by have:=H3.out;omega) (by have:=H3.out;omega) (by rw[J,HM.out]) (by rw[J,HM.out];exact Kt)] at j;subst j;rw[Kt] at CF;clear Kt;go_wp2_with (go_at_call 77;refine(CF.out _).mono ?_;rintro e6 w6 ⟨rfl,rG⟩;have KJ:=O (Lo.out.below rG);clear rG)
     refine(dM g 0 12 (by decide) _).mono ?_;rintro e7 w7 ⟨M,rfl⟩;unfold ie at M;subst M;exact⟨rfl,KJ.out.gb,.inr ⟨by simp,rfl,p+C+n2,KJ.out.pr⟩⟩
    |true=>
     have j:=HE.out;rw[H8 HD.out (by have:=H3.out;omega) (by have:=H3.out;omega) (by have:=H3.out;omega) (by rw[J,HM.out]) (by rw[J,HM.out];exact Kt)] at j;rw[J,HM.out] at j;dsimp only at j;rw[J] at j;have LU:=O j;rw[Kt] at CF;clear Kt j;go_wp2_with (go_at_call 77;refine(CF.out _).mono ?_;rintro e6 w6 ⟨rfl,rG⟩;have KJ:=O (Lo.out.below rG);have Lk:=O (Lj.out.below rG Lj.out.lt);have LQ:=O (fL LP.out rG);clear rG)
     have Hl:Below w6.heap.size w6 w6.drew:=(Below.refl _ _).drew;have Lq:=O (KJ.out.below Hl);have JT:=O (Lk.out.below Hl Lk.out.lt);have Ln:=O (fL LQ.out Hl);clear Hl;refine aP (λw'=>ab w' D 55 (dC m (X A6 (OA xs) c6))) 5 (Y 0 (Y 1 (Y 4 (OD 2 (OD 3 .done))))) (JT.out) (λPE cE=>?_)
     iterate 3
      refine af (v:=?_) rfl (by rfl) ?_ ?_
      rotate_left
      ·intro _ K;(try dsimp only at K);have a:=K;unfold dC at a;have a0:=a.cell 0;have a1:=a.cell 1;have a2:=a.cell 2;have a3:=a.cell 3;have a4:=a.cell 4;have a5:=a.cell 5;have a6:=a.cell 6;(try dsimp only at a0 a1 a2 a3 a4 a5 a6);go_simp;(try with_reducible rfl)
      simp only[U,V,Z]
     refine aj (v:=?_) (w':=?_) rfl (by rfl) ?_ ?_ ?_;rotate_left 2
     ·go_simp;(try (constructor<;>with_reducible rfl))
     ·exact JT.out.alloc _
     simp only[U,V,Z];have aJ:Below w6.drew.heap.size w6.drew (w6.drew.alloc (OE (eX ⟨m,xs,A6,c6⟩).toArray 55)):=(Below.refl _ _).alloc (OL _) _;have dy:=O (Lq.out.below aJ);have LK:=O (JT.out.below aJ JT.out.lt);have LR:=O (fL Ln.out aJ);have KE:(w6.drew.alloc (OE (eX ⟨m,xs,A6,c6⟩).toArray 55)).ownsRow w.heap.size 55 7 (X Av (OA es) cv) (OA es) (az eX es):=dy.out.rows.head;refine pZ JN rfl (by rfl) rfl rfl KE rfl (news:=eX ⟨m,xs,A6,c6⟩) (m:=1) (by have h:=ab.sl (ab.new w6.drew 55 (eX ⟨m,xs,A6,c6⟩).toArray) 0;exact h) rfl (by intro u hu;simp only[eX,List.mem_cons,List.mem_nil_iff,or_false] at hu;rcases hu with rfl|rfl|rfl|rfl|rfl|rfl|rfl<;>rfl) (by have:=HX.out;omega) (dy.out.gb.size) ?_;intro v7 w7 La Ku;obtain⟨Ax,cx,M6⟩:=bg La;subst M6
     have Lw:lW w g hl (X A n c) sv (p+C+n2) x (X Ax (OA es+1) cx) (es++[⟨m,xs,A6,c6⟩]) w7:=by
      have eE:=KE;refine⟨wZ dy.out.gb Ku (λk e=>(eE.lt k e).1),dy.out.pr.grown Ku (ba eE dy.out.pr (by decide)),dy.out.la.grown Ku (ba eE dy.out.la (by decide)),dy.out.hl,?_⟩;have LZ:(es++[(⟨m,xs,A6,c6⟩:ei)]).length=OA es+1:=(by rw[OJ,OI]);refine ar.cons ?_ ?_
      ·rw[LZ,gR,fX]
       exact La
      ·have LY:iN w.heap.size (es++[(⟨m,xs,A6,c6⟩:ei)])=iN w.heap.size es++od w.heap.size ⟨m,xs,A6,c6⟩:=by unfold iN;rw[List.flatMap_append];simp
       rw[LY];have hk:∀R:List a9,ar R (w6.drew.alloc (OE (eX ⟨m,xs,A6,c6⟩).toArray 55))->(∀r∈R,r.e≠55)->ar R w7:= λR hR M4 r j=>(hR r j).kept Ku (qq eE (hR r j) (Ne.symm (M4 r j)));exact(hk _ dy.out.rows.tail (by intro r j;rcases qk r j with h|h<;>rw[h]<;>decide)).app (hk _ LR.out (tB (by decide) (by decide)))
     have LN:=O Lw;have LJ:=O (LK.out.grown Ku KK.out);refine⟨LJ.out,?_⟩;simp only[U,V,Z];refine cE _ _ ?_;clear cE PE;simp only[OB,OC];clear Lw La Ku KE aJ;unfold dY at KW;go_wp2_with (go_at_call 64;refine(KW.out _).mono ?_;rintro e8 w8 ⟨rfl,Lt⟩;have Lp:=O (LN.out.below Lt);have G:=Lp.out.la;unfold kz at G;have z0:=G.cell 0;have z1:=G.cell 1;have z2:=G.cell 2;have z3:=G.cell 3;have f0:=G.frozen 0;have f1:=G.frozen 1;have f2:=G.frozen 2;have f3:=G.frozen 3;(try dsimp only at z0 z1 z2 z3 f0 f1 f2 f3);clear G Lt)
     refine⟨rfl,?_⟩;go_wp2_with fail
     go_roundg (8*n+1 - (p+C+n2))
     case measure=>have:=Lm.out;have:=KI.out;have:=Kw.out;omega
     case rel=>
      refine⟨k,p+C+n2,dT m,es++[⟨m,xs,A6,c6⟩],by have:=Kw.out;omega,Kw.out,O (by have:=HK.out;have:=KI.out;omega),O ?_,O (Lp.out.last (dT m)),O ?_,O ?_⟩
      ·rw[LU.out];simp
      ·rw[lZ,OJ,OI]
       have:=LG.out;have:=HX.out;have:=H3.out;have:=LH.out;omega
      ·intro y hy
       rcases List.mem_append.1 hy with hy|hy
       ·exact HQ.out y hy
       ·rw[List.mem_singleton] at hy
        subst hy;exact Kv.out
   ·have j:=HE.out
    rw[Jp HD.out (by have:=H3.out;omega) (by have:=H3.out;omega) (by have:=H3.out;omega) (by rw[J,HM.out];exact KA),J,HM.out] at j;dsimp only at j;subst j;have LI:=O KA;have KX:=O (jk KA);clear KA;go_wp2_with fail
    refine(dM g KQ er LI.out _).mono ?_;rintro e7 w7 ⟨M,rfl⟩;unfold ie at M;subst M;exact⟨rfl,av.out.gb,.inr ⟨KX.out,rfl,p+C,av.out.pr⟩⟩
  ·have j:=HE.out
   rw[Jn HD.out Ky Kz] at j;subst j;have Lv:jw e=e:=(by unfold jw;rw[if_neg Kz]);have KX:=O Lv;have Lh:=O Ky;have k1:(e==5)=false:=(by simpa using Kz);have k2:(e==0)=false:=(by simpa using Ky);clear gj Lv Ky Kz;go_wp2_with fail
   refine(dM g nb e Lh.out _).mono ?_;rintro e3 w3 ⟨M,rfl⟩;rw[KX.out] at M;unfold ie at M;subst M;exact⟨rfl,B.out.gb,.inr ⟨Lh.out,rfl,p,B.out.pr⟩⟩
end
section
open Go Go.RowKit
open List renaming mem_cons→O,length→U,mem_map→Y
open Go.IntKind renaming i64→Z
open Go.Value renaming int→V,pointer→J
open Tryz renaming prog→X
theorem uS {B D:Nat}{ms:List ei}{W:World}(h:ar (iN B ms) W)(I:D<=B):ar (iN D ms) W:=by
 intro r M;obtain⟨p,K,j⟩:=List.mem_flatMap.1 M;have G:=uD h K;rcases O.1 j with rfl|j
 ·exact cJ G.head I
 ·obtain⟨b,C,rfl⟩:=Y.1 j
  exact cJ (G.tail (Cp B b) (Y.2 ⟨b,C,rfl⟩)) I
def vZ (num qu:Int) (u v:Value):Array Value:= #[V Z num,V Z qu,u,v]
structure oO (w:World) (g h2:Nat) (bv sv:Value) (p:Nat) (lr:a9) (tm ty:Int) (spv:Value) (sp:List UInt8) (v:Value) (gs:List cQ) (W:World):Prop where
 gb:w.grownBy W (some g)
 pr:ab W g 77 (cF bv p sv)
 sh:ab W h2 35 #[V Z tm,V Z ty,spv,v]
 h2:w.heap.size<=h2
 rows:ar (⟨w.heap.size,51,4,v,U gs,az fV gs⟩::⟨w.heap.size,5,1,spv,U sp,sp.map ag⟩::lr::jc w.heap.size gs) W
 le:lr.e=3
theorem ym {B:Nat}{v C:Value}{sp:List UInt8}{D:a9}{gs:List cQ}{t:TypeId}(hl:D.e=3)(G:t≠51)(h2:t≠5)(I:t≠3)(K:t≠55)(M:t≠93)(N:t≠189):
  ∀r∈(⟨B,51,4,v,U gs,az fV gs⟩::⟨B,5,1,C,U sp,sp.map ag⟩::D::jc B gs:List a9),r.e≠t:=by
 intro r j;rcases O.1 j with rfl|j
 ·exact Ne.symm G
 rcases O.1 j with rfl|j
 ·exact Ne.symm h2
 rcases O.1 j with rfl|j
 ·rw[hl];exact Ne.symm I
 ·rcases tx r j with h|h|h|h<;>rw[h]
  ·exact Ne.symm h2
  ·exact Ne.symm K
  ·exact Ne.symm M
  ·exact Ne.symm N
section
variable {w:World} {g h2:Nat} {bv sv:Value} {p:Nat} {lr:a9} {tm ty:Int} {spv:Value} {sp:List UInt8} {v:Value} {gs:List cQ} {W W':World}
theorem oO.go (h:oO w g h2 bv sv p lr tm ty spv sp v gs W){q:Nat}(j:W.grownBy W' (some g))(B:ab W' g 77 (cF bv q sv)):oO w g h2 bv sv q lr tm ty spv sp v gs W':=
 ⟨h.gb.trans j,B,i7 h.sh j (aT h.sh h.pr (by decide)),h.h2,Bp h.rows h.pr j (ym h.le (by decide) (by decide) (by decide) (by decide) (by decide) (by decide)),h.le⟩
theorem oO.below (h:oO w g h2 bv sv p lr tm ty spv sp v gs W)(j:Below W.heap.size W W'):oO w g h2 bv sv p lr tm ty spv sp v gs W':=h.go (dr j (Nat.le_refl _)) (h.pr.below j h.pr.lt)
theorem oO.off (h:oO w g h2 bv sv p lr tm ty spv sp v gs W){k:Nat}{cs:Array Value}{t:TypeId}(j:ab W k t cs)(ht:t=51\/t=32)(D:w.heap.size<=k)(C:∀r∈(⟨w.heap.size,51,4,v,U gs,az fV gs⟩::⟨w.heap.size,5,1,spv,U sp,sp.map ag⟩::lr::jc w.heap.size gs:List a9),r.v.ownBlock≠some k) (i:Nat) (u:Value):
  oO w g h2 bv sv p lr tm ty spv sp v gs (W.setCell ⟨k,i,none⟩ u):=
 ⟨db h.gb D _ _,h.pr.far (p:=⟨k,i,none⟩) (aT h.pr j (by rcases ht with rfl|rfl<;>decide)) _,h.sh.far (p:=⟨k,i,none⟩) (aT h.sh j (by rcases ht with rfl|rfl<;>decide)) _,h.h2,λr B=>ek (h.rows r B) ⟨k,i,none⟩ u (C r B),h.le⟩
theorem Gv {R:List a9}(h:ar R W){k:Nat}(B:W.heap.size<=k):∀r∈R,r.v.ownBlock≠some k:= λr j e=>by
 have:=((h r j).lt k e).2;omega
end
theorem JM:eU X 33 51 4 64:= .mk' (z:=.agg #[V Z 0,V Z 0,.slice none 0 0,.slice none 0 0]) (by kernel_rfl) (by kernel_rfl) rfl (by decide) (by decide)
def I7 (g:Nat) (j B:Value) (r:ez×Nat×Int) (w:World) (e:Ending) (w':World):Prop:=
 w.grownBy w' (some g)/\((r.2.2=0/\∃s:a8,e=.returned (fY s)/\s.s=r.1/\nN s/\ab w' g 77 (cF j r.2.1 B)/\ar (oB w.heap.size s) w')\/(r.2.2≠0/\ie r.2.2 e/\∃C,ab w' g 77 (cF j C B)))
theorem Gy (h:Nat)(tm ty:Int)(u v:Value)(tmps:Array Value)(W:World)(j:ab W h 35 #[V Z tm,V Z ty,u,v])(C:tmps.getD 2 undef=J (some ⟨h,0,none⟩)):
  (results Tryz.f48 tmps).run X W= .ok (.agg #[V Z tm,V Z ty,u,v]) W:=by
 have c0:=j.cell 0;have c1:=j.cell 1;have c2:=j.cell 2;have c3:=j.cell 3;simp at c0 c1 c2 c3;have B:tmps[2]?.getD undef=J (some ⟨h,0,none⟩):=by simpa using C
 simp[results,Tryz.results48,B,asAddr,c0,c1,c2,c3,go_sem]
end
open Go Go.RowKit
attribute [local go_sem] Oper.semAt_some
set_option maxHeartbeats 16000000
set_option maxRecDepth 100000
open Go.Lib renaming hid→O
open List renaming setIfInBounds_toArray→U,set_cons_succ→Y,set_cons_zero→X,append_assoc→OM,length→ON
open Go.IntKind renaming i64→Z,i64→OE,wrap_i64→OI
open Go.Value renaming int→V,slice→J,string→OL,tuple→OP
open Int renaming cast_ofNat_Int→OA,eq_ofNat_of_zero_le→OC,toNat_natCast→OH
open Tryz renaming ntmps40→OB,func40→OD,prog→OF
open Go.Ending renaming returned→OG
open Nat renaming le_refl→OJ
open Go.Proofs.YthhijgcfbjcgiaaGreatDoor.bY renaming take→OK,step→OQ
open Go.Obj renaming cells→OO
theorem qP (tm ty:Int)(A:Option Addr)(n c:Nat)(w:World):Calls OF 40 #[.agg #[V Z tm,V Z ty,J A n c]] w λe w'=>e=OG (V Z (if mo tm ty n then 0 else 2))/\Below w.heap.size w w':=by
 have j:=O ((Below.refl _ w).alloc (OJ _) (OO #[V Z tm,V Z ty,J A n c] 32))
 have he:mo tm ty n=(!decide (tm<0)&& !decide (31<tm)&& !decide (ty<0)&& !decide (63<ty)&& !decide ((32:Int)<(n:Int))):=by
  unfold mo;rw[Bool.eq_iff_iff];simp;omega
 rw[he];clear he
 cases B:decide (tm<0) with
 |true=>
  go_enter OD,OB
  go_wp2_with fail
  go_ret;exact⟨rfl,j.out⟩
 |false=>
  cases C:decide (31<tm) with
  |true=>
   go_enter OD,OB
   go_wp2_with fail
   go_ret;exact⟨rfl,j.out⟩
  |false=>
   cases D:decide (ty<0) with
   |true=>
    go_enter OD,OB
    go_wp2_with fail
    go_ret;exact⟨rfl,j.out⟩
   |false=>
    cases k4:decide (63<ty) with
    |true=>
     go_enter OD,OB
     go_wp2_with fail
     go_ret;exact⟨rfl,j.out⟩
    |false=>
     cases G:decide ((32:Int)<(n:Int)) with
     |true=>
      go_enter OD,OB
      go_wp2_with fail
      go_ret;exact⟨rfl,j.out⟩
     |false=>
      go_enter OD,OB
      go_wp2_with fail
      go_ret;exact⟨rfl,j.out⟩
theorem yb (tm ty:Int)(A:Option Addr)(n c:Nat)(B:0<=ty/\ty<=63)(w:World):Calls OF 41 #[.agg #[V Z tm,V Z ty,J A n c]] w λe w'=>e=OG (V Z (dJ ty))/\Below w.heap.size w w':=by
 have D:=O ((Below.refl _ w).alloc (OJ _) (OO #[V Z tm,V Z ty,J A n c] 32));obtain⟨k,rfl⟩:=OC B.1;have I:k<=63:=by omega
 have C:bits BinOp.and OE (k:Int) 63=(k:Int):=by
  have:∀j:Fin 64,bits BinOp.and OE ((j.1:Nat):Int) 63=((j.1:Nat):Int):=(by decide+kernel);exact this ⟨k,by omega⟩
 have K:OE.wrap ((k:Int) / 4)=(k:Int) / 4:=by rw[OI];omega
 have G:((k:Int)).tdiv 4=(k:Int) / 4:=Int.tdiv_eq_ediv_of_nonneg (by omega);have h2:((k:Int) / 4).tmod 2=(k:Int) / 4 % 2:=Int.tmod_eq_emod_of_nonneg (by omega);unfold dJ
 go_enter Tryz.func41,Tryz.ntmps41
 go_wp2_with fail
 go_ret;exact⟨rfl,D.out⟩
theorem qQ (sp:List UInt8)(A:Option Addr)(n c:Nat)(w:World)(hA:Sl w A (sp.map ag))(hn:ON sp=n)(cI:n<=32):
  Calls OF 114 #[J A n c] w λe w'=>e=OG (OL (bs (dL sp)))/\Below w.heap.size w w':=by
 have HN:=O hn;have T:=O hA;have he:bs []={data:= #[]}:=rfl;clear hA
 go_enter Tryz.func114,Tryz.ntmps114
 go_wp2_with fail
 go_loopg [3,4] n (λgk t i=> λwr=>∃(j:Nat),j+gk=n/\i=V Z (j:Int)/\t=OL (bs ((sp.take j).flatMap λb=>49::ak b.toNat 8))/\Hid (Below w.heap.size w wr)/\Hid (Sl wr A (sp.map ag)))
 case atStart=>exact⟨0,by omega,rfl,by rw[List.take_zero,List.flatMap_nil];rfl,O (Below.refl _ _),T⟩
 case round=>
  obtain⟨j,hj,rfl,rfl,G,M⟩:=hrel;have D:((sp.take j).flatMap λb=>49::ak b.toNat 8).length<=10000:=by rw[rA,List.length_take];have:=HN.out;omega
  cases gk with
  |zero=>
   have B:j=n:=(by omega);have cE:¬((j:Int)<(n:Int)):=(by omega);have N:Hid (((sp.take j).flatMap λb=>49::ak b.toNat 8)++[48]=dL sp):=O (by rw[B,List.take_of_length_le (by rw[HN.out];exact OJ _)];rfl);generalize ((sp.take j).flatMap λb=>49::ak b.toNat 8)=L at N D⊢;clear hj B;go_wp2_with fail
   go_ret;exact⟨by rw[<-N.out];rfl,G.out⟩
  |succ g=>
   have cE:((j:Int)<(n:Int)):=(by omega);have dv:¬((j:Int)<0):=(by omega);have B:j<(ON sp):=(by rw[HN.out];omega);obtain⟨C,hb⟩:∃b,sp[j]=b:=⟨_,rfl⟩;obtain⟨ad,rfl,_,hc⟩:=M.out.byte j B;rw[hb] at hc;have I:C.toNat<256:=UInt8.toNat_lt _;have dy:OE.wrap ((j:Int)+1)=(j:Int)+1:=(by rw[OI];omega);have dO:OE.wrap (C.toNat:Int)=(C.toNat:Int):=(by rw[OI];omega);have N:Hid ((((sp.take j).flatMap λb=>49::ak b.toNat 8)++[49])++ak C.toNat 8=(sp.take (j+1)).flatMap λb=>49::ak b.toNat 8):=O (by rw[pP sp j B,hb];simp only[OM];rfl);generalize ((sp.take j).flatMap λb=>49::ak b.toNat 8)=L at N D⊢;have C1:=O (λW=>gD C.toNat 8 (by omega) (by decide) W);simp only[OA] at C1;have aJ:=O hj;have l8:=bf C.toNat 8;generalize ak C.toNat 8=L3 at*;generalize C.toNat=bn at*;clear hj B hb I;go_wp2_with fail
   refine(C1.out _).mono ?_;rintro e w4 ⟨rfl,K⟩;have bM:=O (G.out.trans (K.mono G.out.size));have av:=O (M.out.below K);clear K;go_wp2_with fail
   go_roundg g
   case measure=>omega
   case rel=>exact⟨j+1,by have:=aJ.out;omega,rfl,by rw[<-N.out];rfl,bM,av⟩
theorem EF (tm ty:Int)(sp:List UInt8)(A:Option Addr)(n c:Nat)(w:World)(hA:Sl w A (sp.map ag))(hn:ON sp=n)(cE:mo tm ty n=true):
  Calls OF 68 #[.agg #[V Z tm,V Z ty,J A n c]] w λe w'=>e=OG (OP #[OL (bs (kJ ⟨tm,ty,sp⟩)),V Z 0])/\Below w.heap.size w w':=by
 have aJ:Below w.heap.size w (w.alloc (OO #[V Z tm,V Z ty,J A n c] 32)):=(Below.refl _ _).alloc (OJ _) _;have I:=O aJ;have cI:=O (hA.below aJ);have j:ab (w.alloc (OO #[V Z tm,V Z ty,J A n c] 32)) w.heap.size 32 #[V Z tm,V Z ty,J A n c]:=ab.new _ _ _;have K:=O j;have CK:=O (λW=>qP tm ty A n c W);rw[cE] at CK;simp only[mo,Bool.and_eq_true,decide_eq_true_eq] at cE;obtain⟨⟨⟨⟨h1,h2⟩,h3⟩,h4⟩,h5⟩:=cE;obtain⟨a,rfl⟩:=OC h1;obtain⟨b,rfl⟩:=OC h3;have D1:=O (λW=>gD a 5 (by omega) (by decide) W);have D2:=O (λW=>gD b 6 (by omega) (by decide) W);have D3:=O (λW (h:Sl W A (sp.map ag))=>qQ sp A n c W h hn h5);simp only[OA] at D1 D2;unfold kJ;dsimp only;rw[OH,OH];have l1:=bf a 5;have l2:=bf b 6;have l3:=gS sp;rw[hn] at l3;generalize ak a 5=L1 at*;generalize ak b 6=L2 at*;generalize dL sp=L3 at*;have Ht:(L1++L2).length=11:=by rw[List.length_append];omega
 have dv:Hid ((L1++L2)++L3=L1++(L2++L3)):=O (OM _ _ _);obtain⟨hh,bM⟩:∃hh,w.heap.size=hh:=⟨_,rfl⟩;have Hl:=O bM;rw[bM] at j;have y0:=j.cell 0;have y1:=j.cell 1;have y2:=j.cell 2;(try dsimp only at y0 y1 y2);clear aJ hA j h1 h2 h3 h4 hn
 go_enter Tryz.func68,Tryz.ntmps68
 go_wp2_with (go_at_call 40;refine(CK.out _).mono ?_;rintro e w1 ⟨rfl,gj⟩;have B:=O gj;clear gj)
 have iP:ab w1 hh 32 #[V Z (a:Int),V Z (b:Int),J A n c]:=by rw[<-bM];exact K.out.below B.out K.out.lt
 have M:=O (show ab w1.drew hh 32 #[V Z (a:Int),V Z (b:Int),J A n c] from iP);have dy:=O (I.out.trans (B.out.mono I.out.size));have jg:=O (cI.out.below B.out);clear iP K B I cI CK y0 y1 y2;refine aP (λw'=>ab w' hh 32 #[V Z (a:Int),V Z (b:Int),J A n c]) 10 (OK 0 (OK 1 (OK 3 (OK 4 (OK 7 (OK 8 (OQ 2 (OQ 5 (OK 6 (OQ 9 .done)))))))))) (M.out) (λPE fJ=>?_)
 iterate 6
  refine af (v:=?_) rfl (by rfl) ?_ ?_
  rotate_left
  ·intro _ C;(try dsimp only at C);have c:=C;have a0:=c.cell 0;have a1:=c.cell 1;have a2:=c.cell 2;(try dsimp only at a0 a1 a2);go_simp;(try with_reducible rfl)
  simp only[U,X,Y]
 refine aG (f:=113) rfl (by rfl) (by first|(go_simp;done)|(go_simp;rfl)) (D1.out _) ?_;rintro e w2 ⟨rfl,D⟩;have N:=O (M.out.below D M.out.lt);have dO:=O (dy.out.drew.trans (D.mono dy.out.size));have jY:=O (jg.out.below ((Below.refl _ _).drew.trans D));refine⟨_,rfl,_,λ_ h=>h,N.out,?_⟩;simp only[U,X,Y];refine aG (f:=113) rfl (by rfl) (by first|(go_simp;done)|(go_simp;rfl)) (D2.out _) ?_;rintro e w3 ⟨rfl,G⟩;have T:=O (N.out.below G N.out.lt);have eE:=O (dO.out.trans (G.mono dO.out.size));have kA:=O (jY.out.below G);refine⟨_,rfl,_,λ_ h=>h,T.out,?_⟩;simp only[U,X,Y];refine af (v:=?_) rfl (by rfl) ?_ ?_;rotate_left
 ·intro _ C;(try dsimp only at C);go_simp;(try with_reducible rfl)
 simp only[U,X,Y];refine aG (f:=114) rfl (by rfl) (by first|(go_simp;done)|(go_simp;rfl)) (D3.out _ kA.out) ?_;rintro e w4 ⟨rfl,av⟩;have kU:=O (T.out.below av T.out.lt);have rG:=O (eE.out.trans (av.mono eE.out.size));refine⟨_,rfl,_,λ_ h=>h,kU.out,?_⟩;simp only[U,X,Y];refine fJ _ _ ?_;clear fJ PE;simp only[List.drop_succ_cons,List.drop_zero];clear D G av;go_wp2_with fail
 refine⟨rfl,?_⟩;go_wp2_with fail
 go_ret2;exact⟨by rw[<-dv.out];rfl,rG.out⟩
theorem qR (k:Nat)(C:k<=15)(w:World):Calls OF 67 #[V Z (k:Int)] w λe w'=>e=OG (OP #[OL (bs (dV (k:Int))),V Z 0])/\Below w.heap.size w w':=by
 have I:decide ((k:Int)<0)=false:=by simp
 have K:decide ((15:Int)<(k:Int))=false:=by simp;omega
 have D:=O (λW=>gD k 4 (by omega) (by decide) W);simp only[OA] at D;unfold dV;rw[OH];have M:=bf k 4;have G:Hid (bs [48,48,48,48,48,48,48,48,48,48,48,48,48,48,48,49]=bs (ak 1 16)):=O (by kernel_rfl);generalize ak k 4=L at*;clear C
 go_enter Tryz.func67,Tryz.ntmps67
 go_wp2_with (go_at_call 113;refine(D.out _).mono ?_;rintro e N ⟨rfl,j⟩;have B:=O j;clear j)
 go_ret2;exact⟨rfl,B.out⟩
theorem EG (q:Nat)(sp:List UInt8)(A:Option Addr)(n c:Nat)(w:World)(N:Sl w A (sp.map ag))(I:ON sp=n)(K:1<=q)(M:q<=31)(G:n<=32):
  Calls OF 69 #[V Z (q:Int),J A n c] w λe w'=>e=OG (OP #[OL (bs (ak q 5++dL sp)),V Z 0])/\Below w.heap.size w w':=by
 have h0:decide ((q:Int)<1)=false:=by simp;omega
 have h1:decide ((31:Int)<(q:Int))=false:=by simp;omega
 have h2:decide ((32:Int)<(n:Int))=false:=by simp;omega
 have D:=O (λW=>gD q 5 (by omega) (by decide) W);have T:=O (λW (h:Sl W A (sp.map ag))=>qQ sp A n c W h I G);simp only[OA] at D;have l4:=bf q 5;have l3:=gS sp;have HA:=O N;rw[I] at l3;generalize ak q 5=L at*;generalize dL sp=L3 at*;clear K M N I
 go_enter Tryz.func69,Tryz.ntmps69
 go_wp2_with (first|(go_at_call 113;refine(D.out _).mono ?_;rintro e w2 ⟨rfl,j⟩;have B:=O j;clear j)|(go_at_call 114;refine(T.out _ (HA.out.below B.out)).mono ?_;rintro e w3 ⟨rfl,j⟩;have C:=O (B.out.trans (j.mono B.out.size));clear j))
 go_ret2;exact⟨rfl,C.out⟩
end Go.Proofs.YthhijgcfbjcgiaaGreatDoor
