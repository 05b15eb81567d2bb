/- Pfx -/
import Derived.Test.YthhijgcfbjcgiaaGreatDoorQ07
import Derived.Test.YthhijgcfbjcgiaaGreatDoorQ13
import Derived.Deep.LoopGhost
namespace Go.Proofs.YthhijgcfbjcgiaaGreatDoor
open Go Go.RowKit Go.Maps
attribute [local go_sem] Oper.semAt_some
open List renaming length→O,setIfInBounds_toArray→OD,getElem_set_self→OG,drop_succ_cons→OH,set_cons_succ→OI,set_cons_zero→OJ,all_eq_true→OO,getElem_mem→OP,length_set→OR,drop_zero→OS
open Go.Lib renaming hid→U
open Go.IntKind renaming i64→Z,u8→OU
open Tryz renaming prog→V,underlying230→OC,zeroValue227→OL,underlying3→OQ
open Go.Value renaming slice→Y,bool→J,string→OB,pointer→OV
open Bool renaming or_eq_true→X,and_eq_true→OM,not_eq_true→ON
open Go.Proofs.YthhijgcfbjcgiaaGreatDoor.cb renaming take→OA
open Nat renaming le_trans→OE,add_zero→OT
open Go.Obj renaming cells→OF
open Go.Ending renaming returned→OK
def ey (w:World) (base T:Nat) (N:List Nd) (D:DataW Value) (j:Nat):Prop:=
 ∃v B,ab w T 232 #[v,.map (some B),.int Z (j:Int)]/\w.ownsRow base 260 4 v (O N) (av nE N)/\w.ownsMap V 3 gR B j D/\base<=B/\base<=T
theorem Ju:eY V 229 260 4 32:= .mk' (z:=.agg #[.int Z 0,.int Z 0,J false,.int Z 0]) (by kernel_rfl) (by kernel_rfl) rfl (by decide) (by decide)
theorem ox {w:World}{P:Program}{k:TypeId}{b n g:Nat}{D:DataW Value}{t:TypeId}{cs:Array Value}(h:w.ownsMap P k gR b n D)(B:ab w g t cs):b≠g:= λe=>by
 subst e;obtain⟨G,j,C,_⟩:=h;unfold ab at B;rw[B] at C;cases C
theorem EE {w w':World}{P:Program}{k:TypeId}{b n:Nat}{D:DataW Value}(h:w.ownsMap P k gR b n D)(C:Below w.heap.size w w'):w'.ownsMap P k gR b n D:=by
 have hl:=h.lt;obtain⟨B,j,G,r⟩:=h;exact⟨B,j,(C.block b hl).trans G,r⟩
theorem ey.later {w w':World}{base T:Nat}{N:List Nd}{D:DataW Value}{j:Nat}(h:ey w base T N D j)(B:Below w.heap.size w w'):ey w' base T N D j:=by
 obtain⟨v,M,C,h2,G,I,K⟩:=h;exact⟨v,M,C.below B C.lt,cC h2 B (Nat.le_refl _),EE G B,I,K⟩
theorem qW (w:World)(base T:Nat)(N:List Nd)(D:DataW Value)(j:Nat)(h:ey w base T N D j)(C:j≠0):Calls V 202 #[OV (some ⟨T,0,none⟩)] w λe w'=>e=OK (J false)/\w=w':=by
 obtain⟨v,G,B,_⟩:=h;have c2:=B.cell 2;have C:((j:Int)==0)=false:=beq_eq_false_iff_ne.2 (by omega);clear B
 go_enter Tryz.func202,Tryz.ntmps202
 go_wp2
 go_ret;exact⟨rfl,rfl⟩
theorem zL (c:List UInt8)(I:cS c=true)(w:World):Calls V 238 #[OB (bs c)] w λe w'=>e=OK (J true)/\w=w':=by
 simp only[cS,OM,decide_eq_true_eq] at I;obtain⟨⟨G,h2⟩,h3⟩:=I;have K:=U G;have M:(1:Int)<=(O c:Int):=by omega
 have N:(O c:Int)<=24:=by omega
 clear G
 go_enter Tryz.func238,Tryz.ntmps238
 go_wp2_with fail
 go_loopg [6] (O c) (λg i=> λwr=>∃(j:Nat),j+g=O c/\i= .int Z (j:Int)/\w=wr)
 case atStart=>exact⟨0,by omega,rfl,rfl⟩
 case round=>
  obtain⟨j,hj,rfl,rfl⟩:=hrel
  cases gk with
  |zero=>
   obtain rfl:j=(O c):=by omega
   have D:¬((O c:Int)<(O c:Int)):=(by omega);have T:decide ((1:Int)<=(O c:Int))=true:=(by simp;omega);have e2:decide ((O c:Int)<=24)=true:=(by simp;omega);go_wp2_with fail
   go_ret;exact⟨rfl,rfl⟩
  |succ g=>
   have D:((j:Int)<(O c:Int)):=(by omega);have C:j<(O c):=(by omega);have B:=OO.1 K.out c[j] (OP C);simp only[X,beq_iff_eq] at B;rcases B with B|B
   ·have q1:((c[j].toNat:Int) !=48)=false:=by rw[B];rfl
    clear B;go_wp2_with fail
    go_roundg g
    case measure=>omega
    case rel=>exact⟨j+1,by omega,rfl,rfl⟩
   ·have q1:((c[j].toNat:Int) !=48)=true:=by rw[B];rfl
    have q3:((c[j].toNat:Int) !=49)=false:=(by rw[B];rfl);clear B;go_wp2_with fail
    go_roundg g
    case measure=>omega
    case rel=>exact⟨j+1,by omega,rfl,rfl⟩
theorem yi (c:List UInt8)(j:cS c=true)(w:World):Calls V 237 #[OB (bs c)] w λe w'=>e=OK (J false)/\w=w':=by
 have B:=U (λw=>zL c j w);clear j
 go_enter Tryz.func237,Tryz.ntmps237
 go_wp2_with (go_at_call 238;refine(B.out _).mono ?_;rintro e w' ⟨rfl,rfl⟩)
 go_ret;exact⟨rfl,rfl⟩
theorem ey.only {w w':World}{base T:Nat}{N:List Nd}{D:DataW Value}{j:Nat}(h:ey w base T N D j)(B:w.grownBy w' none):ey w' base T N D j:=
 h.later ⟨B.os,B.tape,B.output,B.size,λk C=>B.block k C (by simp)⟩
theorem DH {N:List Nd}{k:Nat}{c:UInt8}{s:List UInt8}{R:List Nd×Nat}(h:kv N k (c::s)=some R):(N.getD k ca).leaf=false/\k<O N/\O N<10000/\kv (uR N k c).1 (uR N k c).2 s=some R:=by
 rw[kv] at h
 split at h
 ·cases h
 ·rename_i j
  simp only[X,decide_eq_true_eq,not_or,ON] at j;exact⟨j.1.1,by omega,by omega,h⟩
theorem Fs {N:List Nd}{k:Nat}{R:List Nd×Nat}(h:kv N k []=some R):k<O N/\O N<10000/\R=(N,k):=by
 rw[kv] at h
 split at h
 ·cases h
 ·rename_i j
  simp only[X,decide_eq_true_eq,not_or] at j;exact⟨by omega,by omega,by injection h with h;exact h.symm⟩
theorem kK {N:List Nd}{k:Nat}(h:k<O N):N.getD k ca=N[k]:=by simp[List.getD,h]
structure Ky (W:World) (base T g cap n k:Nat) (x:Nd) (mb many:Nat):Prop where
 c0:W.cell? ⟨T,0,none⟩=some (Y (some ⟨g,0,none⟩) n cap)
 c1:W.cell? ⟨T,1,none⟩=some (.map (some mb))
 c2:W.cell? ⟨T,2,none⟩=some (.int Z (many:Int))
 n0:W.cell? ⟨g,k*4,none⟩=some (.int Z x.a)
 n1:W.cell? ⟨g,k*4+1,none⟩=some (.int Z x.b)
 n2:W.cell? ⟨g,k*4+2,none⟩=some (J x.leaf)
 n3:W.cell? ⟨g,k*4+3,none⟩=some (.int Z x.num)
theorem mZ {W:World}{base T:Nat}{N:List Nd}{D:DataW Value}{B k:Nat}(h:ey W base T N D B)(I:k<O N):
  ∃g j C,base<=g/\g<W.heap.size/\O N<=j/\j<=maxLen/\Ky W base T g j (O N) k N[k] C B/\ab W T 232 #[Y (some ⟨g,0,none⟩) (O N) j,.map (some C),.int Z (B:Int)]/\
   W.ownsRow base 260 4 (Y (some ⟨g,0,none⟩) (O N) j) (O N) (av nE N)/\W.ownsMap V 3 gR C B D/\base<=C/\base<=T:=by
 obtain⟨v,C,G,h2,h3,h4,h5⟩:=h;obtain⟨g,j,rfl,M,aB,K⟩:=ib h2 (by omega);have aC:=(h2.lt g rfl).2;refine⟨g,j,C,K,aC,M,aB,⟨by rw[G.cell];rfl,by rw[G.cell];rfl,by rw[G.cell];rfl,?_,?_,?_,?_⟩,G,h2,h3,h4,h5⟩
 ·have:=j8 ia h2 k I 0 (by decide);rw[OT] at this;rw[this];rfl
 ·rw[j8 ia h2 k I 1 (by decide)];rfl
 ·rw[j8 ia h2 k I 2 (by decide)];rfl
 ·rw[j8 ia h2 k I 3 (by decide)];rfl
theorem mL {D:DataW Value}{f:Int->Option (List UInt8)}(B:kl D f){num:Int}{v:Value}{j:List MemPlace}(h:gR v=some (D.atKey (.int Z num) (.held (fE [])),j)):v=fE ((f num).getD []):=by
 have e:D.atKey (i9 num) (.held (fE []))= .held (fE ((f num).getD [])):=by rw[(B.2 num).2];cases f num<;>rfl
 have h2:gR v=some (D.atKey (i9 num) (.held (fE [])),j):=h;rw[e] at h2;unfold gR at h2;injection h2 with h2;injection h2 with h2 _;injection h2
theorem Bf (id:Int)(j:(Lit.int Z id).wf=true):keyOf V 3 (.int Z id)=some (.int Z id):=Maps.keyOf_int_mk (OQ) j
theorem kJ:Keyed V 3:=int_keyed OQ
theorem FG {c:UInt8}(h:c=48\/c=49):OU.wrap ((c.toNat:Int) - 48)=if c=48 then 0 else 1:=by
 rcases h with rfl|rfl<;>rfl
theorem lB {w:World}{P:Program}{k:TypeId}{b n base e size m:Nat}{D:DataW Value}{v:Value}{xs:List Value}(h:w.ownsMap P k gR b n D)(I:w.ownsRow base e size v m xs):some b≠v.ownBlock:=by
 obtain⟨K,j,G,_⟩:=h;rcases I.2 with⟨rfl,_⟩|⟨g,B,C,rfl,_,h2,_⟩
 ·simp[Value.ownBlock]
 ·intro he
  have:b=g:=(by simpa [Value.ownBlock] using he);subst this;rw[G] at h2;cases h2
theorem Cj (W:World):(Op.equalIn 10000 258 (Value.agg #[.int Z 0,.int Z 0]) (Value.agg #[.int Z 0,.int Z 0])).run V W= .ok true W:=by kernel_rfl
theorem BZ {w w':World}{b g:Nat}{t:TypeId}{cs:Array Value}(h:ab w g t cs)(ht:w.mapTurned w' b):ab w' g t cs:=by
 refine h.grown ht.grown (λe=>?_)
 cases e
 obtain⟨G,B,D,j,C,_⟩:=ht;unfold ab at h;rw[h] at C;cases C
theorem ab.drew1 {w:World}{g:Nat}{t:TypeId}{cs:Array Value}(h:ab w g t cs):ab w.drew g t cs:=h
theorem Gr {w:World}{base e size n:Nat}{v:Value}{xs:List Value}(h:w.ownsRow base e size v n xs):w.drew.ownsRow base e size v n xs:=h
theorem Iw:∀u∈nE ca,u.oneCell'=true:=by
 intro u j;simp only[nE,ca,List.mem_cons,List.not_mem_nil,or_false] at j;rcases j with rfl|rfl|rfl|rfl<;>rfl
set_option maxRecDepth 100000 in
set_option maxHeartbeats 2000000 in
theorem C9 (w:World)(base T:Nat)(N:List Nd)(D:DataW Value)(f:Int->Option (List UInt8))(I:Nat)(s:List UInt8)(num:Int)(M:List Nd)(hs:cS s=true)(hp:yk N s num=some M)(hm:I<300)
  (hw:ey w base T N D I) (hD:kl D f) (KO:(Lit.int Z num).wf=true) (KV:base<=w.heap.size):
  Calls V 239 #[OV (some ⟨T,0,none⟩),OB (bs s),.int Z num] w λe w'=>e=OK (J true)/\ey w' base T M (nU D num s) (I+1)/\Below base w w':=by
 simp only[cS,OM,decide_eq_true_eq] at hs;obtain⟨⟨Lh,LE⟩,LF⟩:=hs
 obtain⟨R,hR,Lg⟩:∃R,kv N 0 s=some R/\(if (R.1.getD R.2 ca).leaf||(R.1.getD R.2 ca).a !=0||(R.1.getD R.2 ca).b !=0 then none else some (R.1.set R.2 ⟨0,0,true,num⟩))=some M:=by
  unfold yk at hp
  cases h:kv N 0 s with
  |none=>rw[h] at hp;cases hp
  |some R=>rw[h] at hp;exact⟨R,rfl,hp⟩
 have Lm:=U Lh;have HR:=U hR;have HM:=U Lg;have HW:=U hw;have HD:=U hD;have K2:=U (Bf num KO);have HB:=U KV;clear Lh hR Lg hw hp hD KO
 go_enter Tryz.func239,Tryz.ntmps239
 go_wp2_with fail
 go_loopg [7,14] (O s) (λg at_ i=> λwr=>∃(j k:Nat)(B:List Nd),j+g=O s/\at_= .int Z (k:Int)/\i= .int Z (j:Int)/\Hid (kv B k (s.drop j)=some R)/\Hid (ey wr base T B D I)/\Hid (Below base w wr))
 case atStart=>exact⟨0,0,N,by omega,rfl,rfl,HR,HW,U (Below.refl _ _)⟩
 case round=>
  obtain⟨j,k,B,hj,rfl,rfl,L9,HT,KE⟩:=hrel
  cases gk with
  |succ g=>
   have Lf:j<(O s):=(by omega);have Ls:(j:Int)<(O s:Int):=(by omega);have K8:s.drop j=s[j]::s.drop (j+1):=List.drop_eq_getElem_cons Lf;have Io:=L9.out;rw[K8] at Io;obtain⟨aB,hk,hN,Li⟩:=DH Io;rw[kK hk] at aB;obtain⟨gb,K3,mb,KW,Ly,KF,KG,hA,J2,bE,dt,K6,wj⟩:=mZ HT.out hk;obtain⟨c0,c1,c2,n0,n1,n2,n3⟩:=hA;have KM:O B<=K3/\K3<=maxLen:=⟨KF,KG⟩;have K5:Hid (base<=wr.heap.size):=U (OE HB.out KE.out.size);have KY:=OO.1 Lm.out s[j] (OP Lf);simp only[X,beq_iff_eq] at KY;obtain⟨xi,K0⟩:∃xi:Nat,xi=if s[j]=48 then 0 else 1:=⟨_,rfl⟩
   have LI:(xi:Int)<2:=(by rw[K0];split<;>simp);have LH:OU.wrap ((s[j].toNat:Int) - 48)=(xi:Int):=(by rw[FG KY,K0];split<;>rfl);rw[aB] at n2
   have nx:wr.cell? ⟨gb,k*4+xi,none⟩=some (.int Z (B[k].to s[j]:Nat)):=by
    rw[K0];unfold Nd.to
    by_cases hc:s[j]=48
    ·rw[if_pos hc,if_pos hc,OT];exact n0
    ·rw[if_neg hc,if_neg hc];exact n1
   have Lu:¬(k:Int)<0:=(by omega);have Lw:(k:Int)<(O B:Int):=(by omega);have La:=U Li;have gJ:=U bE;have Ip:=U dt;have L5:=U J2;clear Io Li K8 aB bE dt J2 n0 n1 n3 KY KF KG;obtain⟨tt,KC⟩:∃tt,B[k].to s[j]=tt:=⟨_,rfl⟩;rw[KC] at nx
   by_cases h0:tt=0
   ·subst h0
    have HG:=U (show uR B k s[j]=((B++[ca]).set k (B[k].link s[j] (O B)),O B) by unfold uR;rw[kK hk,KC,if_pos rfl]);have dD:=ba gJ.out L5.out (by decide);have HX:=U K0;have HK:=U hk;have HC:=U KM;have Lj:=U (show j+(g+1)=(O s) from hj);clear K0 KC KM hj;have hsz:=K5.out;go_wp2_with (first|(at_builtin;refine cr Ju rfl rfl rfl (gJ.out.alloc _) rfl (m:=1) (news:=nE ca) rfl (ab.sl (ab.new wr 260 _) 0) Iw (by omega) (by simp;omega) ?_;intro v1 w1 KI KZ Lo;obtain⟨g1,aC,rfl,Lp,KX,Ld⟩:=ib KI (by omega);have ja:=(L5.out.alloc _).grown KZ dD;have y0:=ja.cell 0;have yf:=ja.frozen 0;have KJ:=U ja;have KN:g1≠T:=(λe=>ba KI ja (by decide) (by rw[e];rfl));have Ll:=U KI;have KQ:=U KZ;clear KI KZ Lo ja;unfold maxLen at KX))
    have jT:=KJ.out.set_ 0 (Y (some ⟨g1,0,none⟩) (O B+1) aC);have dE:=eR Ll.out ⟨T,0,none⟩ (Y (some ⟨g1,0,none⟩) (O B+1) aC) (by show some g1≠some T;exact λe=>KN (by injection e));rw[show nE ca=av nE [ca] from(dV ca).symm,<-eo] at dE;have hU:Below base w (w1.setCell ⟨T,0,none⟩ (Y (some ⟨g1,0,none⟩) (O B+1) aC)):=((KE.out.alloc K5.out _).grown KQ.out (by have:=K5.out;simp;omega) (λk hk=>(gJ.out.lt k hk).1)).setCell (p:=⟨T,0,none⟩) wj _;have rX:=((Ip.out.alloc (OF #[.int Z 0,.int Z 0,J false,.int Z 0] 260)).kept KQ.out (lB Ip.out gJ.out)).setCell (a:=⟨T,0,none⟩) (ox (((Ip.out.alloc (OF #[.int Z 0,.int Z 0,J false,.int Z 0] 260)).kept KQ.out (lB Ip.out gJ.out))) KJ.out) (Y (some ⟨g1,0,none⟩) (O B+1) aC);have C:=U jT;have G:=U dE;have eE:=U hU;have cz:=U rX;clear jT dE hU rX y0 yf c0 c1 c2 nx n2;generalize w1.setCell ⟨T,0,none⟩ (Y (some ⟨g1,0,none⟩) (O B+1) aC)=w2 at C G eE cz⊢;have y0:w2.cell? ⟨T,0,none⟩=some (Y (some ⟨g1,0,none⟩) (O B+1) aC):=(by rw[C.out.cell];rfl);have yn:w2.frozen? ⟨g1,k*4+xi,none⟩=false:=G.out.frozenAt _
    obtain⟨u,hu⟩:∃u,w2.cell? ⟨g1,k*4+xi,none⟩=some u:=by
     have hl:(B++[ca]).length=O B+1:=(by simp);have h1:=j8 (n:=O B+1) ia G.out k (by rw[hl];omega) xi (by omega);rw[h1];exact⟨_,List.getElem?_eq_getElem (by rw[ia];omega)⟩
    have LC:(k:Int)<(O B:Int)+1:=(by omega);refine iV (λw'=>w'.cell? ⟨T,0,none⟩=some (Y (some ⟨g1,0,none⟩) (O B+1) aC)) 14 [(0,true),(1,true),(2,true),(3,true),(4,true),(5,true),(6,true),(7,true),(8,true),(9,true),(10,true),(11,true),(12,true),(13,true)] (y0) (λPE K4=>?_)
    iterate 14
     refine fe (v:=?_) rfl (by rfl) ?_ ?_
     rotate_left
     ·intro _ KR;(try dsimp only at KR);go_simp;(try with_reducible rfl)
     simp only[OD,OJ,OI]
    (refine K4 _ _ ?_;simp only[OH,OS];clear K4 PE)
    go_wp2_with fail
    go_roundg g
    case measure=>omega
    case rel=>
     have hl:(B++[ca]).length=O B+1:=(by simp);have Lv:k<(B++[ca]).length:=(by rw[hl];omega);have Lq:(B++[ca])[k]=B[k]:=List.getElem_append_left hk
     have L4:=uk (n:=O B+1) ia G.out k Lv xi (by omega) (.int Z (O B:Int)) (B[k].link s[j] (O B)) (by
      rw[Lq,HX.out];unfold Nd.link
      by_cases hc:s[j]=48
      ·rw[if_pos hc,if_pos hc];rfl
      ·rw[if_neg hc,if_neg hc];rfl)
     have h1:=La.out;rw[HG.out] at h1;have Lx:((B++[ca]).set k (B[k].link s[j] (O B))).length=O B+1:=(by simp);refine⟨j+1,O B,(B++[ca]).set k (B[k].link s[j] (O B)),by have:=Lj.out;omega,rfl,rfl,U h1,U ⟨Y (some ⟨g1,0,none⟩) (O B+1) aC,mb,C.out.far (p:=⟨g1,k*4+xi,none⟩) (Ne.symm KN) _,by rw[Lx];exact L4,cz.out.setCell (a:=⟨g1,k*4+xi,none⟩) (by have:=lB cz.out G.out;intro e;exact this (by rw[e];rfl)) _,K6,wj⟩,U (eE.out.setCell (p:=⟨g1,k*4+xi,none⟩) Ld _).drew⟩
   ·have LD:((tt:Int)==0)=false:=beq_eq_false_iff_ne.2 (by omega)
    have HG:=U (show uR B k s[j]=(B,tt) by unfold uR;rw[kK hk,KC,if_neg h0]);clear K0 KC h0;go_wp2_with fail
    go_roundg g
    case measure=>omega
    case rel=>
     have h1:=La.out;rw[HG.out] at h1;exact⟨j+1,tt,B,by omega,rfl,rfl,U h1,HT,KE⟩
  |zero=>
   have Lt:j=(O s):=(by omega);subst Lt;have Io:=L9.out;rw[List.drop_length] at Io;obtain⟨hk,hN,Lc⟩:=Fs Io;have kz:=HM.out;rw[Lc] at kz;simp only[kK hk] at kz
   split at kz
   ·cases kz
   rename_i hc
   simp only[X,not_or,ON,bne_eq_false_iff_eq] at hc;obtain⟨⟨aB,KT⟩,KU⟩:=hc;injection kz with kz;obtain⟨gb,K3,mb,KW,Ly,KF,KG,hA,J2,bE,dt,K6,wj⟩:=mZ HT.out hk;obtain⟨c0,c1,c2,n0,n1,n2,n3⟩:=hA;rw[aB] at n2;rw[KT] at n0;rw[KU] at n1;have Lu:¬(k:Int)<0:=(by omega);have Lw:(k:Int)<(O B:Int):=(by omega);have Ls:¬(O s:Int)<(O s:Int):=(by omega);have Lr:=Cj wr;have dD:gb≠T:= λe=>ba bE J2 (by decide) (by rw[e];rfl);have f2:wr.frozen? ⟨gb,k*4+2,none⟩=false:=bE.frozenAt _;have KH:some mb≠some gb:=lB dt bE;have jT:=J2.far (p:=⟨gb,k*4+2,none⟩) (Ne.symm dD) (J true);have dE:=uk ia bE k hk 2 (by decide) (J true) ⟨0,0,true,B[k].num⟩ (by simp[nE,KT,KU]);have rX:=dt.setCell (a:=⟨gb,k*4+2,none⟩) (λe=>KH (by rw[e])) (J true);have hU:=KE.out.setCell (p:=⟨gb,k*4+2,none⟩) KW (J true);have C:=U jT;have G:=U dE;have cz:=U rX;have eE:=U hU;have L6:=U kz;clear jT dE rX hU bE dt J2 kz Io Lc aB KT KU hj KF KG;go_wp2_with fail
   refine ur (λw'=>w'.cell? ⟨T,0,none⟩=some (Y (some ⟨gb,0,none⟩) (O B) K3)) 14 (OA 0 (OA 1 (OA 2 (OA 3 (OA 4 (OA 5 (OA 6 (OA 7 (OA 8 (OA 9 (OA 10 (OA 11 (OA 12 (.step 13 .done))))))))))))))
    (by kernel_rfl) (by kernel_rfl) (λ_ _ d _ _ h=>by cases d<;>exact h) (by simp only[cb.out,Array.getD_eq_getD_getElem?,List.getElem?_toArray,List.getElem?_cons_zero,List.getElem?_cons_succ,Option.getD_some];rfl) (by simp only[List.map_cons,List.map_nil];rfl) c0 (λPE K4=>?_)
   iterate 13
    refine aj (v:=?_) rfl (by rfl) ?_ ?_
    rotate_left
    ·intro _ KR;(try dsimp only at KR);go_simp;(try with_reducible rfl)
    simp only[OD,OJ,OI]
   refine bG _ (w':=?_) rfl (by rfl) ?_ ?_ ?_;rotate_left 1
   ·go_simp;(first|(with_reducible rfl)|(constructor<;>with_reducible rfl)|skip)
   ·show (wr.setCell ⟨gb,k*4+2,none⟩ (J true)).cell? ⟨T,0,none⟩=_;rw[C.out.cell];rfl
   (refine K4 _ _ ?_;simp only[OH,OS];clear K4 PE)
   generalize wr.setCell ⟨gb,k*4+2,none⟩ (J true)=w2 at C G cz eE⊢;have L0:(B.set k ⟨0,0,true,B[k].num⟩).length=(O B):=OR;have z0:w2.cell? ⟨T,0,none⟩=some (Y (some ⟨gb,0,none⟩) (O B) K3):=(by rw[C.out.cell];rfl);have z1:w2.cell? ⟨T,1,none⟩=some (.map (some mb)):=(by rw[C.out.cell];rfl);have z2:w2.cell? ⟨T,2,none⟩=some (.int Z (I:Int)):=by rw[C.out.cell];rfl
   have z3:w2.cell? ⟨gb,k*4+3,none⟩=some (.int Z B[k].num):=by
    rw[j8 ia G.out k (by rw[L0];exact hk) 3 (by decide),OG];rfl
   have y3:w2.frozen? ⟨gb,k*4+3,none⟩=false:=G.out.frozenAt _;have yT:w2.frozen? ⟨T,2,none⟩=false:=C.out.frozen 2;have Kr:=uk ia G.out k (by rw[L0];exact hk) 3 (by decide) (.int Z num) ⟨0,0,true,num⟩ (by rw[OG];rfl);rw[List.set_set,L6.out] at Kr;have Lb:O M=(O B):=(by rw[<-L6.out,OR]);have K:=U (C.out.far (p:=⟨gb,k*4+3,none⟩) (Ne.symm dD) (.int Z num));have KL:=U Kr;have gy:=U (cz.out.setCell (a:=⟨gb,k*4+3,none⟩) (λe=>KH (by rw[e])) (.int Z num));have fW:=U (eE.out.setCell (p:=⟨gb,k*4+3,none⟩) KW (.int Z num));have LG:IntKind.i64.wrap ((I:Int)+1)=(I:Int)+1:=(by rw[IntKind.wrap_i64];omega);clear c0 c1 c2 n0 n1 n2 n3 f2 Lr Kr;have L7:=U Lb;have Lk:=U KH;clear Lb KH L0
   by_cases hh:Maps.has D (.int Z num)=true
   ·have K1:=U (show nU D num s=D by unfold nU;rw[if_pos (by exact hh)])
    have LA:=(K.out.alloc (OF #[OB (bs ((f num).getD []))] 227)).cell 2;have Lz:=(K.out.alloc (OF #[OB (bs ((f num).getD []))] 227)).cell 1;have LB:=(K.out.alloc (OF #[OB (bs ((f num).getD []))] 227)).frozen 2;go_wp2_with (at_lookup;refine wpList_lookup_own_ok _ rfl _ _ 230 rfl 3 227 kJ OC gR (z:=fE []) (OL _) (.held (fE [])) [] rfl mb _ _ rfl gy.out (.int Z num) (.int Z num) rfl K2.out ?_;intro v ps hv;obtain rfl:=mL HD.out hv;clear hv)
    go_ret;refine⟨rfl,?_,?_⟩
    ·refine⟨_,mb,((K.out.alloc _).set_ 2 (.int Z ((I:Int)+1))),?_,?_,K6,wj⟩
     ·rw[L7.out]
      exact eR (KL.out.alloc _) ⟨T,2,none⟩ _ (by show some gb≠some T;exact λe=>dD (by injection e))
     ·rw[K1.out]
      exact((gy.out.alloc _).setCell (a:=⟨T,2,none⟩) (ox gy.out K.out) _).mono (Nat.le_succ _)
    ·exact((fW.out.alloc (OE HB.out fW.out.size) _).setCell (p:=⟨T,2,none⟩) wj _).drew
   ·have hh:Maps.has D (.int Z num)=false:=by simpa using hh
    have K1:=U (show nU D num s=D.put (i9 num) (.held (fE s)) by unfold nU;rw[if_neg (by rw[show Maps.has D (i9 num)=false from hh];simp)]);have LA:=(K.out.alloc (OF #[OB (bs ((f num).getD []))] 227)).cell 2;have Lz:=(K.out.alloc (OF #[OB (bs ((f num).getD []))] 227)).cell 1;have LB:=(K.out.alloc (OF #[OB (bs ((f num).getD []))] 227)).frozen 2
    go_wp2_with (first
     |(at_lookup;refine wpList_lookup_own_ok _ rfl _ _ 230 rfl 3 227 kJ OC gR (z:=fE []) (OL _) (.held (fE [])) [] rfl mb _ _ rfl gy.out (.int Z num) (.int Z num) rfl K2.out ?_;intro v ps hv;obtain rfl:=mL HD.out hv;clear hv)
     |(at_mapUpdate;refine wpList_mapUpdate_in _ rfl _ _ _ 230 rfl 3 227 kJ OC gR mb I _ rfl (gy.out.alloc _) (by unfold maxLen;omega) (.int Z num) (fE s) (.int Z num) rfl rfl K2.out (.held (fE s)) [] rfl ?_;intro w5 K9 dY;have Iq:=BZ (K.out.alloc _).drew1 dY;have u2:=Iq.cell 2;have uf:=Iq.frozen 2;have KK:=U Iq;have L8:=U K9;have Ln:=U dY;clear Iq K9 dY))
    go_ret;have Le:=Ln.out.grown;refine⟨rfl,?_,?_⟩
    ·refine⟨_,mb,(KK.out.set_ 2 (.int Z ((I:Int)+1))),?_,?_,K6,wj⟩
     ·rw[L7.out]
      exact eR ((Gr (KL.out.alloc _)).kept Le (.inr (λe=>Lk.out e.symm))) ⟨T,2,none⟩ _ (by show some gb≠some T;exact λe=>dD (by injection e))
     ·rw[K1.out]
      exact L8.out.setCell (a:=⟨T,2,none⟩) (ox L8.out KK.out) _
    ·exact((fW.out.alloc (OE HB.out fW.out.size) _).drew.grown Le (by have:=OE HB.out fW.out.size;simp at this⊢;omega) (λr e=>by cases e;exact K6)).setCell (p:=⟨T,2,none⟩) wj _
end Go.Proofs.YthhijgcfbjcgiaaGreatDoor
