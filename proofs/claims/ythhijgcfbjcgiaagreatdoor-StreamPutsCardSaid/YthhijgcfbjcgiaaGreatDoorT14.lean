/- Pfx -/
import Derived.Test.YthhijgcfbjcgiaaGreatDoorT07
import Derived.Test.YthhijgcfbjcgiaaGreatDoorT13
import Derived.Deep.LoopGhost
namespace Go.Proofs.YthhijgcfbjcgiaaGreatDoor
open Go Go.RowKit Go.Maps
attribute [local go_sem] Oper.semAt_some
open List renaming length→O,setIfInBounds_toArray→OD,getElem_set_self→OG,drop_succ_cons→OH,set_cons_succ→OI,set_cons_zero→OJ,all_eq_true→OO,getElem_mem→OP,length_set→OR,drop_zero→OS
open Go.Lib renaming hid→U
open Go.IntKind renaming i64→Z,u8→OU
open Tryz renaming prog→V,underlying230→OC,zeroValue227→OL,underlying3→OQ
open Go.Value renaming slice→Y,bool→J,string→OB,pointer→OV
open Bool renaming or_eq_true→X,and_eq_true→OM,not_eq_true→ON
open Go.Proofs.YthhijgcfbjcgiaaGreatDoor.bY renaming take→OA
open Nat renaming le_trans→OE,add_zero→OT
open Go.Obj renaming cells→OF
open Go.Ending renaming returned→OK
def ey (w:World) (base T:Nat) (N:List Nd) (D:DataW Value) (j:Nat):Prop:=
 ∃v B,ab w T 232 #[v,.map (some B),.int Z (j:Int)]/\w.ownsRow base 260 4 v (O N) (az nI N)/\w.ownsMap V 3 gO B j D/\base<=B/\base<=T
theorem Jh:eU V 229 260 4 32:= .mk' (z:=.agg #[.int Z 0,.int Z 0,J false,.int Z 0]) (by kernel_rfl) (by kernel_rfl) rfl (by decide) (by decide)
theorem oo {w:World}{P:Program}{k:TypeId}{b n g:Nat}{D:DataW Value}{t:TypeId}{cs:Array Value}(h:w.ownsMap P k gO b n D)(B:ab w g t cs):b≠g:= λe=>by
 subst e;obtain⟨G,j,C,_⟩:=h;unfold ab at B;rw[B] at C;cases C
theorem El {w w':World}{P:Program}{k:TypeId}{b n:Nat}{D:DataW Value}(h:w.ownsMap P k gO b n D)(C:Below w.heap.size w w'):w'.ownsMap P k gO b n D:=by
 have hl:=h.lt;obtain⟨B,j,G,r⟩:=h;exact⟨B,j,(C.block b hl).trans G,r⟩
theorem ey.later {w w':World}{base T:Nat}{N:List Nd}{D:DataW Value}{j:Nat}(h:ey w base T N D j)(B:Below w.heap.size w w'):ey w' base T N D j:=by
 obtain⟨v,M,C,h2,G,I,K⟩:=h;exact⟨v,M,C.below B C.lt,bL h2 B (Nat.le_refl _),El G B,I,K⟩
theorem qO (w:World)(base T:Nat)(N:List Nd)(D:DataW Value)(j:Nat)(h:ey w base T N D j)(C:j≠0):Calls V 202 #[OV (some ⟨T,0,none⟩)] w λe w'=>e=OK (J false)/\w=w':=by
 obtain⟨v,G,B,_⟩:=h;have c2:=B.cell 2;have C:((j:Int)==0)=false:=beq_eq_false_iff_ne.2 (by omega);clear B
 go_enter Tryz.func202,Tryz.ntmps202
 go_wp2
 go_ret;exact⟨rfl,rfl⟩
theorem zB (c:List UInt8)(I:cM c=true)(w:World):Calls V 238 #[OB (bs c)] w λe w'=>e=OK (J true)/\w=w':=by
 simp only[cM,OM,decide_eq_true_eq] at I;obtain⟨⟨G,h2⟩,h3⟩:=I;have K:=U G;have M:(1:Int)<=(O c:Int):=by omega
 have N:(O c:Int)<=24:=by omega
 clear G
 go_enter Tryz.func238,Tryz.ntmps238
 go_wp2_with fail
 go_loopg [6] (O c) (λg i=> λwr=>∃(j:Nat),j+g=O c/\i= .int Z (j:Int)/\w=wr)
 case atStart=>exact⟨0,by omega,rfl,rfl⟩
 case round=>
  obtain⟨j,hj,rfl,rfl⟩:=hrel
  cases gk with
  |zero=>
   obtain rfl:j=(O c):=by omega
   have D:¬((O c:Int)<(O c:Int)):=(by omega);have T:decide ((1:Int)<=(O c:Int))=true:=(by simp;omega);have e2:decide ((O c:Int)<=24)=true:=(by simp;omega);go_wp2_with fail
   go_ret;exact⟨rfl,rfl⟩
  |succ g=>
   have D:((j:Int)<(O c:Int)):=(by omega);have C:j<(O c):=(by omega);have B:=OO.1 K.out c[j] (OP C);simp only[X,beq_iff_eq] at B;rcases B with B|B
   ·have q1:((c[j].toNat:Int) !=48)=false:=by rw[B];rfl
    clear B;go_wp2_with fail
    go_roundg g
    case measure=>omega
    case rel=>exact⟨j+1,by omega,rfl,rfl⟩
   ·have q1:((c[j].toNat:Int) !=48)=true:=by rw[B];rfl
    have q3:((c[j].toNat:Int) !=49)=false:=(by rw[B];rfl);clear B;go_wp2_with fail
    go_roundg g
    case measure=>omega
    case rel=>exact⟨j+1,by omega,rfl,rfl⟩
theorem xS (c:List UInt8)(j:cM c=true)(w:World):Calls V 237 #[OB (bs c)] w λe w'=>e=OK (J false)/\w=w':=by
 have B:=U (λw=>zB c j w);clear j
 go_enter Tryz.func237,Tryz.ntmps237
 go_wp2_with (go_at_call 238;refine(B.out _).mono ?_;rintro e w' ⟨rfl,rfl⟩)
 go_ret;exact⟨rfl,rfl⟩
theorem ey.only {w w':World}{base T:Nat}{N:List Nd}{D:DataW Value}{j:Nat}(h:ey w base T N D j)(B:w.grownBy w' none):ey w' base T N D j:=
 h.later ⟨B.os,B.tape,B.output,B.size,λk C=>B.block k C (by simp)⟩
theorem Dq {N:List Nd}{k:Nat}{c:UInt8}{s:List UInt8}{R:List Nd×Nat}(h:kx N k (c::s)=some R):(N.getD k b9).leaf=false/\k<O N/\O N<10000/\kx (uv N k c).1 (uv N k c).2 s=some R:=by
 rw[kx] at h
 split at h
 ·cases h
 ·rename_i j
  simp only[X,decide_eq_true_eq,not_or,ON] at j;exact⟨j.1.1,by omega,by omega,h⟩
theorem E9 {N:List Nd}{k:Nat}{R:List Nd×Nat}(h:kx N k []=some R):k<O N/\O N<10000/\R=(N,k):=by
 rw[kx] at h
 split at h
 ·cases h
 ·rename_i j
  simp only[X,decide_eq_true_eq,not_or] at j;exact⟨by omega,by omega,by injection h with h;exact h.symm⟩
theorem kL {N:List Nd}{k:Nat}(h:k<O N):N.getD k b9=N[k]:=by simp[List.getD,h]
structure Ko (W:World) (base T g cap n k:Nat) (x:Nd) (mb many:Nat):Prop where
 c0:W.cell? ⟨T,0,none⟩=some (Y (some ⟨g,0,none⟩) n cap)
 c1:W.cell? ⟨T,1,none⟩=some (.map (some mb))
 c2:W.cell? ⟨T,2,none⟩=some (.int Z (many:Int))
 n0:W.cell? ⟨g,k*4,none⟩=some (.int Z x.a)
 n1:W.cell? ⟨g,k*4+1,none⟩=some (.int Z x.b)
 n2:W.cell? ⟨g,k*4+2,none⟩=some (J x.leaf)
 n3:W.cell? ⟨g,k*4+3,none⟩=some (.int Z x.num)
theorem m8 {W:World}{base T:Nat}{N:List Nd}{D:DataW Value}{B k:Nat}(h:ey W base T N D B)(I:k<O N):
  ∃g j C,base<=g/\g<W.heap.size/\O N<=j/\j<=maxLen/\Ko W base T g j (O N) k N[k] C B/\ab W T 232 #[Y (some ⟨g,0,none⟩) (O N) j,.map (some C),.int Z (B:Int)]/\
   W.ownsRow base 260 4 (Y (some ⟨g,0,none⟩) (O N) j) (O N) (az nI N)/\W.ownsMap V 3 gO C B D/\base<=C/\base<=T:=by
 obtain⟨v,C,G,h2,h3,h4,h5⟩:=h;obtain⟨g,j,rfl,M,av,K⟩:=jl h2 (by omega);have aJ:=(h2.lt g rfl).2;refine⟨g,j,C,K,aJ,M,av,⟨by rw[G.cell];rfl,by rw[G.cell];rfl,by rw[G.cell];rfl,?_,?_,?_,?_⟩,G,h2,h3,h4,h5⟩
 ·have:=kg hH h2 k I 0 (by decide);rw[OT] at this;rw[this];rfl
 ·rw[kg hH h2 k I 1 (by decide)];rfl
 ·rw[kg hH h2 k I 2 (by decide)];rfl
 ·rw[kg hH h2 k I 3 (by decide)];rfl
theorem mO {D:DataW Value}{f:Int->Option (List UInt8)}(B:kp D f){num:Int}{v:Value}{j:List MemPlace}(h:gO v=some (D.atKey (.int Z num) (.held (fu [])),j)):v=fu ((f num).getD []):=by
 have e:D.atKey (jf num) (.held (fu []))= .held (fu ((f num).getD [])):=by rw[(B.2 num).2];cases f num<;>rfl
 have h2:gO v=some (D.atKey (jf num) (.held (fu [])),j):=h;rw[e] at h2;unfold gO at h2;injection h2 with h2;injection h2 with h2 _;injection h2
theorem AZ (id:Int)(j:(Lit.int Z id).wf=true):keyOf V 3 (.int Z id)=some (.int Z id):=Maps.keyOf_int_mk (OQ) j
theorem kK:Keyed V 3:=int_keyed OQ
theorem Fl {c:UInt8}(h:c=48\/c=49):OU.wrap ((c.toNat:Int) - 48)=if c=48 then 0 else 1:=by
 rcases h with rfl|rfl<;>rfl
theorem lD {w:World}{P:Program}{k:TypeId}{b n base e size m:Nat}{D:DataW Value}{v:Value}{xs:List Value}(h:w.ownsMap P k gO b n D)(I:w.ownsRow base e size v m xs):some b≠v.ownBlock:=by
 obtain⟨K,j,G,_⟩:=h;rcases I.2 with⟨rfl,_⟩|⟨g,B,C,rfl,_,h2,_⟩
 ·simp[Value.ownBlock]
 ·intro he
  have:b=g:=(by simpa [Value.ownBlock] using he);subst this;rw[G] at h2;cases h2
theorem BQ (W:World):(Op.equalIn 10000 258 (Value.agg #[.int Z 0,.int Z 0]) (Value.agg #[.int Z 0,.int Z 0])).run V W= .ok true W:=by kernel_rfl
theorem BE {w w':World}{b g:Nat}{t:TypeId}{cs:Array Value}(h:ab w g t cs)(ht:w.mapTurned w' b):ab w' g t cs:=by
 refine h.grown ht.grown (λe=>?_)
 cases e
 obtain⟨G,B,D,j,C,_⟩:=ht;unfold ab at h;rw[h] at C;cases C
theorem ab.drew1 {w:World}{g:Nat}{t:TypeId}{cs:Array Value}(h:ab w g t cs):ab w.drew g t cs:=h
theorem F8 {w:World}{base e size n:Nat}{v:Value}{xs:List Value}(h:w.ownsRow base e size v n xs):w.drew.ownsRow base e size v n xs:=h
theorem Id:∀u∈nI b9,u.oneCell'=true:=by
 intro u j;simp only[nI,b9,List.mem_cons,List.not_mem_nil,or_false] at j;rcases j with rfl|rfl|rfl|rfl<;>rfl
set_option maxRecDepth 100000 in
set_option maxHeartbeats 2000000 in
theorem Cw (w:World)(base T:Nat)(N:List Nd)(D:DataW Value)(f:Int->Option (List UInt8))(I:Nat)(s:List UInt8)(num:Int)(M:List Nd)(hs:cM s=true)(hp:xU N s num=some M)(hm:I<300)
  (hw:ey w base T N D I) (hD:kp D f) (KI:(Lit.int Z num).wf=true) (KN:base<=w.heap.size):
  Calls V 239 #[OV (some ⟨T,0,none⟩),OB (bs s),.int Z num] w λe w'=>e=OK (J true)/\ey w' base T M (nO D num s) (I+1)/\Below base w w':=by
 simp only[cM,OM,decide_eq_true_eq] at hs;obtain⟨⟨Lb,Ly⟩,Lz⟩:=hs
 obtain⟨R,hR,La⟩:∃R,kx N 0 s=some R/\(if (R.1.getD R.2 b9).leaf||(R.1.getD R.2 b9).a !=0||(R.1.getD R.2 b9).b !=0 then none else some (R.1.set R.2 ⟨0,0,true,num⟩))=some M:=by
  unfold xU at hp
  cases h:kx N 0 s with
  |none=>rw[h] at hp;cases hp
  |some R=>rw[h] at hp;exact⟨R,rfl,hp⟩
 have Lg:=U Lb;have HR:=U hR;have HM:=U La;have HW:=U hw;have HD:=U hD;have K5:=U (AZ num KI);have HB:=U KN;clear Lb hR La hw hp hD KI
 go_enter Tryz.func239,Tryz.ntmps239
 go_wp2_with fail
 go_loopg [7,14] (O s) (λg at_ i=> λwr=>∃(j k:Nat)(B:List Nd),j+g=O s/\at_= .int Z (k:Int)/\i= .int Z (j:Int)/\Hid (kx B k (s.drop j)=some R)/\Hid (ey wr base T B D I)/\Hid (Below base w wr))
 case atStart=>exact⟨0,0,N,by omega,rfl,rfl,HR,HW,U (Below.refl _ _)⟩
 case round=>
  obtain⟨j,k,B,hj,rfl,rfl,L0,HT,Ky⟩:=hrel
  cases gk with
  |succ g=>
   have L9:j<(O s):=(by omega);have Lm:(j:Int)<(O s:Int):=(by omega);have Ku:s.drop j=s[j]::s.drop (j+1):=List.drop_eq_getElem_cons L9;have Ht:=L0.out;rw[Ku] at Ht;obtain⟨av,hk,hN,Lc⟩:=Dq Ht;rw[kL hk] at av;obtain⟨gb,K6,mb,KO,Ls,Kz,KA,hA,K0,bM,cI,Kt,Hl⟩:=m8 HT.out hk;obtain⟨c0,c1,c2,n0,n1,n2,n3⟩:=hA;have KG:O B<=K6/\K6<=maxLen:=⟨Kz,KA⟩;have K9:Hid (base<=wr.heap.size):=U (OE HB.out Ky.out.size);have KR:=OO.1 Lg.out s[j] (OP L9);simp only[X,beq_iff_eq] at KR;obtain⟨xi,K3⟩:∃xi:Nat,xi=if s[j]=48 then 0 else 1:=⟨_,rfl⟩
   have LC:(xi:Int)<2:=(by rw[K3];split<;>simp);have LB:OU.wrap ((s[j].toNat:Int) - 48)=(xi:Int):=(by rw[Fl KR,K3];split<;>rfl);rw[av] at n2
   have nx:wr.cell? ⟨gb,k*4+xi,none⟩=some (.int Z (B[k].to s[j]:Nat)):=by
    rw[K3];unfold Nd.to
    by_cases hc:s[j]=48
    ·rw[if_pos hc,if_pos hc,OT];exact n0
    ·rw[if_neg hc,if_neg hc];exact n1
   have Lo:¬(k:Int)<0:=(by omega);have Lq:(k:Int)<(O B:Int):=(by omega);have L4:=U Lc;have iP:=U bM;have Hu:=U cI;have KW:=U K0;clear Ht Lc Ku av bM cI K0 n0 n1 n3 KR Kz KA;obtain⟨tt,Kx⟩:∃tt,B[k].to s[j]=tt:=⟨_,rfl⟩;rw[Kx] at nx
   by_cases h0:tt=0
   ·subst h0
    have HG:=U (show uv B k s[j]=((B++[b9]).set k (B[k].link s[j] (O B)),O B) by unfold uv;rw[kL hk,Kx,if_pos rfl]);have dv:=ba iP.out KW.out (by decide);have HX:=U K3;have HK:=U hk;have HC:=U KG;have Ld:=U (show j+(g+1)=(O s) from hj);clear K3 Kx KG hj;have hsz:=K9.out;go_wp2_with (first|(at_builtin;refine dA Jh rfl rfl rfl (iP.out.alloc _) rfl (m:=1) (news:=nI b9) rfl (ab.sl (ab.new wr 260 _) 0) Id (by omega) (by simp;omega) ?_;intro v1 w1 KC KT Li;obtain⟨g1,aJ,rfl,Lj,KQ,L7⟩:=jl KC (by omega);have jY:=(KW.out.alloc _).grown KT dv;have y0:=jY.cell 0;have yf:=jY.frozen 0;have KD:=U jY;have KH:g1≠T:=(λe=>ba KC jY (by decide) (by rw[e];rfl));have Lf:=U KC;have KJ:=U KT;clear KC KT Li jY;unfold maxLen at KQ))
    have kA:=KD.out.set_ 0 (Y (some ⟨g1,0,none⟩) (O B+1) aJ);have dy:=ek Lf.out ⟨T,0,none⟩ (Y (some ⟨g1,0,none⟩) (O B+1) aJ) (by show some g1≠some T;exact λe=>KH (by injection e));rw[show nI b9=az nI [b9] from(fX b9).symm,<-gR] at dy;have jg:Below base w (w1.setCell ⟨T,0,none⟩ (Y (some ⟨g1,0,none⟩) (O B+1) aJ)):=((Ky.out.alloc K9.out _).grown KJ.out (by have:=K9.out;simp;omega) (λk hk=>(iP.out.lt k hk).1)).setCell (p:=⟨T,0,none⟩) Hl _;have rG:=((Hu.out.alloc (OF #[.int Z 0,.int Z 0,J false,.int Z 0] 260)).kept KJ.out (lD Hu.out iP.out)).setCell (a:=⟨T,0,none⟩) (oo (((Hu.out.alloc (OF #[.int Z 0,.int Z 0,J false,.int Z 0] 260)).kept KJ.out (lD Hu.out iP.out))) KD.out) (Y (some ⟨g1,0,none⟩) (O B+1) aJ);have C:=U kA;have G:=U dy;have eE:=U jg;have cE:=U rG;clear kA dy jg rG y0 yf c0 c1 c2 nx n2;generalize w1.setCell ⟨T,0,none⟩ (Y (some ⟨g1,0,none⟩) (O B+1) aJ)=w2 at C G eE cE⊢;have y0:w2.cell? ⟨T,0,none⟩=some (Y (some ⟨g1,0,none⟩) (O B+1) aJ):=(by rw[C.out.cell];rfl);have yn:w2.frozen? ⟨g1,k*4+xi,none⟩=false:=G.out.frozenAt _
    obtain⟨u,hu⟩:∃u,w2.cell? ⟨g1,k*4+xi,none⟩=some u:=by
     have hl:(B++[b9]).length=O B+1:=(by simp);have h1:=kg (n:=O B+1) hH G.out k (by rw[hl];omega) xi (by omega);rw[h1];exact⟨_,List.getElem?_eq_getElem (by rw[hH];omega)⟩
    have Lw:(k:Int)<(O B:Int)+1:=(by omega);refine dx (λw'=>w'.cell? ⟨T,0,none⟩=some (Y (some ⟨g1,0,none⟩) (O B+1) aJ)) 14 [(0,true),(1,true),(2,true),(3,true),(4,true),(5,true),(6,true),(7,true),(8,true),(9,true),(10,true),(11,true),(12,true),(13,true)] (y0) (λPE K8=>?_)
    iterate 14
     refine bh (v:=?_) rfl (by rfl) ?_ ?_
     rotate_left
     ·intro _ KK;(try dsimp only at KK);go_simp;(try with_reducible rfl)
     simp only[OD,OJ,OI]
    (refine K8 _ _ ?_;simp only[OH,OS];clear K8 PE)
    go_wp2_with fail
    go_roundg g
    case measure=>omega
    case rel=>
     have hl:(B++[b9]).length=O B+1:=(by simp);have Lp:k<(B++[b9]).length:=(by rw[hl];omega);have Lk:(B++[b9])[k]=B[k]:=List.getElem_append_left hk
     have KV:=tK (n:=O B+1) hH G.out k Lp xi (by omega) (.int Z (O B:Int)) (B[k].link s[j] (O B)) (by
      rw[Lk,HX.out];unfold Nd.link
      by_cases hc:s[j]=48
      ·rw[if_pos hc,if_pos hc];rfl
      ·rw[if_neg hc,if_neg hc];rfl)
     have h1:=L4.out;rw[HG.out] at h1;have Lr:((B++[b9]).set k (B[k].link s[j] (O B))).length=O B+1:=(by simp);refine⟨j+1,O B,(B++[b9]).set k (B[k].link s[j] (O B)),by have:=Ld.out;omega,rfl,rfl,U h1,U ⟨Y (some ⟨g1,0,none⟩) (O B+1) aJ,mb,C.out.far (p:=⟨g1,k*4+xi,none⟩) (Ne.symm KH) _,by rw[Lr];exact KV,cE.out.setCell (a:=⟨g1,k*4+xi,none⟩) (by have:=lD cE.out G.out;intro e;exact this (by rw[e];rfl)) _,Kt,Hl⟩,U (eE.out.setCell (p:=⟨g1,k*4+xi,none⟩) L7 _).drew⟩
   ·have Lx:((tt:Int)==0)=false:=beq_eq_false_iff_ne.2 (by omega)
    have HG:=U (show uv B k s[j]=(B,tt) by unfold uv;rw[kL hk,Kx,if_neg h0]);clear K3 Kx h0;go_wp2_with fail
    go_roundg g
    case measure=>omega
    case rel=>
     have h1:=L4.out;rw[HG.out] at h1;exact⟨j+1,tt,B,by omega,rfl,rfl,U h1,HT,Ky⟩
  |zero=>
   have Ln:j=(O s):=(by omega);subst Ln;have Ht:=L0.out;rw[List.drop_length] at Ht;obtain⟨hk,hN,L6⟩:=E9 Ht;have kU:=HM.out;rw[L6] at kU;simp only[kL hk] at kU
   split at kU
   ·cases kU
   rename_i hc
   simp only[X,not_or,ON,bne_eq_false_iff_eq] at hc;obtain⟨⟨av,KL⟩,KM⟩:=hc;injection kU with kU;obtain⟨gb,K6,mb,KO,Ls,Kz,KA,hA,K0,bM,cI,Kt,Hl⟩:=m8 HT.out hk;obtain⟨c0,c1,c2,n0,n1,n2,n3⟩:=hA;rw[av] at n2;rw[KL] at n0;rw[KM] at n1;have Lo:¬(k:Int)<0:=(by omega);have Lq:(k:Int)<(O B:Int):=(by omega);have Lm:¬(O s:Int)<(O s:Int):=(by omega);have Ll:=BQ wr;have dv:gb≠T:= λe=>ba bM K0 (by decide) (by rw[e];rfl);have f2:wr.frozen? ⟨gb,k*4+2,none⟩=false:=bM.frozenAt _;have KB:some mb≠some gb:=lD cI bM;have kA:=K0.far (p:=⟨gb,k*4+2,none⟩) (Ne.symm dv) (J true);have dy:=tK hH bM k hk 2 (by decide) (J true) ⟨0,0,true,B[k].num⟩ (by simp[nI,KL,KM]);have rG:=cI.setCell (a:=⟨gb,k*4+2,none⟩) (λe=>KB (by rw[e])) (J true);have jg:=Ky.out.setCell (p:=⟨gb,k*4+2,none⟩) KO (J true);have C:=U kA;have G:=U dy;have cE:=U rG;have eE:=U jg;have KX:=U kU;clear kA dy rG jg bM cI K0 kU Ht L6 av KL KM hj Kz KA;go_wp2_with fail
   refine tR (λw'=>w'.cell? ⟨T,0,none⟩=some (Y (some ⟨gb,0,none⟩) (O B) K6)) 14 (OA 0 (OA 1 (OA 2 (OA 3 (OA 4 (OA 5 (OA 6 (OA 7 (OA 8 (OA 9 (OA 10 (OA 11 (OA 12 (.step 13 .done))))))))))))))
    (by kernel_rfl) (by kernel_rfl) (λ_ _ d _ _ h=>by cases d<;>exact h) (by simp only[bY.out,Array.getD_eq_getD_getElem?,List.getElem?_toArray,List.getElem?_cons_zero,List.getElem?_cons_succ,Option.getD_some];rfl) (by simp only[List.map_cons,List.map_nil];rfl) c0 (λPE K8=>?_)
   iterate 13
    refine af (v:=?_) rfl (by rfl) ?_ ?_
    rotate_left
    ·intro _ KK;(try dsimp only at KK);go_simp;(try with_reducible rfl)
    simp only[OD,OJ,OI]
   refine bD _ (w':=?_) rfl (by rfl) ?_ ?_ ?_;rotate_left 1
   ·go_simp;(first|(with_reducible rfl)|(constructor<;>with_reducible rfl)|skip)
   ·show (wr.setCell ⟨gb,k*4+2,none⟩ (J true)).cell? ⟨T,0,none⟩=_;rw[C.out.cell];rfl
   (refine K8 _ _ ?_;simp only[OH,OS];clear K8 PE)
   generalize wr.setCell ⟨gb,k*4+2,none⟩ (J true)=w2 at C G cE eE⊢;have KU:(B.set k ⟨0,0,true,B[k].num⟩).length=(O B):=OR;have z0:w2.cell? ⟨T,0,none⟩=some (Y (some ⟨gb,0,none⟩) (O B) K6):=(by rw[C.out.cell];rfl);have z1:w2.cell? ⟨T,1,none⟩=some (.map (some mb)):=(by rw[C.out.cell];rfl);have z2:w2.cell? ⟨T,2,none⟩=some (.int Z (I:Int)):=by rw[C.out.cell];rfl
   have z3:w2.cell? ⟨gb,k*4+3,none⟩=some (.int Z B[k].num):=by
    rw[kg hH G.out k (by rw[KU];exact hk) 3 (by decide),OG];rfl
   have y3:w2.frozen? ⟨gb,k*4+3,none⟩=false:=G.out.frozenAt _;have yT:w2.frozen? ⟨T,2,none⟩=false:=C.out.frozen 2;have Kw:=tK hH G.out k (by rw[KU];exact hk) 3 (by decide) (.int Z num) ⟨0,0,true,num⟩ (by rw[OG];rfl);rw[List.set_set,KX.out] at Kw;have L5:O M=(O B):=(by rw[<-KX.out,OR]);have K:=U (C.out.far (p:=⟨gb,k*4+3,none⟩) (Ne.symm dv) (.int Z num));have KF:=U Kw;have gj:=U (cE.out.setCell (a:=⟨gb,k*4+3,none⟩) (λe=>KB (by rw[e])) (.int Z num));have fJ:=U (eE.out.setCell (p:=⟨gb,k*4+3,none⟩) KO (.int Z num));have LA:IntKind.i64.wrap ((I:Int)+1)=(I:Int)+1:=(by rw[IntKind.wrap_i64];omega);clear c0 c1 c2 n0 n1 n2 n3 f2 Ll Kw;have KY:=U L5;have Le:=U KB;clear L5 KB KU
   by_cases hh:Maps.has D (.int Z num)=true
   ·have K4:=U (show nO D num s=D by unfold nO;rw[if_pos (by exact hh)])
    have Lu:=(K.out.alloc (OF #[OB (bs ((f num).getD []))] 227)).cell 2;have Lt:=(K.out.alloc (OF #[OB (bs ((f num).getD []))] 227)).cell 1;have Lv:=(K.out.alloc (OF #[OB (bs ((f num).getD []))] 227)).frozen 2;go_wp2_with (at_lookup;refine wpList_lookup_own_ok _ rfl _ _ 230 rfl 3 227 kK OC gO (z:=fu []) (OL _) (.held (fu [])) [] rfl mb _ _ rfl gj.out (.int Z num) (.int Z num) rfl K5.out ?_;intro v ps hv;obtain rfl:=mO HD.out hv;clear hv)
    go_ret;refine⟨rfl,?_,?_⟩
    ·refine⟨_,mb,((K.out.alloc _).set_ 2 (.int Z ((I:Int)+1))),?_,?_,Kt,Hl⟩
     ·rw[KY.out]
      exact ek (KF.out.alloc _) ⟨T,2,none⟩ _ (by show some gb≠some T;exact λe=>dv (by injection e))
     ·rw[K4.out]
      exact((gj.out.alloc _).setCell (a:=⟨T,2,none⟩) (oo gj.out K.out) _).mono (Nat.le_succ _)
    ·exact((fJ.out.alloc (OE HB.out fJ.out.size) _).setCell (p:=⟨T,2,none⟩) Hl _).drew
   ·have hh:Maps.has D (.int Z num)=false:=by simpa using hh
    have K4:=U (show nO D num s=D.put (jf num) (.held (fu s)) by unfold nO;rw[if_neg (by rw[show Maps.has D (jf num)=false from hh];simp)]);have Lu:=(K.out.alloc (OF #[OB (bs ((f num).getD []))] 227)).cell 2;have Lt:=(K.out.alloc (OF #[OB (bs ((f num).getD []))] 227)).cell 1;have Lv:=(K.out.alloc (OF #[OB (bs ((f num).getD []))] 227)).frozen 2
    go_wp2_with (first
     |(at_lookup;refine wpList_lookup_own_ok _ rfl _ _ 230 rfl 3 227 kK OC gO (z:=fu []) (OL _) (.held (fu [])) [] rfl mb _ _ rfl gj.out (.int Z num) (.int Z num) rfl K5.out ?_;intro v ps hv;obtain rfl:=mO HD.out hv;clear hv)
     |(at_mapUpdate;refine wpList_mapUpdate_in _ rfl _ _ _ 230 rfl 3 227 kK OC gO mb I _ rfl (gj.out.alloc _) (by unfold maxLen;omega) (.int Z num) (fu s) (.int Z num) rfl rfl K5.out (.held (fu s)) [] rfl ?_;intro w5 Kv dO;have JT:=BE (K.out.alloc _).drew1 dO;have u2:=JT.cell 2;have uf:=JT.frozen 2;have KE:=U JT;have KZ:=U Kv;have Lh:=U dO;clear JT Kv dO))
    go_ret;have L8:=Lh.out.grown;refine⟨rfl,?_,?_⟩
    ·refine⟨_,mb,(KE.out.set_ 2 (.int Z ((I:Int)+1))),?_,?_,Kt,Hl⟩
     ·rw[KY.out]
      exact ek ((F8 (KF.out.alloc _)).kept L8 (.inr (λe=>Le.out e.symm))) ⟨T,2,none⟩ _ (by show some gb≠some T;exact λe=>dv (by injection e))
     ·rw[K4.out]
      exact KZ.out.setCell (a:=⟨T,2,none⟩) (oo KZ.out KE.out) _
    ·exact((fJ.out.alloc (OE HB.out fJ.out.size) _).drew.grown L8 (by have:=OE HB.out fJ.out.size;simp at this⊢;omega) (λr e=>by cases e;exact Kt)).setCell (p:=⟨T,2,none⟩) Hl _
end Go.Proofs.YthhijgcfbjcgiaaGreatDoor
