/- Wr, PutS, One21, Kn21P, Known21, PutQ, RPen -/
import Derived.Test.YthhijgcfbjcgiaaGreatDoorT48
import Derived.Test.YthhijgcfbjcgiaaGreatDoorT46
namespace Go.Proofs.YthhijgcfbjcgiaaGreatDoor
section
open Go Go.RowKit
attribute [local go_sem] Oper.semAt_some
set_option maxHeartbeats 16000000
set_option maxRecDepth 100000
open Go.Lib renaming hid→O
open List renaming length→U,length_append→X,append_assoc→J,length_map→OA,append_nil→OE,mem_singleton→OF,take_of_length_le→OH,mem_cons→OI,cons_append→OL,take_zero→ON,drop_eq_getElem_cons→OO,getElem_mem→OP,mem_map→OQ,mem_nil_iff→OR,nil_append→OS,take_append_drop→OU,getElem_map→OW,map_append→OX
open Go.IntKind renaming i64→Z,wrap_i64→OK,i64→OT
open Go.Value renaming int→V,slice→Y,pointer→OM,bool→OV,string→Ob
open Nat renaming le_refl→OB,not_lt_zero→OY
open Tryz renaming prog→OC,ntmps12→OZ,func12→Oa
open Go.Obj renaming cells→OD
open Go.Ending renaming returned→OG
open Bool renaming and_eq_true→OJ
def eS:bA->List aX->bA
 |x,[]=>x
 |_,m::ms=>eS (dT m) ms
theorem po:∀(ms:List aX)(x:bA)(m:aX),eS x (ms++[m])=dT m
 |[],_,_=>rfl
 |_::ms,_,m=>po ms _ m
theorem oh:∀(ms:List aX)(x:bA)(m:aX),bS x (ms++[m])=bS x ms++(aU.getD (m.ad - (eS x ms).ad).toNat []++dD m (eS x ms))
 |[],x,m=>by rw[OS,bS,bS,bS,OE,OS];rfl
 |a::ms,x,m=>by rw[OL,bS,oh ms _ m,bS,eS];simp only[J]
theorem mK:∀(a b:List hZ),bU (a++b)=bU a++bU b
 |[],_=>rfl
 |g::a,b=>by rw[OL,bU,bU,mK a b,J]
theorem uC:∀(a b:List aX)(x:bA),bS x (a++b)=bS x a++bS (eS x a) b
 |[],_,_=>rfl
 |m::a,b,x=>by rw[OL,bS,bS,uC a b,eS,J,J]
theorem tJ {f g:Int}:∀(ms:List aX)(x:bA)(j:Nat)(C:j<U ms),0<=x.ad->(∀ad,x.ad<ad->da x ad=true)->eC f g x.ad ms=true->
  0<=(eS x (ms.take j)).ad/\(eS x (ms.take j)).ad<ms[j].ad/\ms[j].ad<=33/\lE ms[j] (eS x (ms.take j))=(dD ms[j] (eS x (ms.take j)),0)
 |[],_,j,C,_,_,_=>absurd C (OY _)
 |m::ms,x,0,_,h0,hx,h=>by
  obtain⟨B,h2,_,_⟩:=mW h;have D:=(iO _).1 B;simp only[ON,eS,List.getElem_cons_zero];refine⟨h0,h2,D.a2,?_⟩;unfold lE;rw[B,hx _ h2];rfl
 |m::ms,x,j+1,C,h0,hx,h=>by
  obtain⟨B,h2,_,G⟩:=mW h;have D:=(iO _).1 B;simp only[List.take_succ_cons,eS,List.getElem_cons_succ];rw[<-lZ m] at G;exact tJ ms (dT m) j (by simpa using C) (by rw[lZ];omega) (λad h=>DD D (by rw[lZ] at h;exact h)) G
theorem Gf {C W:World}{h k:Nat}{L:List UInt8}{t:TypeId}{cs:Array Value}(M:dS C h L W)(D:ab W k t cs)(G:t≠95)(h2:t≠5)(N:C.heap.size<=k)(i:Nat)(v:Value):dS C h L (W.setCell ⟨k,i,none⟩ v):=by
 obtain⟨u,K⟩:=M;obtain⟨I,j,B⟩:=K;exact⟨u,I.setCell (p:=⟨k,i,none⟩) N v,aa.cons (j.head.far (p:=⟨k,i,none⟩) (aT j.head D (Ne.symm G)) v) (ai _),cr B D (by intro r B;rw[OF] at B;subst B;exact Ne.symm h2) i v⟩
theorem dS.be {j W:World}{h:Nat}{L:List UInt8}(C:dS j h L W):Below j.heap.size j W:=by
 obtain⟨u,B⟩:=C;exact B.1
theorem dS.pn {C W:World}{h:Nat}{L:List UInt8}(B:dS C h L W):∃cs,ab W h 95 cs:=by
 obtain⟨u,j⟩:=B;exact⟨_,j.2.1.head⟩
theorem vU (B:World)(h I:Nat)(L s:List UInt8)(er:Int)(M:cU s)(hl:U L+U s<=16777216)(N:B.heap.size<=h)(w:World)(K:dS B h L w)(j:ab w I 56 #[OM (some ⟨h,0,none⟩)]):
  Calls OC 57 #[Ob (bs s),V Z er,OM (some ⟨I,0,none⟩)] w λe w'=>(∃u,e=OG u)/\dS B h (L++s) w'/\PB h w w':=by
 have T:=j.cell 0;(try dsimp only at T);have C:=O (uJ B h L s M hl N w K);clear K j M hl
 go_enter Tryz.func57,Tryz.ntmps57
 go_wp2_with (go_at_call 58;refine C.out.mono ?_;rintro e w2 ⟨rfl,D,G⟩)
 exact bodyPost_end (results_none rfl _ _ _) rfl ⟨⟨_,rfl⟩,D,G⟩
structure kZ (w0:World) (h b:Nat) (L:List UInt8) (W:World):Prop where
 pen:dS w0 h L W
 bx:ab W b 56 #[OM (some ⟨h,0,none⟩)]
theorem kZ.below {C:World}{h b:Nat}{L:List UInt8}{W j:World}(k:kZ C h b L W)(B:Below W.heap.size W j):kZ C h b L j:=⟨k.pen.below B,k.bx.below B k.bx.lt⟩
theorem kZ.ne {D:World}{h b g:Nat}{L:List UInt8}{W:World}{t:TypeId}{cs:Array Value}(k:kZ D h b L W)(B:ab W g t cs)(ht:t≠95):g≠h:=by
 obtain⟨j,C⟩:=k.pen.pn;exact aT B C ht
theorem kZ.pb {B:World}{h b:Nat}{L C:List UInt8}{W j:World}(k:kZ B h b L W)(G:dS B h C j)(D:PB h W j):kZ B h b C j:=⟨G,D.blk _ _ _ (k.ne k.bx (by decide)) (by decide) k.bx⟩
theorem kZ.off {j:World}{h b g:Nat}{L:List UInt8}{W:World}{t:TypeId}{cs:Array Value}(k:kZ j h b L W)(B:ab W g t cs)(C:t≠95)(h2:t≠5)(D:t≠56)(G:j.heap.size<=g)(i:Nat)(v:Value):kZ j h b L (W.setCell ⟨g,i,none⟩ v):=
 ⟨Gf k.pen B C h2 G i v,k.bx.far (p:=⟨g,i,none⟩) (aT k.bx B (Ne.symm D)) v⟩
structure o0 (w0:World) (h b g:Nat) (x:bA) (L:List UInt8) (W:World):Prop where
 wr:kZ w0 h b L W
 la:ab W g 102 (kz x)
theorem o0.below {C:World}{h b g:Nat}{x:bA}{L:List UInt8}{W j:World}(k:o0 C h b g x L W)(B:Below W.heap.size W j):o0 C h b g x L j:=⟨k.wr.below B,k.la.below B k.la.lt⟩
theorem o0.pb {B:World}{h b g:Nat}{x:bA}{L C:List UInt8}{W j:World}(k:o0 B h b g x L W)(G:dS B h C j)(D:PB h W j):o0 B h b g x C j:=⟨k.wr.pb G D,D.blk _ _ _ (k.wr.ne k.la (by decide)) (by decide) k.la⟩
theorem o0.last {B:World}{h b g:Nat}{x:bA}{L:List UInt8}{W:World}(k:o0 B h b g x L W)(j:B.heap.size<=g)(y:bA):o0 B h b g y L ((((W.setCell ⟨g,0,none⟩ (V Z y.ad)).setCell ⟨g,1,none⟩ (OV y.had)).setCell ⟨g,2,none⟩ (V Z y.x)).setCell ⟨g,3,none⟩ (V Z y.y)):=by
 have C:=k.la.set_ 0 (V Z y.ad);have D:=C.set_ 1 (OV y.had);have G:=D.set_ 2 (V Z y.x);have N:=G.set_ 3 (V Z y.y);have I:=k.wr.off k.la (by decide) (by decide) (by decide) j 0 (V Z y.ad);have K:=I.off C (by decide) (by decide) (by decide) j 1 (OV y.had);have M:=K.off D (by decide) (by decide) (by decide) j 2 (V Z y.x);have k4:=M.off G (by decide) (by decide) (by decide) j 3 (V Z y.y);refine⟨k4,?_⟩;unfold kz at*
 simpa using N
theorem rW (gs:List hZ)(j:Nat)(B:j<U gs):bU gs=bU (gs.take j)++(j8 gs[j]++bU (gs.drop (j+1))):=by
 have h:gs=gs.take j++gs[j]::gs.drop (j+1):=by rw[<-OO B,OU]
 conv=>lhs;rw[h]
 rw[mK,bU]
theorem sb (ms:List aX)(j:Nat)(B:j<U ms):bS bE ms=bS bE (ms.take j)++(aU.getD (ms[j].ad - (eS bE (ms.take j)).ad).toNat []++(dD ms[j] (eS bE (ms.take j))++bS (dT ms[j]) (ms.drop (j+1)))):=by
 have h:ms=ms.take j++ms[j]::ms.drop (j+1):=by rw[<-OO B,OU]
 conv=>lhs;rw[h]
 rw[uC,bS]
theorem jn {α:Type}(l:List α)(j:Nat)(B:j<U l):l.take (j+1)=l.take j++[l[j]]:=by
 rw[List.take_add_one,List.getElem?_eq_getElem B];rfl
theorem rj {f:Int}:∀(ns:List Int)(gs:List hZ)(j:Nat)(B:j<U gs),dX f ns gs=true->∃n,n∈ns/\j7 f n gs[j]=true
 |_,[],j,B,_=>absurd B (OY _)
 |[],_::_,_,_,h=>by cases h
 |n::ns,g::gs,0,_,h=>by
  rw[dX,OJ] at h;exact⟨n,List.mem_cons_self ..,h.1⟩
 |n::ns,g::gs,j+1,B,h=>by
  rw[dX,OJ] at h;obtain⟨m,C,h2⟩:=rj ns gs j (by simpa using B) h.2;exact⟨m,List.mem_cons_of_mem _ C,h2⟩
theorem xe {f n:Int}(h:n∈aK f):1<=n/\n<=15:=by
 unfold aK at h
 split at h<;>simp only[OI,OR,or_false] at h<;>omega
theorem yx (w0:World)(h:Nat)(L:List UInt8)(s:a8)(hs:fo w0 s)(hS:eF s)(hT:Tz w0)(LL:Ts w0)(KM:cN s.s=true)(hl:U L+(eN s.s).length<=16777216)(hh:w0.heap.size<=h)(w:World)(hp:dS w0 h L w):
  Calls OC 31 #[OM (some ⟨h,0,none⟩),fY s] w λe w'=>(∃u,e=OG u)/\dS w0 h (L++eN s.s) w':=by
 obtain⟨tm,ty,sp,sA,sc,gs,A,c⟩:=s;obtain⟨av,KB,Lq⟩:=hs;obtain⟨M8,M9,Lz⟩:=hS;dsimp only at av KB Lq M8 M9 Lz;unfold a8.s at KM hl⊢;unfold fY;dsimp only at KM hl⊢;obtain⟨Lr,Lp⟩:=ls KM;dsimp only at Lr Lp;unfold eN at hl⊢;dsimp only at hl⊢;have LI:=O KB;have Mi:=O Lq;have Mp:=O Lz;have LJ:=O hT;have Mq:=O LL;have La:=O hl;have Mh:=O Lp;have HH:=O hh;have KR:L++(dV 0++(kJ ⟨tm,ty,sp⟩++bU (gs.map (·.g))))=((L++dV 0)++kJ ⟨tm,ty,sp⟩)++bU (gs.map (·.g)):=by simp only[J]
 have Kv:((L++dV 0)++kJ ⟨tm,ty,sp⟩).length+(bU (gs.map (·.g))).length<=16777216:=by have:=hl;simp only[X] at this⊢;omega
 rw[KR];obtain⟨L1,Lf⟩:∃L1,(L++dV 0)++kJ ⟨tm,ty,sp⟩=L1:=⟨_,rfl⟩;rw[Lf] at Kv⊢;have Mm:=O Lf;have LE:=O Kv;clear KR Kv Lf;have C1:=O (λW=>qF 0 (by decide) W);have C2:=O (λW (hb:Below w0.heap.size w0 W)=>Ik tm ty sp sA (U sp) sc W (av.below hb) rfl Lr);simp only[Int.natCast_zero] at C1;obtain⟨b,hb⟩:∃b,w.heap.size=b:=⟨_,rfl⟩;have CW:=O (λ(M s:List UInt8) (er:Int) W (k:kZ w0 h b M W) (hs:cU s) (hl:U M+U s<=16777216)=>vU w0 h b M s er hs hl hh W k.pen k.bx);have LR:kZ w0 h b L ((w.alloc (OD #[OM (some ⟨h,0,none⟩)] 56)).alloc (OD #[V Z tm,V Z ty,Y sA (U sp) sc,Y A (U gs) c] 35)):=⟨(hp.below ((Below.refl _ _).alloc (OB _) _)).below ((Below.refl _ _).alloc (OB _) _),(aE (ab.new _ _ _) hb).alloc _⟩;have KZ:ab ((w.alloc (OD #[OM (some ⟨h,0,none⟩)] 56)).alloc (OD #[V Z tm,V Z ty,Y sA (U sp) sc,Y A (U gs) c] 35)) (b+1) 35 #[V Z tm,V Z ty,Y sA (U sp) sc,Y A (U gs) c]:=aE (ab.new _ _ _) (by simp[hb]);have Hu:=O LR;have iP:=O KZ;have MI:∀(fn:Fn)(first LK:Array Value)(w:World),(Instr.makeFunc fn first LK).run OC w= .ok (.func fn first LK) w:= λ_ _ _ _=>rfl;obtain⟨k,hk⟩:∃k,U sp=k:=⟨_,rfl⟩;obtain⟨n,hn⟩:∃n,U gs=n:=⟨_,rfl⟩;have HN:=O hn;rw[hk,hn] at Hu iP;rw[hk] at C2;rw[hk,hn];rw[hn] at M9;clear av KB Lq M8 Lz hT LL KM hl hh Lr Lp LR KZ hn hk hp
 go_enter Tryz.func31,Tryz.ntmps31
 go_wp2_with (go_at_call 59;refine(C1.out _).mono ?_;rintro e w1 ⟨rfl,rfl⟩)
 refine(CW.out L (dV 0) 0 _ Hu.out (nQ _) (by have:=La.out;simp only[X] at this;omega)).mono ?_;rintro e w2 ⟨⟨u2,rfl⟩,LZ,Lh⟩;have L7:=O (Hu.out.pb LZ Lh);have dO:=Lh.blk _ _ _ (Hu.out.ne iP.out (by decide)) (by decide) iP.out;have K4:=O dO;have y0:=dO.cell 0;have y1:=dO.cell 1;have y2:=dO.cell 2;(try dsimp only at y0 y1 y2);clear LZ Lh dO Hu iP;go_wp2_with (go_at_call 60;refine(C2.out _ L7.out.pen.be).mono ?_;rintro e w3 ⟨rfl,Li⟩;have KE:=O (L7.out.below Li);have K5:=O (K4.out.below Li K4.out.lt);clear Li)
 have LM:cU (kJ ⟨tm,ty,sp⟩):=(ej _ _).app ((ej _ _).app (l9 _));refine(CW.out (L++dV 0) (kJ ⟨tm,ty,sp⟩) 0 _ KE.out LM (by have:=La.out;simp only[X] at this⊢;omega)).mono ?_;rintro e w4 ⟨⟨u4,rfl⟩,M0,Lj⟩;have LB:=O (KE.out.pb M0 Lj);have L0:=Lj.blk _ _ _ (KE.out.ne K5.out (by decide)) (by decide) K5.out;have y3:=L0.cell 3;(try dsimp only at y3);have Lt:=LB.out;rw[Mm.out] at Lt;have Mk:=O Lt;clear M0 Lj L0 LM Lt L7 KE LB K4 K5 La C1 C2 y0 y1 y2;go_wp2_with fail
 go_loopg [26] n (λgk i=> λwr=>∃(j:Nat),j+gk=n/\i=V Z (j:Int)/\Hid (kZ w0 h b (L1++bU ((gs.map (·.g)).take j)) wr))
 case atStart=>exact⟨0,by omega,rfl,O (by rw[ON,bU,OE];exact Mk.out)⟩
 case round=>
  obtain⟨j,hj,rfl,HK⟩:=hrel
  cases gk with
  |zero=>
   have Mv:¬((j:Int)<(n:Int)):=(by omega);have hk:=HK.out;rw[OH (by rw[OA,HN.out];omega)] at hk;have L9:=O hk;clear hk hj;go_wp2_with fail
   exact bodyPost_end (results_none rfl _ _ _) rfl ⟨⟨_,rfl⟩,L9.out.pen⟩
  |succ go=>
   have Mv:((j:Int)<(n:Int)):=(by omega);have MH:¬((j:Int)<0):=(by omega);have KJ:j<(U gs):=(by rw[HN.out];omega);have KK:j<(gs.map (·.g)).length:=(by rw[OA];exact KJ);have MJ:OT.wrap ((j:Int)+1)=(j:Int)+1:=(by rw[OK];omega);obtain⟨ad,rfl,_,c0,c1,c2,c3⟩:=jM (LI.out.below HK.out.pen.be) j KJ;have B:=OP KJ;obtain⟨nm,LY,Hl⟩:=rj _ _ j KK Mh.out;have av:=rW (gs.map (·.g)) j KK;have Ht:=jn (gs.map (·.g)) j KK;rw[OW] at Hl av Ht;obtain⟨G,hG⟩:∃G,gs[j]=G:=⟨_,rfl⟩;rw[hG] at B c0 c1 c2 c3 Hl av Ht;have Mt:=Mi.out _ B;have Mx:=Mp.out _ B;obtain⟨num,qu,C,gA,gc,ms,mA,mc⟩:=G;rw[show (⟨num,qu,C,gA,gc,ms,mA,mc⟩:cQ).g=⟨num,qu,C,ms.map (·.m)⟩ from rfl] at Hl av Ht;dsimp only at c0 c1 c2 c3 Hl av Ht;obtain⟨KX,Lx,Ly,gj,fJ⟩:=lA Hl;dsimp only at KX Lx Ly gj fJ;obtain⟨Mw,LX⟩:=xe LY;subst KX;obtain⟨N,rfl⟩:=Int.eq_ofNat_of_zero_le (by omega:0<=num);obtain⟨Ku,eE,Kw⟩:=Mt;obtain⟨_,KV,Kz⟩:=Mx;dsimp only at Ku eE Kw KV Kz
   have D:(L1++bU ((gs.map (·.g)).take j)).length+(j8 ⟨(N:Int),qu,C,ms.map (·.m)⟩).length<=16777216:=by
    have:=LE.out;rw[av] at this;simp only[X] at this⊢;omega
   have I:(L1++bU ((gs.map (·.g)).take j))++j8 ⟨(N:Int),qu,C,ms.map (·.m)⟩=L1++bU ((gs.map (·.g)).take (j+1)):=by
    rw[Ht,mK,bU,bU,OE,J]
   generalize L1++bU ((gs.map (·.g)).take j)=M at HK D I;unfold j8 at D I;dsimp only at D I;have K0:=O D;have LH:=O I;have HJ:=O hj;have Ld:=O eE;have KO:=O Kw;have Mn:=O Kz;have Mo:=O fJ;have KT:jb qu (U C)=true:=(by unfold jb;simp only[OJ,decide_eq_true_eq];exact⟨⟨Lx,Ly⟩,gj⟩);have CG:=O (λW (h:Below w0.heap.size w0 W)=>zi N qu C gA (U C) gc W (Ku.below h) rfl (by omega) (by omega) KT);have Kt:cU (dV (N:Int)++(ak qu.toNat 5++dL C)):=(nQ _).app ((ej _ _).app (l9 _));have LT:U M+(dV (N:Int)++(ak qu.toNat 5++dL C)).length<=16777216:=(by simp only[X] at D⊢;omega);have L4:=O (λW (k:kZ w0 h b M W)=>CW.out M _ 0 W k Kt LT);have cI:=(Below.refl _ wr).alloc (OB _) (OD #[V Z (N:Int),V Z qu,Y gA (U C) gc,Y mA (U ms) mc] 51);obtain⟨Ms,LQ⟩:∃g,wr.heap.size=g:=⟨_,rfl⟩;have LO:ab (wr.alloc (OD #[V Z (N:Int),V Z qu,Y gA (U C) gc,Y mA (U ms) mc] 51)) Ms 51 #[V Z (N:Int),V Z qu,Y gA (U C) gc,Y mA (U ms) mc]:=aE (ab.new _ _ _) LQ;have kU:=O (HK.out.below cI);have KD:=O LO;obtain⟨sk,LA⟩:∃k,U C=k:=⟨_,rfl⟩;obtain⟨mn,KL⟩:∃k,U ms=k:=⟨_,rfl⟩;have LF:=O KL;rw[LA] at c2 CG;rw[KL] at c3 KV;rw[LA,KL] at kU KD;obtain⟨KN,KC⟩:∃t,dV (N:Int)++(ak qu.toNat 5++dL C)=t:=⟨_,rfl⟩;rw[KC] at CG L4;have K6:=O KC;clear B LY Hl av Ht hG KJ KK fJ Ku eE Kw Kz Mw LX D I hj Kt LT cI LO LA KL Lx Ly gj KT KC HK;go_wp2_with (go_at_call 61;refine(CG.out _ kU.out.pen.be).mono ?_;rintro e w5 ⟨rfl,rfl⟩)
   refine(L4.out _ kU.out).mono ?_;rintro e w6 ⟨⟨u6,rfl⟩,M4,Lk⟩;have L8:=O (kU.out.pb M4 Lk);have KI:=Lk.blk _ _ _ (kU.out.ne KD.out (by decide)) (by decide) KD.out;have Mf:=O KI;have K8:=(Below.refl _ w6).alloc (OB _) (OD #[V Z 0,OV false,V Z 0,V Z 0] 102);have LP:=KI.below K8 KI.lt;have z3:=LP.cell 3;(try dsimp only at z3);obtain⟨gl,Lo⟩:∃g,w6.heap.size=g:=⟨_,rfl⟩;have LW:o0 w0 h b gl bE (M++KN) (w6.alloc (OD #[V Z 0,OV false,V Z 0,V Z 0] 102)):=⟨L8.out.below K8,aE (ab.new _ _ _) Lo⟩;have Lb:=O LW;have Mg:Hid (w0.heap.size<=gl):=O (by rw[<-Lo];exact L8.out.pen.be.size);clear M4 Lk KI K8 LP LW kU KD CG L4;go_wp2_with fail
   generalize w6.alloc (OD #[V Z 0,OV false,V Z 0,V Z 0] 102)=w7 at Lb z3⊢;clear Lo L8 Mf z3 c0 c1 c2 c3;have K3:Hid ((M++KN).length+(bS bE (ms.map (·.m))).length<=16777216):=O (by have:=K0.out;rw[<-K6.out];simp only[X] at this⊢;omega);have KQ:Hid ((M++KN)++bS bE (ms.map (·.m))=L1++bU ((gs.map (·.g)).take (j+1))):=O (by rw[<-LH.out,<-K6.out];simp only[J]);generalize M++KN=M2 at K3 KQ Lb;clear K0 LH K6
   go_loopg [44] mn (λgk i=> λwr=>∃(j:Nat),j+gk=mn/\i=V Z (j:Int)/\Hid (o0 w0 h b gl (eS bE ((ms.map (·.m)).take j)) (M2++bS bE ((ms.map (·.m)).take j)) wr))
   case atStart=>exact⟨0,by omega,rfl,O (by rw[ON,bS,OE];exact Lb.out)⟩
   case round=>
    obtain⟨K,Ls,rfl,KG⟩:=hrel
    cases gk with
    |zero=>
     have LU:¬((K:Int)<(mn:Int)):=(by omega);have hk:=KG.out;rw[OH (by rw[OA,LF.out];omega),KQ.out] at hk;have L9:=O hk.wr;clear hk Ls;go_wp2_with fail
     go_roundg go
     case measure=>omega
     case rel=>exact⟨j+1,by have:=HJ.out;omega,rfl,L9⟩
    |succ gi=>
     have LU:((K:Int)<(mn:Int)):=(by omega);have MD:¬((K:Int)<0):=(by omega);have jg:K<(U ms):=(by rw[LF.out];omega);have jY:K<(ms.map (·.m)).length:=(by rw[OA];exact jg);have ME:OT.wrap ((K:Int)+1)=(K:Int)+1:=(by rw[OK];omega);have Ln:=KG.out.wr.pen.be;obtain⟨am,rfl,_,d0,d1,d2,d3,d4,d5,d6⟩:=iB (Ld.out.below Ln) K jg;have B:=OP jg;have KA:=tJ (ms.map (·.m)) bE K jY (by decide) (λad h=>qy h) Mo.out;have bM:=sb (ms.map (·.m)) K jY;have cE:=jn (ms.map (·.m)) K jY;rw[OW] at KA bM cE;obtain⟨⟨m,xs,Am,cm⟩,hm⟩:∃m,ms[K]=m:=⟨_,rfl⟩;rw[hm] at B KA bM cE d0 d1 d2 d3 d4 d5 d6;dsimp only at KA bM cE d0 d1 d2 d3 d4 d5 d6;have Kx:=(KO.out _ B).below Ln;have KW:=Mn.out _ B;have hk:=KG.out;have Mb:eS bE ((ms.map (·.m)).take (K+1))=dT m:=(by rw[cE];exact po _ _ _);have Ky:bS bE ((ms.map (·.m)).take (K+1))=bS bE ((ms.map (·.m)).take K)++(aU.getD (m.ad - (eS bE ((ms.map (·.m)).take K)).ad).toNat []++dD m (eS bE ((ms.map (·.m)).take K))):=(by rw[cE];exact oh _ _ _);obtain⟨x,hx⟩:∃x,eS bE ((ms.map (·.m)).take K)=x:=⟨_,rfl⟩;rw[hx] at KA bM hk Ky
     have Lv:(M2++bS bE ((ms.map (·.m)).take K)).length+(aU.getD (m.ad - x.ad).toNat []).length+(dD m x).length<=16777216:=by
      have:=K3.out;rw[bM] at this;simp only[X] at this⊢;omega
     obtain⟨M3,Lg⟩:∃M3,M2++bS bE ((ms.map (·.m)).take K)=M3:=⟨_,rfl⟩;have KU:M2++bS bE ((ms.map (·.m)).take (K+1))=(M3++aU.getD (m.ad - x.ad).toNat [])++dD m x:=(by rw[Ky,<-Lg];simp only[J]);rw[Lg] at hk Lv;obtain⟨Mz,MC,LV,KY⟩:=KA;have M7:iX (m.ad - x.ad)=(aU.getD (m.ad - x.ad).toNat [],0):=(by unfold iX;rw[if_neg (by omega)]);have K9:cU (aU.getD (m.ad - x.ad).toNat []):=wD _;have CA:=O (λW (hT:Tz W)=>yX (m.ad - x.ad) W hT (by omega));rw[M7] at CA;dsimp only at CA;have My:OT.wrap (m.ad - x.ad)=m.ad - x.ad:=(by rw[OK];omega);generalize aU.getD (m.ad - x.ad).toNat []=cd at*;have Mc:m.bl=xs.map (·.1):=Kx.e;have CM:=O (λW (hb:Below w0.heap.size w0 W) (hT:Tz W) (hs:Ts W)=>Ec m x xs Am cm W Mc (((KO.out _ B).below hb).bks KW) hT hs);rw[KY] at CM;have CF:=O (λW=>qI m Am (U xs) cm W);unfold dU dY at CM;unfold dU at CF;dsimp only at CM;have LN:cU (dD m x):=uc m x;have Mr:=O Mb;have LG:=O KU;have LD:=O Lv;have Md:=O K9;have Me:=O LN;have MG:=O My;have Mj:=O Ls;have MF:=O hk;obtain⟨xl,Ma⟩:∃n,U xs=n:=⟨_,rfl⟩;rw[Ma] at CM CF d6;have cI:=(Below.refl _ wr).alloc (OB _) (OD #[V Z m.ad,V Z m.kd,V Z m.qu,V Z m.x,V Z m.y,V Z m.pa,Y Am xl cm] 55);obtain⟨g9,Mu⟩:∃g,wr.heap.size=g:=⟨_,rfl⟩;have rG:ab (wr.alloc (OD #[V Z m.ad,V Z m.kd,V Z m.qu,V Z m.x,V Z m.y,V Z m.pa,Y Am xl cm] 55)) g9 55 #[V Z m.ad,V Z m.kd,V Z m.qu,V Z m.x,V Z m.y,V Z m.pa,Y Am xl cm]:=aE (ab.new _ _ _) Mu;have L6:=O rG;have Lu:=hk.below cI;have JT:=O Lu;have Lw:=Lu.la;unfold kz at Lw;have l0:=Lw.cell 0;(try dsimp only at l0);clear Ln B bM cE hm Kx KW hk Mb Ky hx Lv Lg KU Mz MC LV KY M7 K9 Mc LN Ma cI rG Lu Lw jg jY Ls KG;go_wp2_with (go_at_call 62;refine(CA.out _ (LJ.out.below JT.out.wr.pen.be)).mono ?_;rintro e w8 ⟨rfl,Ll⟩;have KF:=O (JT.out.below Ll);have L5:=O (L6.out.below Ll L6.out.lt);clear Ll)
     refine(CW.out M3 cd 0 _ KF.out.wr Md.out (by have:=LD.out;omega)).mono ?_;rintro e w9 ⟨⟨u9,rfl⟩,M5,rG⟩;have kA:=O (KF.out.pb M5 rG);have dv:=rG.blk _ _ _ (KF.out.wr.ne L5.out (by decide)) (by decide) L5.out;have Lc:=O dv;have e0:=dv.cell 0;have e1:=dv.cell 1;have e2:=dv.cell 2;have e3:=dv.cell 3;have e4:=dv.cell 4;have e5:=dv.cell 5;have e6:=dv.cell 6;have aJ:=kA.out.la;unfold kz at aJ;have f0:=aJ.cell 0;have f1:=aJ.cell 1;have f2:=aJ.cell 2;have f3:=aJ.cell 3;(try dsimp only at e0 e1 e2 e3 e4 e5 e6 f0 f1 f2 f3);clear M5 rG dv aJ KF L5 JT L6 CA l0 d0 d1 d2 d3 d4 d5 d6;go_wp2_with (go_at_call 63;refine(CM.out _ kA.out.wr.pen.be (LJ.out.below kA.out.wr.pen.be) (Mq.out.below kA.out.wr.pen.be)).mono ?_;rintro e wa ⟨rfl,cI⟩;have KH:=O (kA.out.below cI);have Le:=O (Lc.out.below cI Lc.out.lt);clear cI)
     refine(CW.out (M3++cd) (dD m x) 0 _ KH.out.wr Me.out (by have:=LD.out;rw[X];omega)).mono ?_;rintro e wb ⟨⟨ub,rfl⟩,M6,Lm⟩;have Ml:=O (KH.out.pb M6 Lm);have dy:=Lm.blk _ _ _ (KH.out.wr.ne Le.out (by decide)) (by decide) Le.out;clear e0 e1 e2 e3 e4 e5 e6 f0 f1 f2 f3;have e0:=dy.cell 0;have e1:=dy.cell 1;have e2:=dy.cell 2;have e3:=dy.cell 3;have e4:=dy.cell 4;have e5:=dy.cell 5;have e6:=dy.cell 6;(try dsimp only at e0 e1 e2 e3 e4 e5 e6);clear M6 Lm dy KH Le kA Lc CM;unfold dY at CF;go_wp2_with (go_at_call 64;refine(CF.out _).mono ?_;rintro e wc ⟨rfl,K9⟩;have LC:=O (Ml.out.below K9);have T:=LC.out.la;unfold kz at T;have f0:=T.cell 0;have f1:=T.cell 1;have f2:=T.cell 2;have f3:=T.cell 3;have g0:=T.frozen 0;have g1:=T.frozen 1;have g2:=T.frozen 2;have g3:=T.frozen 3;(try dsimp only at f0 f1 f2 f3 g0 g1 g2 g3);clear K9 T)
     go_roundg gi
     case measure=>omega
     case rel=>exact⟨K+1,by have:=Mj.out;omega,rfl,O (by rw[Mr.out,LG.out];exact LC.out.last Mg.out (dT m))⟩
def lL (j:List a8) (w:World) (e:Ending) (w':World):Prop:=∃v er,e=OG (.tuple #[v,V Z er])/\Below w.heap.size w w'/\
 ((er=0/\U j<=100/\(∀s∈j,cN s.s=true)/\∃A c,v=Y A (mw (j.map (·.s))).length c/\w'.ownsRow w.heap.size 5 1 v (mw (j.map (·.s))).length ((mw (j.map (·.s))).map ag))\/
  (er=2/\U j<=100/\(∃s∈j,cN s.s=false)/\v=Y none 0 0)\/(er=4/\100<U j/\v=Y none 0 0))
theorem oD:∀(a b:List ez),ca (a++b)=ca a++ca b
 |[],_=>rfl
 |g::a,b=>by rw[OL,ca,ca,oD a b,J]
theorem sK (G:List a8)(A:Option Addr)(n c:Nat)(w:World)(hn:U G=n)(dy:eV w A G)(hS:∀s∈G,eF s) (hT:Tz w) (dv:Ts w) (hl:∀j,(∀s∈G.take j,cN s.s=true)->(ca ((G.take j).map (·.s))).length<=16777216) (hsz:n<=2 ^ 40):
  Calls OC 12 #[Y A n c] w (lL G w):=by
 have HN:=O hn
 cases bM:decide ((100:Int)<(n:Int)) with
 |true=>
  have h1:100<n:=(by simp at bM;omega);have HH:=O h1;clear hn dy hS hT dv hl h1
  go_enter Oa,OZ
  go_wp2_with fail
  go_ret2;exact⟨_,_,rfl,Below.refl _ _,.inr (.inr ⟨rfl,by rw[HN.out];exact HH.out,rfl⟩)⟩
 |false=>
 have h1:n<=100:=by simp at bM;omega
 have HH:=O h1;have gj:=O dy;have HS:=O hS;have HT:=O hT;have K6:=O dv;have HL:=O hl;have C1:=O (qA w);obtain⟨hh,dO⟩:∃hh,w.heap.size=hh:=⟨_,rfl⟩;have JT:=O dO;rw[dO] at C1;clear hn dy hS hT dv hl h1
 go_enter Oa,OZ
 go_wp2_with (go_at_call 30;refine C1.out.mono ?_;rintro e w2 ⟨rfl,Ht⟩;have K3:=O Ht;clear Ht)
 clear dO
 go_loopg [14] n (λgk i=> λwr=>∃(j:Nat),j+gk=n/\i=V Z (j:Int)/\Hid (dS w hh (ca ((G.take j).map (·.s))) wr)/\Hid (∀s∈G.take j,cN s.s=true))
 case atStart=>exact⟨0,by omega,rfl,K3,O (λs hs=>by rw[ON] at hs;cases hs)⟩
 case round=>
  obtain⟨j,hj,rfl,HP,HQ⟩:=hrel
  cases gk with
  |zero=>
   have K9:¬((j:Int)<(n:Int)):=(by omega);have K:G.take j=G:=OH (by rw[HN.out];omega);have hb:=HL.out j HQ.out;rw[K] at HP HQ hb;have CB:=O (si w hh _ hb wr HP.out);clear hj K hb;go_wp2_with (go_at_call 32;refine CB.out.mono ?_;rintro e w3 ⟨⟨A',c',rfl,ho⟩,C⟩;have HO:=O ho;have cI:=O C;clear ho C)
   go_ret2;refine⟨_,_,rfl,HP.out.be.trans (cI.out.mono HP.out.be.size),.inl ⟨rfl,by rw[HN.out];exact HH.out,HQ.out,A',c',rfl,cJ HO.out HP.out.be.size⟩⟩
  |succ go=>
   have K9:((j:Int)<(n:Int)):=(by omega);have Kt:¬((j:Int)<0):=(by omega);have aJ:j<(U G):=(by rw[HN.out];omega);have Ku:OT.wrap ((j:Int)+1)=(j:Int)+1:=(by rw[OK];omega);obtain⟨ad,rfl,_,c0,c1,c2,c3⟩:=iC (gj.out.row.below HP.out.be) j aJ;have D:=OP aJ;have K:=jn G j aJ;obtain⟨S,kU⟩:∃S,G[j]=S:=⟨_,rfl⟩;rw[kU] at D K c0 c1 c2 c3;have eE:=gj.out.sh _ D;have fJ:=HS.out _ D;have CK:=O (λW (hb:Below w.heap.size w W)=>pT S W (eE.below hb) fJ);have CW:=O (λ(L:List UInt8) W (B:cN S.s=true) (hl:U L+(eN S.s).length<=16777216) (hp:dS w hh L W)=>yx w hh L S eE fJ HT.out K6.out B hl (Nat.le_of_eq JT.out) W hp)
   have I:cN S.s=true->(∀s∈G.take (j+1),cN s.s=true):= λB s hs=>by
    rw[K] at hs;rcases List.mem_append.1 hs with hs|hs
    ·exact HQ.out s hs
    ·rw[OF] at hs;subst hs;exact B
   have av:ca ((G.take (j+1)).map (·.s))=ca ((G.take j).map (·.s))++eN S.s:=by
    rw[K,OX,oD,List.map_singleton,ca,ca,OE]
   have cE:cN S.s=true->(ca ((G.take j).map (·.s))).length+(eN S.s).length<=16777216:= λB=>by
    have:=HL.out (j+1) (I B);rw[av,X] at this;exact this
   have K0:=O I;have kA:=O av;have jg:=O cE;have HJ:=O hj;have jY:=O D;obtain⟨gg,K8⟩:∃g,wr.heap.size=g:=⟨_,rfl⟩;have Hl:=(Below.refl _ wr).alloc (OB _) (OD #[V Z S.tm,V Z S.ty,Y S.sA (U S.sp) S.sc,Y S.A (U S.gs) S.c] 35);have rG:ab (wr.alloc (OD #[V Z S.tm,V Z S.ty,Y S.sA (U S.sp) S.sc,Y S.A (U S.gs) S.c] 35)) gg 35 #[V Z S.tm,V Z S.ty,Y S.sA (U S.sp) S.sc,Y S.A (U S.gs) S.c]:=aE (ab.new _ _ _) K8;have N:=O (HP.out.below Hl);have iP:=O rG;unfold fY at CK CW;clear D K kU eE fJ I av cE hj aJ Hl rG HP
   cases B:cN S.s with
   |false=>
    rw[B] at CK;simp only[Bool.false_eq_true,if_false] at CK;have M:=O B;clear B;go_wp2_with (go_at_call 15;refine(CK.out _ N.out.be).mono ?_;rintro e w3 ⟨rfl,C⟩;have cI:=O C;clear C)
    go_ret2;exact⟨_,_,rfl,N.out.be.trans (cI.out.mono N.out.be.size),.inr (.inl ⟨rfl,by rw[HN.out];exact HH.out,⟨S,jY.out,M.out⟩,rfl⟩)⟩
   |true=>
    rw[B] at CK;simp only[if_true] at CK;have M:=O B;clear B;go_wp2_with (first|(go_at_call 15;refine(CK.out _ N.out.be).mono ?_;rintro e w3 ⟨rfl,C⟩;have K4:=O (N.out.below C);have T:=iP.out.below C iP.out.lt;have d0:=T.cell 0;have d1:=T.cell 1;have d2:=T.cell 2;have d3:=T.cell 3;(try dsimp only at d0 d1 d2 d3);clear C T)|(go_at_call 31;refine(CW.out _ _ M.out (jg.out M.out) K4.out).mono ?_;rintro e w4 ⟨⟨u4,rfl⟩,Hu⟩;have K5:=O Hu;clear Hu))
    go_roundg go
    case measure=>omega
    case rel=>exact⟨j+1,by have:=HJ.out;omega,rfl,O (by rw[kA.out];exact K5.out),O (K0.out M.out)⟩
def pA:ez:=⟨⟨0,0,[]⟩,[⟨1,1,[],[⟨2,8,0,0,0,0,[]⟩]⟩,⟨3,1,[],[]⟩,⟨5,1,[],[]⟩]⟩
def nr (h:Nat):a8:=⟨0,0,[],none,0,[⟨1,1,[],none,0,[⟨⟨2,8,0,0,0,0,[]⟩,[],none,0⟩],some ⟨h,0,none⟩,1⟩,⟨3,1,[],none,0,[],none,0⟩,⟨5,1,[],none,0,[],none,0⟩],some ⟨h+1,0,none⟩,3⟩
theorem Jt (h:Nat):eF (nr h):=by
 refine⟨by simp[nr],by simp[nr],λg B=>?_⟩;simp only[nr,OI,OR,or_false] at B;rcases B with rfl|rfl|rfl
 ·refine⟨by simp,by simp,λm j=>?_⟩
  simp only[OF] at j;subst j;exact⟨by simp,λb C=>by cases C⟩
 ·exact⟨by simp,by simp,λm j=>by cases j⟩
 ·exact⟨by simp,by simp,λm j=>by cases j⟩
theorem kN (W:World)(A:Option Addr):Sl W A []:= λi v h=>by simp at h
theorem If {W:World}{h:Nat}(C:ab W h 55 (dC ⟨2,8,0,0,0,0,[]⟩ (Y none 0 0)))(h2:ab W (h+1) 51 (az fV (nr h).gs).toArray):fo W (nr h):=by
 refine⟨kN _ _,h2.sl 0,λg B=>?_⟩;simp only[nr,OI,OR,or_false] at B;rcases B with rfl|rfl|rfl
 ·refine⟨kN _ _,C.sl 0,λm j=>?_⟩
  simp only[OF] at j;subst j;exact⟨rfl,kN _ _,λb D=>by cases D⟩
 ·exact⟨kN _ _,kN _ _,λm j=>by cases j⟩
 ·exact⟨kN _ _,kN _ _,λm j=>by cases j⟩
def Ka (w:World) (e:Ending) (w':World):Prop:=∃s:a8,e=OG (fY s)/\s.s=pA/\fo w' s/\eF s/\Below w.heap.size w w'
theorem Ig (h:Nat)(tm ty:Int)(u v:Value)(tmps:Array Value)(W:World)(j:ab W h 35 #[V Z tm,V Z ty,u,v])(C:tmps.getD 0 undef=OM (some ⟨h,0,none⟩)):
  (results Tryz.f24 tmps).run OC W= .ok (.agg #[V Z tm,V Z ty,u,v]) W:=by
 have c0:=j.cell 0;have c1:=j.cell 1;have c2:=j.cell 2;have c3:=j.cell 3;simp at c0 c1 c2 c3;have B:tmps[0]?.getD undef=OM (some ⟨h,0,none⟩):=by simpa using C
 simp[results,Tryz.results24,B,asAddr,c0,c1,c2,c3,go_sem]
theorem Ce (w:World):Calls OC 24 #[] w λe w'=>∃h,e=OG (fY (nr h))/\fo w' (nr h)/\Below w.heap.size w w':=by
 go_enter Tryz.func24,Tryz.ntmps24
 go_wp2_with fail
 have I:∀j,(w.alloc j).heap.size=w.heap.size+1:= λj=>by simp
 have D:∀j B,((w.alloc j).alloc B).heap.size=w.heap.size+1+1:= λj B=>by simp
 have G:∀j B C,(((w.alloc j).alloc B).alloc C).heap.size=w.heap.size+1+1+1:= λj B C=>by simp
 refine bodyPost_ret (Ig w.heap.size 0 0 (Y none 0 0) (Y (some ⟨w.heap.size+1+1+1,0,none⟩) 3 3) _ _ ((((ab.new w _ _).alloc _).alloc _).alloc _) rfl) rfl ⟨w.heap.size+1+1,rfl,If ?_ ?_,?_⟩
 ·exact(aE (ab.new _ _ _) (D _ _)).alloc _
 ·exact aE (ab.new _ _ _) (G _ _ _)
 ·exact((((Below.refl _ w).alloc (OB _) _).alloc (by rw[I];omega) _).alloc (by rw[D];omega) _).alloc (by rw[G];omega) _
theorem uB (w:World):Calls OC 24 #[] w (Ka w):=
 (Ce w).mono λ_ _ ⟨h,e,j,h2⟩=>⟨nr h,e,rfl,j,Jt h,h2⟩
def IY (l:List UInt8) (w:World) (e:Ending) (w':World):Prop:=(∃A c,e=OG (Y A (U l) c)/\w'.ownsRow w.heap.size 5 1 (Y A (U l) c) (U l) (l.map ag))/\Below w.heap.size w w'
theorem vK (s:List UInt8)(N:cU s)(hl:U s<=16777216)(w:World):Calls OC 55 #[Ob (bs s)] w (IY (bw s) w):=by
 have C1:=O (qA w);have I:=O (λW G=>Gd w w.heap.size [] s N (by simpa using hl) (OB _) W G);have C3:=O (λW G=>si w w.heap.size s hl W G);rw[OS] at I;clear N hl
 go_enter Tryz.func55,Tryz.ntmps55
 go_wp2_with (first|(go_at_call 30;refine C1.out.mono ?_;rintro e w2 ⟨rfl,B⟩;have D:=O B;clear B)|(go_at_call 58;refine(I.out _ D.out).mono ?_;rintro e w3 ⟨rfl,C⟩;have j:=O C;clear C)|(go_at_call 32;refine(C3.out _ j.out).mono ?_;rintro e w4 ⟨⟨T,c',rfl,M⟩,K⟩;have HO:=O M;have HB:=O K;clear M K))
 go_ret;exact⟨⟨T,c',rfl,cJ HO.out j.out.be.size⟩,j.out.be.trans (HB.out.mono j.out.be.size)⟩
def kV:List UInt8:=ca [pA]
theorem zp (l:List UInt8)(B:Option Addr)(m d:Nat)(w:World)(hB:Sl w B (l.map ag))(hm:U l=m)(hsz:m<=1000):Calls OC 23 #[Y B m d] w (IY (bw kV++l) w):=by
 have K:=O hB;have N:=O hm;have D:(bw kV).length=15:=by decide
 have j:Hid (((bw kV).length+m)*1<=140737488355328):=O (by omega);clear D;have C1:=O (vK kV (nP _) (by decide) w);clear hB hm
 go_enter Tryz.func23,Tryz.ntmps23
 go_wp2_with (first|(go_at_call 55;refine C1.out.mono ?_;rintro e w2 ⟨⟨A',c',rfl,G⟩,hb⟩;have T:=O G;have I:=O hb;clear G hb)|(at_builtin;refine dA nC rfl rfl rfl T.out rfl (by simp[N.out]) (K.out.below I.out) (DN _) (j.out) I.out.size ?_;intro v2 w3 G hg _;have C:=O G;have M:=O hg;clear G hg))
 obtain⟨A2,c2,hv⟩:=bg C.out;subst hv;go_ret;refine⟨⟨A2,c2,?_,?_⟩,kC I.out T.out M.out I.out.size (OB _)⟩
 ·rw[X,N.out];rfl
 ·have h:=C.out
  rw[X,N.out,OX];exact h
theorem Hw {p:ei}(j:iU p.m=true)(he:vX p):wi p:=by
 have j:=(iO _).1 j;have he:p.m.bl=p.xs.map (·.1):=he;have G:cC p.m.pa<=6:=by unfold cC;split<;>omega
 have hl:=j.len;rw[he,OA] at hl;refine⟨by omega,λq D=>?_⟩;have C:=j.bl q.1 (by rw[he];exact OQ.2 ⟨q,D,rfl⟩);have B:0<=dl (pI p.m.kd)/\dl (pI p.m.kd)<=1:=by cases (pI p.m.kd)<;>decide
 have h2:=(kO q.1.l _ B.1 (by omega) (qe C).1).1;omega
theorem yc {f g:Int}:∀(ms:List aX)(last:Int),eC f g last ms=true->∀m∈ms,iU m=true
 |[],_,_,m,j=>by cases j
 |a::ms,last,h,m,j=>by
  obtain⟨B,_,_,C⟩:=mW h;rcases OI.1 j with rfl|j
  ·exact B
  ·exact yc ms _ C m j
theorem He {p:cQ}{f n:Int}(h:j7 f n p.g=true)(he:vW p):ra p:=by
 obtain⟨_,_,_,C,j⟩:=lA h;have G:=ry p.g.ms 0 j (by decide);have hl:U p.g.ms=(U p.ms):=by unfold cQ.g;rw[OA]
 have D:p.g.sp=p.sp:=rfl;rw[D] at C;refine⟨by omega,by omega,λm B=>Hw (yc _ _ j _ (OQ.2 ⟨m,B,rfl⟩)) (he m B)⟩
theorem ux {f:Int}:∀(ns:List Int)(gs:List hZ),dX f ns gs=true->∀g∈gs,∃n,j7 f n g=true
 |_,[],_,g,j=>by cases j
 |[],_::_,h,_,_=>by cases h
 |n::ns,a::gs,h,g,j=>by
  rw[dX,OJ] at h;rcases OI.1 j with rfl|j
  ·exact⟨n,h.1⟩
  ·exact ux ns gs h.2 g j
theorem Ir {p:a8}(h:cN p.s=true)(he:nN p):eF p:=by
 obtain⟨B,h2⟩:=ls h;have C:=(uz B).2.2.2.2;have I:=(kI _ _ h2).2;have K:=ip (dJ p.s.hd.ty);have hl:U p.s.gs=(U p.gs):=by unfold a8.s;rw[OA]
 have G:p.s.hd.sp=p.sp:=rfl;rw[G] at C;refine⟨by omega,by omega,λg j=>?_⟩;obtain⟨n,D⟩:=ux _ _ h2 g.g (OQ.2 ⟨g,j,rfl⟩);exact He D (he g j)
def I0 (l:List UInt8) (w:World) (e:Ending) (w':World):Prop:=
 ∃A c j,e=OG (.tuple #[Y A (U j) c,V Z (gZ l).2])/\j.map (·.s)=(gZ l).1/\eV w' A j/\(∀s∈j,eF s)/\(∀s∈j,cN s.s=true)/\Below w.heap.size w w'
theorem vR (A:Option Addr)(n c:Nat)(l:List UInt8)(w:World)(M:∀W,Below w.heap.size w W->Tz W/\Ts W/\Sl W A (l.map ag)) (T:U l=n) (hsz:n<=2 ^ 40):
  Calls OC 19 #[Y A n c] w (I0 l w):=by
 refine(yv A n c l w M T hsz).mono ?_;rintro e w' ⟨I,K,G,he,D,B,N,C⟩;have j:∀s∈G,cN s.s=true:= λs h=>(pU l).1 s.s (by rw[<-D];exact OQ.2 ⟨s,h,rfl⟩);exact⟨I,K,G,he,D,⟨el C.head,λs h=>Iq (EQ C.tail h) (B s h)⟩,λs h=>Ir (j s h) (B s h),j,N⟩
theorem xv (A:Option Addr)(n c:Nat)(l:List UInt8)(err:Int)(B:Option Addr)(m d:Nat)(j:List a8)(w:World)(hE:∀W,Below w.heap.size w W->Tz W/\Ts W/\Sl W A (l.map ag)) (hn:U l=n) (hsz:n<=2 ^ 40) (hm:U j=m) (hW:eV w B j) (hS:∀s∈j,eF s) (N:gZ l=(j.map (·.s),err)):
  Calls OC 25 #[Y A n c,V Z err,Y B m d] w λe w'=>e=OG (OV true)/\Below w.heap.size w w':=by
 have T:=O (vR A n c l w hE hn hsz);have HW:=O hW;have HS:=O hS;have HM:=O hm;have HP:=O N
 have I:U j<=8*(U l):=by
  have h1:=(pU l).2;rw[N] at h1;have h2:=sG (j.map (·.s));rw[OA] at h2;dsimp only at h1;omega
 have C:Hid (U j<=2 ^ 60):=O (by omega);unfold I0 at T;rw[N] at T;clear hE hn hm hW hS N I
 go_enter Tryz.func25,Tryz.ntmps25
 go_wp2_with (first|(go_at_call 19;refine T.out.mono ?_;rintro e w2 ⟨A2,c2,tt,rfl,ht,D,K,_,hb⟩;have HT:=O ht;have av:=O D;have bM:=O K;have M:=O hb;clear ht D K hb)|(go_at_call 21;refine(vJ tt j A2 B _ _ c2 d w2 rfl HM.out HT.out av.out ⟨HW.out.row.below M.out,λs hs=>(HW.out.sh s hs).below M.out⟩ bM.out HS.out (by have h:=congrArg List.length HT.out;rw[OA,OA] at h;rw[h];exact C.out)).mono ?_;rintro e w3 ⟨rfl,G⟩;have aJ:=O G;clear G))
 go_ret;exact⟨rfl,M.out.trans (aJ.out.mono M.out.size)⟩
end
section
open Go Go.RowKit
theorem Ju:cN pA=true:=by kernel_rfl
theorem nG:(bw kV).length=15:=by kernel_rfl
set_option maxRecDepth 100000 in
theorem JQ:gZ (bw kV)=([pA],0):=by kernel_rfl
end
open Go Go.RowKit
attribute [local go_sem] Oper.semAt_some
set_option maxHeartbeats 16000000
set_option maxRecDepth 100000
open Go.Lib renaming hid→O
open List renaming length→U,setIfInBounds_toArray→Z,set_cons_zero→J,map_singleton→OB,mem_singleton→OC,set_cons_succ→OD,append_nil→OH,length_append→OK,all_eq_true→ON,getElem_mem→OO,length_take→OP
open Go.Value renaming slice→V,int→OJ,tuple→OR
open Nat renaming le_refl→Y
open Tryz renaming prog→OA
open Go.Ending renaming returned→OE
open Go.Proofs.YthhijgcfbjcgiaaGreatDoor.bY renaming take→OF
open Go.IntKind renaming wrap_i64→OG,i64→OI,i64→OM
open Go.World renaming ownsRow_nil→OL
open Go.Obj renaming cells→OQ
theorem tI {B:List a8}(G:U B<=4)(j:Nat)(h:∀s∈B.take j,cN s.s=true):(ca ((B.take j).map (·.s))).length<=16777216:=by
 have C:=oE ((B.take j).map (·.s)) (λs D=>by obtain⟨t,ht,rfl⟩:=List.mem_map.1 D;exact h t ht);rw[List.length_map,OP] at C;omega
theorem yw (B:List a8)(A:Option Addr)(n c:Nat)(w:World)(hn:U B=n)(I:eV w A B)(N:∀s∈B,eF s) (T:Tz w) (G:Ts w) (hl:∀j,(∀s∈B.take j,cN s.s=true)->(ca ((B.take j).map (·.s))).length<=16777216) (K:∀s∈B,cN s.s=true) (M:n<=100):
  Calls OA 12 #[V A n c] w λe w'=>(∃C D,e=OE (OR #[V C (mw (B.map (·.s))).length D,OJ OI 0])/\w'.ownsRow w.heap.size 5 1 (V C (mw (B.map (·.s))).length D) (mw (B.map (·.s))).length ((mw (B.map (·.s))).map ag))/\Below w.heap.size w w':=by
 refine(sK B A n c w hn I N T G hl (by omega)).mono ?_;rintro e w' ⟨v,er,rfl,hb,(⟨rfl,_,_,C,D,rfl,ho⟩|⟨_,_,⟨s,hs,h⟩,_⟩|⟨_,h,_⟩)⟩
 ·exact⟨⟨C,D,rfl,ho⟩,hb⟩
 ·rw[K s hs] at h;cases h
 ·omega
theorem Bs {W:World}{s:a8}(h:fo W s):eV (W.alloc (OQ (eu s).toArray 35)) (some ⟨W.heap.size,0,none⟩) [s]:=by
 refine⟨?_,λt ht=>?_⟩
 ·rw[fX]
  exact ab.sl (ab.new W 35 (eu s).toArray) 0
 ·rw[OC] at ht
  subst ht;exact h.below ((Below.refl _ _).alloc (Y _) _)
theorem tC {P:a8->Prop}{s:a8}(h:P s):∀t∈[s],P t:= λt ht=>by rw[OC.1 ht];exact h
theorem Bk {s:a8}(h:s.s=pA):mw ([s].map (·.s))=bw kV:=by rw[OB,h];rfl
theorem vS (s:a8)(A:Option Addr)(c:Nat)(w:World)(G:s.s=pA)(D:eV w A [s])(K:eF s)(M:Tz w)(C:Ts w):
  Calls OA 12 #[V A 1 c] w λe w'=>(∃j B,e=OE (OR #[V j 15 B,OJ OI 0])/\Sl w' j ((bw kV).map ag))/\Below w.heap.size w w':=by
 refine(yw [s] A 1 c w rfl D (tC K) M C (tI (by simp)) (tC (by rw[G];exact Ju)) (by decide)).mono ?_;rintro e w' ⟨⟨j,B,rfl,I⟩,N⟩;rw[Bk G,nG] at I;refine⟨⟨j,B,by rw[Bk G,nG],el I⟩,N⟩
theorem rX (A:Option Addr)(n c:Nat)(l:List UInt8)(err:Int)(B:Option Addr)(d:Nat)(s:a8)(w:World)(T:s.s=pA)(D:Sl w A (l.map ag))(I:Tz w)(j:Ts w)(M:U l=n)(hsz:n<=2 ^ 40)(K:eV w B [s])(G:eF s)(N:gZ l=([pA],err)):
  Calls OA 25 #[V A n c,OJ OI err,V B 1 d] w λe w'=>e=OE (.bool true)/\Below w.heap.size w w':=
 xv A n c l err B 1 d [s] w (λW C=>⟨I.below C,j.below C,D.below C⟩) M hsz rfl K (tC G) (by rw[OB,T];exact N)
theorem nh (w:World)(hT:Tz w)(aJ:Ts w):Calls OA 11 #[] w λe w'=>e=OE (.bool true)/\Below w.heap.size w w':=by
 have HT:=O hT;have HS:=O aJ;clear hT aJ
 go_enter Tryz.func11,Tryz.ntmps11
 go_wp2_with fail
 refine(uB _).mono ?_;rintro e w1 ⟨s1,rfl,cI,j,T,hb⟩;have B1:=O hb;have N:=O (Bs j);have K:=O (hb.alloc hb.size (OQ (eu s1).toArray 35));have dO:=O cI;have fJ:=O T;unfold fY;clear hb j cI T;go_wp2_with fail
 refine(vS s1 _ 1 _ dO.out N.out fJ.out (HT.out.below K.out) (HS.out.below K.out)).mono ?_;rintro e w3 ⟨⟨A3,c3,rfl,ho⟩,bM⟩;have B3:=O (K.out.trans (bM.mono K.out.size));have H3:=O ho;clear bM ho B1 K N;go_wp2_with fail
 refine(zp [] none 0 0 _ (kN _ _) rfl (by decide)).mono ?_;rintro e w4 ⟨⟨A4,c4,rfl,I⟩,D⟩;rw[OH] at I;have B4:=O (B3.out.trans (D.mono B3.out.size));have H4:=O (el I);have C:=O (H3.out.below D);rw[OH,nG];clear D I B3 H3;go_wp2_with fail
 refine(fE A3 A4 15 15 c3 c4 (bw kV) (bw kV) w4 C.out H4.out nG nG).mono ?_;rintro e w5 ⟨rfl,rfl⟩;rw[beq_self_eq_true];go_wp2_with fail
 refine(uB _).mono ?_;rintro e w6 ⟨s6,rfl,dv,B,av,G⟩;have B6:=B4.out.trans (G.mono B4.out.size);have B7:=O (B6.alloc B6.size (OQ (eu s6).toArray 35));have gj:=O (Bs B);have eE:=O dv;have M:=O av;have dy:=O ((C.out.below G).below ((Below.refl _ _).alloc (Y _) (OQ (eu s6).toArray 35)));unfold fY;clear G B dv av B6 B4 H4 C;go_wp2_with fail
 refine(rX A3 15 c3 (bw kV) 0 _ 1 s6 _ eE.out dy.out (HT.out.below B7.out) (HS.out.below B7.out) nG (by decide) gj.out M.out JQ).mono ?_;rintro e w8 ⟨rfl,cE⟩;have B8:=O (B7.out.trans (cE.mono B7.out.size));clear cE;go_wp2_with fail
 go_ret;exact⟨rfl,B8.out⟩
def JB (h:Nat):a8:=⟨0,0,[],none,0,[⟨1,1,[],none,0,[⟨⟨2,8,0,0,0,0,[]⟩,[],none,0⟩],some ⟨h,0,none⟩,1⟩,⟨3,1,[],none,0,[],none,0⟩],some ⟨h+1,0,none⟩,3⟩
structure AB (w:World) (A:Option Addr) (g h:Nat) (W:World):Prop where
 be:Below w.heap.size w W
 bt:Sl W A ((bw kV).map ag)
 k4:ab W g 35 #[OJ OI 0,OJ OI 0,V none 0 0,V (some ⟨h+1,0,none⟩) 2 3]
 sh:fo W (JB h)
theorem AB.below {w:World}{A:Option Addr}{g h:Nat}{W B:World}(k:AB w A g h W)(j:Below W.heap.size W B):AB w A g h B:=⟨k.be.trans (j.mono k.be.size),k.bt.below j,k.k4.below j k.k4.lt,k.sh.below j⟩
theorem AB.alloc {w:World}{A:Option Addr}{g h:Nat}{W:World}(k:AB w A g h W)(o:Obj):AB w A g h (W.alloc o):=k.below ((Below.refl _ _).alloc (Y _) _)
def jD (j:List a8):List UInt8×Int:=if 100<(U j) then([],4) else if j.all (λs=>cN s.s) then(mw (j.map (·.s)),0) else([],2)
def rb (j:List a8) (w:World) (e:Ending) (w':World):Prop:=∃A c,e=OE (OR #[V A (jD j).1.length c,OJ OI (jD j).2])/\w'.ownsRow w.heap.size 5 1 (V A (jD j).1.length c) (jD j).1.length ((jD j).1.map ag)/\Below w.heap.size w w'
theorem lL.q {j:List a8}{w:World}{e:Ending}{w':World}(h:lL j w e w'):rb j w e w':=by
 obtain⟨v,er,rfl,C,(⟨rfl,B,h2,A,c,rfl,D⟩|⟨rfl,B,⟨s,G,h2⟩,rfl⟩|⟨rfl,B,rfl⟩)⟩:=h
 ·have e:jD j=(mw (j.map (·.s)),0):=by
   unfold jD;rw[if_neg (by omega),if_pos (ON.2 h2)]
  unfold rb
  rw[e]
  exact⟨A,c,rfl,D,C⟩
 ·have e:jD j=([],2):=by
   unfold jD;rw[if_neg (by omega),if_neg (by intro h;have:=ON.1 h s G;rw[h2] at this;cases this)]
  unfold rb
  rw[e]
  exact⟨none,0,rfl,OL _ _ _ _,C⟩
 ·have e:jD j=([],4):=by
   unfold jD;rw[if_pos B]
  unfold rb
  rw[e]
  exact⟨none,0,rfl,OL _ _ _ _,C⟩
theorem tO (D:List a8)(A:Option Addr)(n c:Nat)(w:World)(C:U D=n)(j:100<n):Calls OA 12 #[V A n c] w (lL D w):=by
 have B:decide ((100:Int)<(n:Int))=true:=by simp;omega
 have I:=O C;have G:=O j;clear C j
 go_enter Tryz.func12,Tryz.ntmps12
 go_wp2_with fail
 go_ret2;exact⟨_,_,rfl,Below.refl _ _,.inr (.inr ⟨rfl,by rw[I.out];exact G.out,rfl⟩)⟩
def Fd (n:Nat) (j:List a8):Prop:=(n<=4/\∀s∈j,eF s)\/100<n
theorem zT (j:List a8)(A:Option Addr)(n c:Nat)(w:World)(G:U j=n)(D:eV w A j)(B:Fd n j)(K:Tz w)(C:Ts w):Calls OA 12 #[V A n c] w (rb j w):=by
 rcases B with⟨M,B⟩|I
 ·exact(sK j A n c w G D B K C (tI (by omega)) (by omega)).mono λe w' h=>h.q
 ·exact(tO j A n c w G I).mono λe w' h=>h.q
def tn (b:UInt8):Value:=OJ OI ((b.toNat:Int) - 48)
structure oM (w0:World) (g:Nat) (v:Value) (L:List UInt8) (W:World):Prop where
 be:Below w0.heap.size w0 W
 pn:ab W g 63 #[v]
 lo:w0.heap.size<=g
 row:W.ownsRow w0.heap.size 3 1 v (U L) (L.map tn)
theorem oM.below {C:World}{g:Nat}{v:Value}{L:List UInt8}{W B:World}(h:oM C g v L W)(j:Below W.heap.size W B):oM C g v L B:=⟨h.be.trans (j.mono h.be.size),h.pn.below j h.pn.lt,h.lo,bL h.row j (Y _)⟩
theorem Io {G:World}{g:Nat}{v B:Value}{L:List UInt8}{c:UInt8}{W C:World}(h:oM G g v L W)(K:C.ownsRow G.heap.size 3 1 B (U L+1) (L.map tn++[tn c]))(I:W.grownBy C v.ownBlock):
  ab C g 63 #[v]/\oM G g B (L++[c]) (C.setCell ⟨g,0,none⟩ B):=by
 have D:=h.pn.grown I (ba h.row h.pn (by decide));have j:=D.set_ 0 B;simp only[Z,J] at j;refine⟨D,(kC h.be h.row I h.be.size (Y _)).setCell (p:=⟨g,0,none⟩) h.lo _,j,h.lo,?_⟩;have h2:=ek K ⟨g,0,none⟩ B (ba K D (by decide));rw[OK,List.length_singleton,List.map_append,OB];exact h2
theorem CL (w0:World)(g:Nat)(v:Value)(L M:List UInt8)(w:World)(hp:oM w0 g v L w)(hM:∀c∈M,c=48\/c=49) (hl:U L+U M<=16777216):
  Calls OA 33 #[.pointer (some ⟨g,0,none⟩),.string (bs M)] w λe w'=>e=OE (OJ OI 0)/\∃v',oM w0 g v' (L++M) w':=by
 have HP:=O hp;have HM:=O hM;clear hp hM
 go_enter Tryz.func33,Tryz.ntmps33
 go_wp2_with fail
 go_loopg [5] (U M) (λgk i=> λwr=>∃(j:Nat),j+gk=U M/\i=OJ OI (j:Int)/\w=wr)
 case atStart=>exact⟨0,by omega,rfl,rfl⟩
 case round=>
  obtain⟨j,hj,rfl,rfl⟩:=hrel
  cases gk with
  |succ gk=>
   have dy:((j:Int)<(U M:Int)):=(by omega);have G:j<(U M):=(by omega);have C:=HM.out M[j] (OO G);rcases C with C|C
   ·have q1:((M[j].toNat:Int) !=48)=false:=by rw[C];rfl
    clear C;go_wp2_with fail
    go_roundg gk
    case measure=>omega
    case rel=>exact⟨j+1,by omega,rfl,rfl⟩
   ·have q1:((M[j].toNat:Int) !=48)=true:=by rw[C];rfl
    have q3:((M[j].toNat:Int) !=49)=false:=(by rw[C];rfl);clear C;go_wp2_with fail
    go_roundg gk
    case measure=>omega
    case rel=>exact⟨j+1,by omega,rfl,rfl⟩
  |zero=>
   obtain rfl:j=(U M):=by omega
   have dy:¬((U M:Int)<(U M:Int)):=(by omega);obtain⟨A,c,hv⟩:=bg HP.out.row;subst hv;have z0:=HP.out.pn.cell 0;(try dsimp only at z0);have Hu:OM.wrap ((U L:Int)+(U M:Int))=(U L:Int)+(U M:Int):=(by rw[OG];omega);have kU:¬((16777216:Int)<(U L:Int)+(U M:Int)):=(by omega);have HL:=O hl;clear hl;go_wp2_with fail
   clear z0
   go_loopg [6] (U M) (λgk i=> λwr=>∃(j:Nat)(v:Value),j+gk=U M/\i=OJ OI (j:Int)/\Hid (oM w0 g v (L++M.take j) wr))
   case atStart=>exact⟨0,_,by omega,rfl,by rw[List.take_zero,OH];exact HP⟩
   case round=>
    obtain⟨j,v,hj,rfl,D⟩:=hrel
    cases gk with
    |zero=>
     have dv:j=(U M):=(by omega);have dO:¬((j:Int)<(U M:Int)):=(by omega);have iP:=O dv;clear hj dv dy;go_wp2_with fail
     go_ret;refine⟨rfl,v,?_⟩;have h:=D.out;rw[List.take_of_length_le (by rw[iP.out];exact Y _)] at h;exact h
    |succ gk=>
     have dO:((j:Int)<(U M:Int)):=(by omega);have G:j<(U M):=(by omega);obtain⟨A,c,hv⟩:=bg D.out.row;subst hv;have C:=HM.out M[j] (OO G);obtain⟨b,hb⟩:∃b,M[j]=b:=⟨_,rfl⟩;have fJ:L++M.take (j+1)=(L++M.take j)++[b]:=(by rw[List.take_add_one,List.getElem?_eq_getElem G,hb,List.append_assoc];rfl);have T:=O fJ;have HJ:=O hj;obtain⟨X,hX⟩:∃X,L++M.take j=X:=⟨_,rfl⟩;have bM:U X+1<=16777216:=(by rw[<-hX,OK,OP];have:=HL.out;omega);rw[hX] at D T;have jg:=O bM
     have eE:IntKind.u8.wrap ((b.toNat:Int) - 48)=(b.toNat:Int) - 48/\0<=(b.toNat:Int) - 48/\(b.toNat:Int) - 48<=1:=by
      rw[hb] at C;rcases C with rfl|rfl
      ·exact⟨by decide,by decide,by decide⟩
      ·exact⟨by decide,by decide,by decide⟩
     obtain⟨rG,Hl,Ht⟩:=eE;have kA:OM.wrap ((b.toNat:Int) - 48)=(b.toNat:Int) - 48:=(by rw[OG];omega);have JT:OM.wrap ((j:Int)+1)=(j:Int)+1:=(by have:=HL.out;rw[OG];omega);have K:=O (D.out.below (Below.refl _ _).drew);clear fJ hX bM hj;go_wp2_with fail
     refine aP (λw'=>ab w' g 63 #[V A (U X) c]) 12 (OF 0 (OF 1 (OF 2 (OF 3 (OF 4 (OF 5 (OF 6 (OF 7 (OF 8 (OF 9 (.step 10 (.step 11 .done)))))))))))) (K.out.pn) (λPE av=>?_)
     iterate 10
      refine af (v:=?_) rfl (by rfl) ?_ ?_
      rotate_left
      ·intro _ aJ;(try dsimp only at aJ);have a0:=aJ.cell 0;(try dsimp only at a0);go_simp;(try with_reducible rfl)
      simp only[Z,J,OD]
     refine aj (v:=?_) (w':=?_) rfl (by rfl) ?_ ?_ ?_;rotate_left 2
     ·go_simp;(try (constructor<;>with_reducible rfl))
     ·exact K.out.pn.alloc _
     simp only[Z,J,OD];have cE:Below wr.drew.heap.size wr.drew (wr.drew.alloc (OQ #[OJ OI ((b.toNat:Int) - 48)] 3)):=(Below.refl _ _).alloc (Y _) _;have I:=O (K.out.below cE);refine pZ jx rfl (by rfl) rfl rfl I.out.row rfl (news:=[tn b]) (m:=1) (by have h:=ab.sl (ab.new wr.drew 3 #[tn b]) 0;exact h) rfl (by intro u hu;rw[OC] at hu;subst hu;rfl) (by have:=jg.out;omega) I.out.be.size ?_;intro v9 w9 N cI;obtain⟨Ax,cx,jY⟩:=bg N;subst jY;have B:=Io I.out N cI;have gj:=O B;refine⟨B.1,?_⟩;simp only[Z,J,OD];refine av _ _ ?_;clear av PE;simp only[List.drop_succ_cons,List.drop_zero];have x0:=B.1.cell 0;have y0:=B.1.frozen 0;(try dsimp only at x0 y0);clear N cI B cE;go_wp2_with fail
     refine⟨rfl,?_⟩;go_wp2_with fail
     go_roundg gk
     case measure=>omega
     case rel=>exact⟨j+1,_,by have:=HJ.out;omega,rfl,by rw[T.out];exact O gj.out.2⟩
end Go.Proofs.YthhijgcfbjcgiaaGreatDoor
