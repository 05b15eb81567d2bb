/- Wr, PutS, One21, Kn21P, Known21 -/
import Derived.Test.YthhijgcfbjcgiaaGreatDoorQ47
import Derived.Test.YthhijgcfbjcgiaaGreatDoorQ45
namespace Go.Proofs.YthhijgcfbjcgiaaGreatDoor
section
open Go Go.RowKit
attribute [local go_sem] Oper.semAt_some
set_option maxHeartbeats 16000000
set_option maxRecDepth 100000
open Go.Lib renaming hid→O
open List renaming length→U,length_append→X,append_assoc→J,length_map→OA,append_nil→OE,mem_singleton→OF,take_of_length_le→OH,mem_cons→OI,cons_append→OL,take_zero→ON,drop_eq_getElem_cons→OO,getElem_mem→OP,mem_map→OQ,mem_nil_iff→OR,nil_append→OS,take_append_drop→OU,getElem_map→OW,map_append→OX
open Go.IntKind renaming i64→Z,wrap_i64→OK,i64→OT
open Go.Value renaming int→V,slice→Y,pointer→OM,bool→OV,string→Ob
open Nat renaming le_refl→OB,not_lt_zero→OY
open Tryz renaming prog→OC,ntmps12→OZ,func12→Oa
open Go.Obj renaming cells→OD
open Go.Ending renaming returned→OG
open Bool renaming and_eq_true→OJ
def gF:bi->List aT->bi
 |x,[]=>x
 |_,m::ms=>gF (ed m) ms
theorem uZ:∀(ms:List aT)(x:bi)(m:aT),gF x (ms++[m])=ed m
 |[],_,_=>rfl
 |_::ms,_,m=>uZ ms _ m
theorem sN:∀(ms:List aT)(x:bi)(m:aT),cO x (ms++[m])=cO x ms++(bd.getD (m.ad - (gF x ms).ad).toNat []++fB m (gF x ms))
 |[],x,m=>by rw[OS,cO,cO,cO,OE,OS];rfl
 |a::ms,x,m=>by rw[OL,cO,sN ms _ m,cO,gF];simp only[J]
theorem pq:∀(a b:List ig),dd (a++b)=dd a++dd b
 |[],_=>rfl
 |g::a,b=>by rw[OL,dd,dd,pq a b,J]
theorem u7:∀(a b:List aT)(x:bi),cO x (a++b)=cO x a++cO (gF x a) b
 |[],_,_=>rfl
 |m::a,b,x=>by rw[OL,cO,cO,u7 a b,gF,J,J]
theorem BA {f g:Int}:∀(ms:List aT)(x:bi)(j:Nat)(C:j<U ms),0<=x.ad->(∀ad,x.ad<ad->cu x ad=true)->fC f g x.ad ms=true->
  0<=(gF x (ms.take j)).ad/\(gF x (ms.take j)).ad<ms[j].ad/\ms[j].ad<=33/\sQ ms[j] (gF x (ms.take j))=(fB ms[j] (gF x (ms.take j)),0)
 |[],_,j,C,_,_,_=>absurd C (OY _)
 |m::ms,x,0,_,h0,hx,h=>by
  obtain⟨B,h2,_,_⟩:=mR h;have D:=(jY _).1 B;simp only[ON,gF,List.getElem_cons_zero];refine⟨h0,h2,D.a2,?_⟩;unfold sQ;rw[B,hx _ h2];rfl
 |m::ms,x,j+1,C,h0,hx,h=>by
  obtain⟨B,h2,_,G⟩:=mR h;have D:=(jY _).1 B;simp only[List.take_succ_cons,gF,List.getElem_cons_succ];rw[<-kC m] at G;exact BA ms (ed m) j (by simpa using C) (by rw[kC];omega) (λad h=>DU D (by rw[kC] at h;exact h)) G
theorem GA {C W:World}{h k:Nat}{L:List UInt8}{t:TypeId}{cs:Array Value}(M:ea C h L W)(D:ab W k t cs)(G:t≠95)(h2:t≠5)(N:C.heap.size<=k)(i:Nat)(v:Value):ea C h L (W.setCell ⟨k,i,none⟩ v):=by
 obtain⟨u,K⟩:=M;obtain⟨I,j,B⟩:=K;exact⟨u,I.setCell (p:=⟨k,i,none⟩) N v,aa.cons (j.head.far (p:=⟨k,i,none⟩) (aU j.head D (Ne.symm G)) v) (ag _),br B D (by intro r B;rw[OF] at B;subst B;exact Ne.symm h2) i v⟩
theorem ea.be {j W:World}{h:Nat}{L:List UInt8}(C:ea j h L W):Below j.heap.size j W:=by
 obtain⟨u,B⟩:=C;exact B.1
theorem ea.pn {C W:World}{h:Nat}{L:List UInt8}(B:ea C h L W):∃cs,ab W h 95 cs:=by
 obtain⟨u,j⟩:=B;exact⟨_,j.2.1.head⟩
theorem wG (B:World)(h I:Nat)(L s:List UInt8)(er:Int)(M:de s)(hl:U L+U s<=16777216)(N:B.heap.size<=h)(w:World)(K:ea B h L w)(j:ab w I 56 #[OM (some ⟨h,0,none⟩)]):
  Calls OC 57 #[Ob (bs s),V Z er,OM (some ⟨I,0,none⟩)] w λe w'=>(∃u,e=OG u)/\ea B h (L++s) w'/\PB h w w':=by
 have T:=j.cell 0;(try dsimp only at T);have C:=O (vl B h L s M hl N w K);clear K j M hl
 go_enter Tryz.func57,Tryz.ntmps57
 go_wp2_with (go_at_call 58;refine C.out.mono ?_;rintro e w2 ⟨rfl,D,G⟩)
 exact bodyPost_end (results_none rfl _ _ _) rfl ⟨⟨_,rfl⟩,D,G⟩
structure lg (w0:World) (h b:Nat) (L:List UInt8) (W:World):Prop where
 pen:ea w0 h L W
 bx:ab W b 56 #[OM (some ⟨h,0,none⟩)]
theorem lg.below {C:World}{h b:Nat}{L:List UInt8}{W j:World}(k:lg C h b L W)(B:Below W.heap.size W j):lg C h b L j:=⟨k.pen.below B,k.bx.below B k.bx.lt⟩
theorem lg.ne {D:World}{h b g:Nat}{L:List UInt8}{W:World}{t:TypeId}{cs:Array Value}(k:lg D h b L W)(B:ab W g t cs)(ht:t≠95):g≠h:=by
 obtain⟨j,C⟩:=k.pen.pn;exact aU B C ht
theorem lg.pb {B:World}{h b:Nat}{L C:List UInt8}{W j:World}(k:lg B h b L W)(G:ea B h C j)(D:PB h W j):lg B h b C j:=⟨G,D.blk _ _ _ (k.ne k.bx (by decide)) (by decide) k.bx⟩
theorem lg.off {j:World}{h b g:Nat}{L:List UInt8}{W:World}{t:TypeId}{cs:Array Value}(k:lg j h b L W)(B:ab W g t cs)(C:t≠95)(h2:t≠5)(D:t≠56)(G:j.heap.size<=g)(i:Nat)(v:Value):lg j h b L (W.setCell ⟨g,i,none⟩ v):=
 ⟨GA k.pen B C h2 G i v,k.bx.far (p:=⟨g,i,none⟩) (aU k.bx B (Ne.symm D)) v⟩
structure o8 (w0:World) (h b g:Nat) (x:bi) (L:List UInt8) (W:World):Prop where
 wr:lg w0 h b L W
 la:ab W g 102 (jm x)
theorem o8.below {C:World}{h b g:Nat}{x:bi}{L:List UInt8}{W j:World}(k:o8 C h b g x L W)(B:Below W.heap.size W j):o8 C h b g x L j:=⟨k.wr.below B,k.la.below B k.la.lt⟩
theorem o8.pb {B:World}{h b g:Nat}{x:bi}{L C:List UInt8}{W j:World}(k:o8 B h b g x L W)(G:ea B h C j)(D:PB h W j):o8 B h b g x C j:=⟨k.wr.pb G D,D.blk _ _ _ (k.wr.ne k.la (by decide)) (by decide) k.la⟩
theorem o8.last {B:World}{h b g:Nat}{x:bi}{L:List UInt8}{W:World}(k:o8 B h b g x L W)(j:B.heap.size<=g)(y:bi):o8 B h b g y L ((((W.setCell ⟨g,0,none⟩ (V Z y.ad)).setCell ⟨g,1,none⟩ (OV y.had)).setCell ⟨g,2,none⟩ (V Z y.x)).setCell ⟨g,3,none⟩ (V Z y.y)):=by
 have C:=k.la.set_ 0 (V Z y.ad);have D:=C.set_ 1 (OV y.had);have G:=D.set_ 2 (V Z y.x);have N:=G.set_ 3 (V Z y.y);have I:=k.wr.off k.la (by decide) (by decide) (by decide) j 0 (V Z y.ad);have K:=I.off C (by decide) (by decide) (by decide) j 1 (OV y.had);have M:=K.off D (by decide) (by decide) (by decide) j 2 (V Z y.x);have k4:=M.off G (by decide) (by decide) (by decide) j 3 (V Z y.y);refine⟨k4,?_⟩;unfold jm at*
 simpa using N
theorem Cq (gs:List ig)(j:Nat)(B:j<U gs):dd gs=dd (gs.take j)++(nd gs[j]++dd (gs.drop (j+1))):=by
 have h:gs=gs.take j++gs[j]::gs.drop (j+1):=by rw[<-OO B,OU]
 conv=>lhs;rw[h]
 rw[pq,dd]
theorem Cv (ms:List aT)(j:Nat)(B:j<U ms):cO co ms=cO co (ms.take j)++(bd.getD (ms[j].ad - (gF co (ms.take j)).ad).toNat []++(fB ms[j] (gF co (ms.take j))++cO (ed ms[j]) (ms.drop (j+1)))):=by
 have h:ms=ms.take j++ms[j]::ms.drop (j+1):=by rw[<-OO B,OU]
 conv=>lhs;rw[h]
 rw[u7,cO]
theorem qi {α:Type}(l:List α)(j:Nat)(B:j<U l):l.take (j+1)=l.take j++[l[j]]:=by
 rw[List.take_add_one,List.getElem?_eq_getElem B];rfl
theorem xC {f:Int}:∀(ns:List Int)(gs:List ig)(j:Nat)(B:j<U gs),fA f ns gs=true->∃n,n∈ns/\kU f n gs[j]=true
 |_,[],j,B,_=>absurd B (OY _)
 |[],_::_,_,_,h=>by cases h
 |n::ns,g::gs,0,_,h=>by
  rw[fA,OJ] at h;exact⟨n,List.mem_cons_self ..,h.1⟩
 |n::ns,g::gs,j+1,B,h=>by
  rw[fA,OJ] at h;obtain⟨m,C,h2⟩:=xC ns gs j (by simpa using B) h.2;exact⟨m,List.mem_cons_of_mem _ C,h2⟩
theorem Ga {f n:Int}(h:n∈aJ f):1<=n/\n<=15:=by
 unfold aJ at h
 split at h<;>simp only[OI,OR,or_false] at h<;>omega
theorem yI (w0:World)(h:Nat)(L:List UInt8)(s:bu)(hs:ii w0 s)(hS:iZ s)(hT:Tz w0)(LR:Ts w0)(KU:ef s.s=true)(hl:U L+(gv s.s).length<=16777216)(hh:w0.heap.size<=h)(w:World)(hp:ea w0 h L w):
  Calls OC 31 #[OM (some ⟨h,0,none⟩),iF s] w λe w'=>(∃u,e=OG u)/\ea w0 h (L++gv s.s) w':=by
 obtain⟨tm,ty,sp,sA,sc,gs,A,c⟩:=s;obtain⟨aB,KH,Lw⟩:=hs;obtain⟨Me,Mf,LF⟩:=hS;dsimp only at aB KH Lw Me Mf LF;unfold bu.s at KU hl⊢;unfold iF;dsimp only at KU hl⊢;obtain⟨Lx,Lv⟩:=nY KU;dsimp only at Lx Lv;unfold gv at hl⊢;dsimp only at hl⊢;have LO:=O KH;have Mo:=O Lw;have Mv:=O LF;have LP:=O hT;have Mw:=O LR;have Lg:=O hl;have Mn:=O Lv;have HH:=O hh;have KY:L++(fK 0++(oS ⟨tm,ty,sp⟩++dd (gs.map (·.g))))=((L++fK 0)++oS ⟨tm,ty,sp⟩)++dd (gs.map (·.g)):=by simp only[J]
 have K9:((L++fK 0)++oS ⟨tm,ty,sp⟩).length+(dd (gs.map (·.g))).length<=16777216:=by have:=hl;simp only[X] at this⊢;omega
 rw[KY];obtain⟨L1,Ll⟩:∃L1,(L++fK 0)++oS ⟨tm,ty,sp⟩=L1:=⟨_,rfl⟩;rw[Ll] at K9⊢;have Ms:=O Ll;have LK:=O K9;clear KY K9 Ll;have C1:=O (λW=>qN 0 (by decide) W);have C2:=O (λW (hb:Below w0.heap.size w0 W)=>IC tm ty sp sA (U sp) sc W (aB.below hb) rfl Lx);simp only[Int.natCast_zero] at C1;obtain⟨b,hb⟩:∃b,w.heap.size=b:=⟨_,rfl⟩;have CW:=O (λ(M s:List UInt8) (er:Int) W (k:lg w0 h b M W) (hs:de s) (hl:U M+U s<=16777216)=>wG w0 h b M s er hs hl hh W k.pen k.bx);have LY:lg w0 h b L ((w.alloc (OD #[OM (some ⟨h,0,none⟩)] 56)).alloc (OD #[V Z tm,V Z ty,Y sA (U sp) sc,Y A (U gs) c] 35)):=⟨(hp.below ((Below.refl _ _).alloc (OB _) _)).below ((Below.refl _ _).alloc (OB _) _),(aH (ab.new _ _ _) hb).alloc _⟩;have L8:ab ((w.alloc (OD #[OM (some ⟨h,0,none⟩)] 56)).alloc (OD #[V Z tm,V Z ty,Y sA (U sp) sc,Y A (U gs) c] 35)) (b+1) 35 #[V Z tm,V Z ty,Y sA (U sp) sc,Y A (U gs) c]:=aH (ab.new _ _ _) (by simp[hb]);have Ip:=O LY;have gJ:=O L8;have MP:∀(fn:Fn)(first LQ:Array Value)(w:World),(Instr.makeFunc fn first LQ).run OC w= .ok (.func fn first LQ) w:= λ_ _ _ _=>rfl;obtain⟨k,hk⟩:∃k,U sp=k:=⟨_,rfl⟩;obtain⟨n,hn⟩:∃n,U gs=n:=⟨_,rfl⟩;have HN:=O hn;rw[hk,hn] at Ip gJ;rw[hk] at C2;rw[hk,hn];rw[hn] at Mf;clear aB KH Lw Me LF hT LR KU hl hh Lx Lv LY L8 hn hk hp
 go_enter Tryz.func31,Tryz.ntmps31
 go_wp2_with (go_at_call 59;refine(C1.out _).mono ?_;rintro e w1 ⟨rfl,rfl⟩)
 refine(CW.out L (fK 0) 0 _ Ip.out (nV _) (by have:=Lg.out;simp only[X] at this;omega)).mono ?_;rintro e w2 ⟨⟨u2,rfl⟩,M8,Ln⟩;have Ld:=O (Ip.out.pb M8 Ln);have dY:=Ln.blk _ _ _ (Ip.out.ne gJ.out (by decide)) (by decide) gJ.out;have K1:=O dY;have y0:=dY.cell 0;have y1:=dY.cell 1;have y2:=dY.cell 2;(try dsimp only at y0 y1 y2);clear M8 Ln dY Ip gJ;go_wp2_with (go_at_call 60;refine(C2.out _ Ld.out.pen.be).mono ?_;rintro e w3 ⟨rfl,Lo⟩;have KK:=O (Ld.out.below Lo);have K2:=O (K1.out.below Lo K1.out.lt);clear Lo)
 have LT:de (oS ⟨tm,ty,sp⟩):=(ek _ _).app ((ek _ _).app (l5 _));refine(CW.out (L++fK 0) (oS ⟨tm,ty,sp⟩) 0 _ KK.out LT (by have:=Lg.out;simp only[X] at this⊢;omega)).mono ?_;rintro e w4 ⟨⟨u4,rfl⟩,M9,Lp⟩;have LH:=O (KK.out.pb M9 Lp);have L9:=Lp.blk _ _ _ (KK.out.ne K2.out (by decide)) (by decide) K2.out;have y3:=L9.cell 3;(try dsimp only at y3);have Lz:=LH.out;rw[Ms.out] at Lz;have Mq:=O Lz;clear M9 Lp L9 LT Lz Ld KK LH K1 K2 Lg C1 C2 y0 y1 y2;go_wp2_with fail
 go_loopg [26] n (λgk i=> λwr=>∃(j:Nat),j+gk=n/\i=V Z (j:Int)/\Hid (lg w0 h b (L1++dd ((gs.map (·.g)).take j)) wr))
 case atStart=>exact⟨0,by omega,rfl,O (by rw[ON,dd,OE];exact Mq.out)⟩
 case round=>
  obtain⟨j,hj,rfl,HK⟩:=hrel
  cases gk with
  |zero=>
   have MD:¬((j:Int)<(n:Int)):=(by omega);have hk:=HK.out;rw[OH (by rw[OA,HN.out];omega)] at hk;have Lf:=O hk;clear hk hj;go_wp2_with fail
   exact bodyPost_end (results_none rfl _ _ _) rfl ⟨⟨_,rfl⟩,Lf.out.pen⟩
  |succ go=>
   have MD:((j:Int)<(n:Int)):=(by omega);have MO:¬((j:Int)<0):=(by omega);have KQ:j<(U gs):=(by rw[HN.out];omega);have KR:j<(gs.map (·.g)).length:=(by rw[OA];exact KQ);have MQ:OT.wrap ((j:Int)+1)=(j:Int)+1:=(by rw[OK];omega);obtain⟨ad,rfl,_,c0,c1,c2,c3⟩:=nL (LO.out.below HK.out.pen.be) j KQ;have B:=OP KQ;obtain⟨nm,M7,wj⟩:=xC _ _ j KR Mn.out;have aB:=Cq (gs.map (·.g)) j KR;have Io:=qi (gs.map (·.g)) j KR;rw[OW] at wj aB Io;obtain⟨G,hG⟩:∃G,gs[j]=G:=⟨_,rfl⟩;rw[hG] at B c0 c1 c2 c3 wj aB Io;have Mz:=Mo.out _ B;have MF:=Mv.out _ B;obtain⟨num,qu,C,gA,gc,ms,mA,mc⟩:=G;rw[show (⟨num,qu,C,gA,gc,ms,mA,mc⟩:cJ).g=⟨num,qu,C,ms.map (·.m)⟩ from rfl] at wj aB Io;dsimp only at c0 c1 c2 c3 wj aB Io;obtain⟨L6,LD,LE,gy,fW⟩:=od wj;dsimp only at L6 LD LE gy fW;obtain⟨ME,M6⟩:=Ga M7;subst L6;obtain⟨N,rfl⟩:=Int.eq_ofNat_of_zero_le (by omega:0<=num);obtain⟨K8,eE,Kr⟩:=Mz;obtain⟨_,L4,KF⟩:=MF;dsimp only at K8 eE Kr L4 KF
   have D:(L1++dd ((gs.map (·.g)).take j)).length+(nd ⟨(N:Int),qu,C,ms.map (·.m)⟩).length<=16777216:=by
    have:=LK.out;rw[aB] at this;simp only[X] at this⊢;omega
   have I:(L1++dd ((gs.map (·.g)).take j))++nd ⟨(N:Int),qu,C,ms.map (·.m)⟩=L1++dd ((gs.map (·.g)).take (j+1)):=by
    rw[Io,pq,dd,dd,OE,J]
   generalize L1++dd ((gs.map (·.g)).take j)=M at HK D I;unfold nd at D I;dsimp only at D I;have J2:=O D;have LN:=O I;have HJ:=O hj;have Lj:=O eE;have KW:=O Kr;have Mt:=O KF;have Mu:=O fW;have KZ:iX qu (U C)=true:=(by unfold iX;simp only[OJ,decide_eq_true_eq];exact⟨⟨LD,LE⟩,gy⟩);have CG:=O (λW (h:Below w0.heap.size w0 W)=>zz N qu C gA (U C) gc W (K8.below h) rfl (by omega) (by omega) KZ);have K6:de (fK (N:Int)++(aD qu.toNat 5++fu C)):=(nV _).app ((ek _ _).app (l5 _));have LZ:U M+(fK (N:Int)++(aD qu.toNat 5++fu C)).length<=16777216:=(by simp only[X] at D⊢;omega);have La:=O (λW (k:lg w0 h b M W)=>CW.out M _ 0 W k K6 LZ);have dt:=(Below.refl _ wr).alloc (OB _) (OD #[V Z (N:Int),V Z qu,Y gA (U C) gc,Y mA (U ms) mc] 51);obtain⟨My,LX⟩:∃g,wr.heap.size=g:=⟨_,rfl⟩;have LV:ab (wr.alloc (OD #[V Z (N:Int),V Z qu,Y gA (U C) gc,Y mA (U ms) mc] 51)) My 51 #[V Z (N:Int),V Z qu,Y gA (U C) gc,Y mA (U ms) mc]:=aH (ab.new _ _ _) LX;have kz:=O (HK.out.below dt);have KJ:=O LV;obtain⟨sk,LG⟩:∃k,U C=k:=⟨_,rfl⟩;obtain⟨mn,KT⟩:∃k,U ms=k:=⟨_,rfl⟩;have LL:=O KT;rw[LG] at c2 CG;rw[KT] at c3 L4;rw[LG,KT] at kz KJ;obtain⟨KV,KI⟩:∃t,fK (N:Int)++(aD qu.toNat 5++fu C)=t:=⟨_,rfl⟩;rw[KI] at CG La;have K3:=O KI;clear B M7 wj aB Io hG KQ KR fW K8 eE Kr KF ME M6 D I hj K6 LZ dt LV LG KT LD LE gy KZ KI HK;go_wp2_with (go_at_call 61;refine(CG.out _ kz.out.pen.be).mono ?_;rintro e w5 ⟨rfl,rfl⟩)
   refine(La.out _ kz.out).mono ?_;rintro e w6 ⟨⟨u6,rfl⟩,Ma,Lq⟩;have Le:=O (kz.out.pb Ma Lq);have KO:=Lq.blk _ _ _ (kz.out.ne KJ.out (by decide)) (by decide) KJ.out;have Ml:=O KO;have K4:=(Below.refl _ w6).alloc (OB _) (OD #[V Z 0,OV false,V Z 0,V Z 0] 102);have LW:=KO.below K4 KO.lt;have z3:=LW.cell 3;(try dsimp only at z3);obtain⟨gl,Lu⟩:∃g,w6.heap.size=g:=⟨_,rfl⟩;have M5:o8 w0 h b gl co (M++KV) (w6.alloc (OD #[V Z 0,OV false,V Z 0,V Z 0] 102)):=⟨Le.out.below K4,aH (ab.new _ _ _) Lu⟩;have Lh:=O M5;have Mm:Hid (w0.heap.size<=gl):=O (by rw[<-Lu];exact Le.out.pen.be.size);clear Ma Lq KO K4 LW M5 kz KJ CG La;go_wp2_with fail
   generalize w6.alloc (OD #[V Z 0,OV false,V Z 0,V Z 0] 102)=w7 at Lh z3⊢;clear Lu Le Ml z3 c0 c1 c2 c3;have K0:Hid ((M++KV).length+(cO co (ms.map (·.m))).length<=16777216):=O (by have:=J2.out;rw[<-K3.out];simp only[X] at this⊢;omega);have KX:Hid ((M++KV)++cO co (ms.map (·.m))=L1++dd ((gs.map (·.g)).take (j+1))):=O (by rw[<-LN.out,<-K3.out];simp only[J]);generalize M++KV=M2 at K0 KX Lh;clear J2 LN K3
   go_loopg [44] mn (λgk i=> λwr=>∃(j:Nat),j+gk=mn/\i=V Z (j:Int)/\Hid (o8 w0 h b gl (gF co ((ms.map (·.m)).take j)) (M2++cO co ((ms.map (·.m)).take j)) wr))
   case atStart=>exact⟨0,by omega,rfl,O (by rw[ON,cO,OE];exact Lh.out)⟩
   case round=>
    obtain⟨K,Ly,rfl,KM⟩:=hrel
    cases gk with
    |zero=>
     have M0:¬((K:Int)<(mn:Int)):=(by omega);have hk:=KM.out;rw[OH (by rw[OA,LL.out];omega),KX.out] at hk;have Lf:=O hk.wr;clear hk Ly;go_wp2_with fail
     go_roundg go
     case measure=>omega
     case rel=>exact⟨j+1,by have:=HJ.out;omega,rfl,Lf⟩
    |succ gi=>
     have M0:((K:Int)<(mn:Int)):=(by omega);have MJ:¬((K:Int)<0):=(by omega);have hU:K<(U ms):=(by rw[LL.out];omega);have ja:K<(ms.map (·.m)).length:=(by rw[OA];exact hU);have ML:OT.wrap ((K:Int)+1)=(K:Int)+1:=(by rw[OK];omega);have Lt:=KM.out.wr.pen.be;obtain⟨am,rfl,_,d0,d1,d2,d3,d4,d5,d6⟩:=nM (Lj.out.below Lt) K hU;have B:=OP hU;have KG:=BA (ms.map (·.m)) co K ja (by decide) (λad h=>zh h) Mu.out;have bE:=Cv (ms.map (·.m)) K ja;have cz:=qi (ms.map (·.m)) K ja;rw[OW] at KG bE cz;obtain⟨⟨m,xs,Am,cm⟩,hm⟩:∃m,ms[K]=m:=⟨_,rfl⟩;rw[hm] at B KG bE cz d0 d1 d2 d3 d4 d5 d6;dsimp only at KG bE cz d0 d1 d2 d3 d4 d5 d6;have KC:=(KW.out _ B).below Lt;have L5:=Mt.out _ B;have hk:=KM.out;have Mh:gF co ((ms.map (·.m)).take (K+1))=ed m:=(by rw[cz];exact uZ _ _ _);have KE:cO co ((ms.map (·.m)).take (K+1))=cO co ((ms.map (·.m)).take K)++(bd.getD (m.ad - (gF co ((ms.map (·.m)).take K)).ad).toNat []++fB m (gF co ((ms.map (·.m)).take K))):=(by rw[cz];exact sN _ _ _);obtain⟨x,hx⟩:∃x,gF co ((ms.map (·.m)).take K)=x:=⟨_,rfl⟩;rw[hx] at KG bE hk KE
     have LB:(M2++cO co ((ms.map (·.m)).take K)).length+(bd.getD (m.ad - x.ad).toNat []).length+(fB m x).length<=16777216:=by
      have:=K0.out;rw[bE] at this;simp only[X] at this⊢;omega
     obtain⟨M3,Lm⟩:∃M3,M2++cO co ((ms.map (·.m)).take K)=M3:=⟨_,rfl⟩;have L0:M2++cO co ((ms.map (·.m)).take (K+1))=(M3++bd.getD (m.ad - x.ad).toNat [])++fB m x:=(by rw[KE,<-Lm];simp only[J]);rw[Lm] at hk LB;obtain⟨MH,MI,M4,L7⟩:=KG;have Md:pP (m.ad - x.ad)=(bd.getD (m.ad - x.ad).toNat [],0):=(by unfold pP;rw[if_neg (by omega)]);have K5:de (bd.getD (m.ad - x.ad).toNat []):=xa _;have CA:=O (λW (hT:Tz W)=>zg (m.ad - x.ad) W hT (by omega));rw[Md] at CA;dsimp only at CA;have MG:OT.wrap (m.ad - x.ad)=m.ad - x.ad:=(by rw[OK];omega);generalize bd.getD (m.ad - x.ad).toNat []=cd at*;have Mi:m.bl=xs.map (·.1):=KC.e;have CM:=O (λW (hb:Below w0.heap.size w0 W) (hT:Tz W) (hs:Ts W)=>Eq m x xs Am cm W Mi (((KW.out _ B).below hb).bks L5) hT hs);rw[L7] at CM;have CF:=O (λW=>qQ m Am (U xs) cm W);unfold fI dK at CM;unfold fI at CF;dsimp only at CM;have LU:de (fB m x):=uE m x;have Mx:=O Mh;have LM:=O L0;have LJ:=O LB;have Mj:=O K5;have Mk:=O LU;have MN:=O MG;have Mp:=O Ly;have MM:=O hk;obtain⟨xl,Mg⟩:∃n,U xs=n:=⟨_,rfl⟩;rw[Mg] at CM CF d6;have dt:=(Below.refl _ wr).alloc (OB _) (OD #[V Z m.ad,V Z m.kd,V Z m.qu,V Z m.x,V Z m.y,V Z m.pa,Y Am xl cm] 55);obtain⟨g9,MC⟩:∃g,wr.heap.size=g:=⟨_,rfl⟩;have rX:ab (wr.alloc (OD #[V Z m.ad,V Z m.kd,V Z m.qu,V Z m.x,V Z m.y,V Z m.pa,Y Am xl cm] 55)) g9 55 #[V Z m.ad,V Z m.kd,V Z m.qu,V Z m.x,V Z m.y,V Z m.pa,Y Am xl cm]:=aH (ab.new _ _ _) MC;have Lc:=O rX;have LA:=hk.below dt;have Iq:=O LA;have LC:=LA.la;unfold jm at LC;have l0:=LC.cell 0;(try dsimp only at l0);clear Lt B bE cz hm KC L5 hk Mh KE hx LB Lm L0 MH MI M4 L7 Md K5 Mi LU Mg dt rX LA LC hU ja Ly KM;go_wp2_with (go_at_call 62;refine(CA.out _ (LP.out.below Iq.out.wr.pen.be)).mono ?_;rintro e w8 ⟨rfl,Lr⟩;have KL:=O (Iq.out.below Lr);have Lb:=O (Lc.out.below Lr Lc.out.lt);clear Lr)
     refine(CW.out M3 cd 0 _ KL.out.wr Mj.out (by have:=LJ.out;omega)).mono ?_;rintro e w9 ⟨⟨u9,rfl⟩,Mb,rX⟩;have jT:=O (KL.out.pb Mb rX);have dD:=rX.blk _ _ _ (KL.out.wr.ne Lb.out (by decide)) (by decide) Lb.out;have Li:=O dD;have e0:=dD.cell 0;have e1:=dD.cell 1;have e2:=dD.cell 2;have e3:=dD.cell 3;have e4:=dD.cell 4;have e5:=dD.cell 5;have e6:=dD.cell 6;have aC:=jT.out.la;unfold jm at aC;have f0:=aC.cell 0;have f1:=aC.cell 1;have f2:=aC.cell 2;have f3:=aC.cell 3;(try dsimp only at e0 e1 e2 e3 e4 e5 e6 f0 f1 f2 f3);clear Mb rX dD aC KL Lb Iq Lc CA l0 d0 d1 d2 d3 d4 d5 d6;go_wp2_with (go_at_call 63;refine(CM.out _ jT.out.wr.pen.be (LP.out.below jT.out.wr.pen.be) (Mw.out.below jT.out.wr.pen.be)).mono ?_;rintro e wa ⟨rfl,dt⟩;have KN:=O (jT.out.below dt);have Lk:=O (Li.out.below dt Li.out.lt);clear dt)
     refine(CW.out (M3++cd) (fB m x) 0 _ KN.out.wr Mk.out (by have:=LJ.out;rw[X];omega)).mono ?_;rintro e wb ⟨⟨ub,rfl⟩,Mc,Ls⟩;have Mr:=O (KN.out.pb Mc Ls);have dE:=Ls.blk _ _ _ (KN.out.wr.ne Lk.out (by decide)) (by decide) Lk.out;clear e0 e1 e2 e3 e4 e5 e6 f0 f1 f2 f3;have e0:=dE.cell 0;have e1:=dE.cell 1;have e2:=dE.cell 2;have e3:=dE.cell 3;have e4:=dE.cell 4;have e5:=dE.cell 5;have e6:=dE.cell 6;(try dsimp only at e0 e1 e2 e3 e4 e5 e6);clear Mc Ls dE KN Lk jT Li CM;unfold dK at CF;go_wp2_with (go_at_call 64;refine(CF.out _).mono ?_;rintro e wc ⟨rfl,K5⟩;have LI:=O (Mr.out.below K5);have T:=LI.out.la;unfold jm at T;have f0:=T.cell 0;have f1:=T.cell 1;have f2:=T.cell 2;have f3:=T.cell 3;have g0:=T.frozen 0;have g1:=T.frozen 1;have g2:=T.frozen 2;have g3:=T.frozen 3;(try dsimp only at f0 f1 f2 f3 g0 g1 g2 g3);clear K5 T)
     go_roundg gi
     case measure=>omega
     case rel=>exact⟨K+1,by have:=Mp.out;omega,rfl,O (by rw[Mx.out,LM.out];exact LI.out.last Mm.out (ed m))⟩
def Hx (ss:List bu) (w:World) (e:Ending) (w':World):Prop:=∃v er,e=OG (.tuple #[v,V Z er])/\Below w.heap.size w w'/\
 ((er=0/\U ss<=100/\(∀s∈ss,ef s.s=true)/\∃A c,v=Y A (pO (ss.map (·.s))).length c/\w'.ownsRow w.heap.size 5 1 v (pO (ss.map (·.s))).length ((pO (ss.map (·.s))).map af))\/
  (er=2/\U ss<=100/\(∃s∈ss,ef s.s=false)/\v=Y none 0 0)\/(er=4/\100<U ss/\v=Y none 0 0))
theorem td:∀(a b:List dI),cU (a++b)=cU a++cU b
 |[],_=>rfl
 |g::a,b=>by rw[OL,cU,cU,td a b,J]
theorem Dz (ss:List bu)(A:Option Addr)(n c:Nat)(w:World)(hn:U ss=n)(dD:iW w A ss)(hS:∀s∈ss,iZ s) (hT:Tz w) (dt:Ts w) (hl:∀j,(∀s∈ss.take j,ef s.s=true)->(cU ((ss.take j).map (·.s))).length<=16777216) (hsz:n<=2 ^ 40):
  Calls OC 12 #[Y A n c] w (Hx ss w):=by
 have HN:=O hn
 cases aC:decide ((100:Int)<(n:Int)) with
 |true=>
  have h1:100<n:=(by simp at aC;omega);have HH:=O h1;clear hn dD hS hT dt hl h1
  go_enter Oa,OZ
  go_wp2_with fail
  go_ret2;exact⟨_,_,rfl,Below.refl _ _,.inr (.inr ⟨rfl,by rw[HN.out];exact HH.out,rfl⟩)⟩
 |false=>
 have h1:n<=100:=by simp at aC;omega
 have HH:=O h1;have fW:=O dD;have HS:=O hS;have HT:=O hT;have K2:=O dt;have HL:=O hl;have C1:=O (qI w);obtain⟨hh,dE⟩:∃hh,w.heap.size=hh:=⟨_,rfl⟩;have Ip:=O dE;rw[dE] at C1;clear hn dD hS hT dt hl h1
 go_enter Oa,OZ
 go_wp2_with (go_at_call 30;refine C1.out.mono ?_;rintro e w2 ⟨rfl,wj⟩;have J2:=O wj;clear wj)
 clear dE
 go_loopg [14] n (λgk i=> λwr=>∃(j:Nat),j+gk=n/\i=V Z (j:Int)/\Hid (ea w hh (cU ((ss.take j).map (·.s))) wr)/\Hid (∀s∈ss.take j,ef s.s=true))
 case atStart=>exact⟨0,by omega,rfl,J2,O (λs hs=>by rw[ON] at hs;cases hs)⟩
 case round=>
  obtain⟨j,hj,rfl,HP,HQ⟩:=hrel
  cases gk with
  |zero=>
   have K4:¬((j:Int)<(n:Int)):=(by omega);have I:ss.take j=ss:=OH (by rw[HN.out];omega);have hb:=HL.out j HQ.out;rw[I] at HP HQ hb;have CB:=O (sT w hh _ hb wr HP.out);clear hj I hb;go_wp2_with (go_at_call 32;refine CB.out.mono ?_;rintro e w3 ⟨⟨A',c',rfl,ho⟩,C⟩;have HO:=O ho;have cz:=O C;clear ho C)
   go_ret2;refine⟨_,_,rfl,HP.out.be.trans (cz.out.mono HP.out.be.size),.inl ⟨rfl,by rw[HN.out];exact HH.out,HQ.out,A',c',rfl,bX HO.out HP.out.be.size⟩⟩
  |succ go=>
   have K4:((j:Int)<(n:Int)):=(by omega);have K5:¬((j:Int)<0):=(by omega);have aB:j<(U ss):=(by rw[HN.out];omega);have K6:OT.wrap ((j:Int)+1)=(j:Int)+1:=(by rw[OK];omega);obtain⟨ad,rfl,_,c0,c1,c2,c3⟩:=qd (fW.out.row.below HP.out.be) j aB;have D:=OP aB;have I:=qi ss j aB;obtain⟨S,jT⟩:∃S,ss[j]=S:=⟨_,rfl⟩;rw[jT] at D I c0 c1 c2 c3;have dY:=fW.out.sh _ D;have eE:=HS.out _ D;have CK:=O (λW (hb:Below w.heap.size w W)=>yF S W (dY.below hb) eE);have CW:=O (λ(L:List UInt8) W (B:ef S.s=true) (hl:U L+(gv S.s).length<=16777216) (hp:ea w hh L W)=>yI w hh L S dY eE HT.out K2.out B hl (Nat.le_of_eq Ip.out) W hp)
   have G:ef S.s=true->(∀s∈ss.take (j+1),ef s.s=true):= λB s hs=>by
    rw[I] at hs;rcases List.mem_append.1 hs with hs|hs
    ·exact HQ.out s hs
    ·rw[OF] at hs;subst hs;exact B
   have T:cU ((ss.take (j+1)).map (·.s))=cU ((ss.take j).map (·.s))++gv S.s:=by
    rw[I,OX,td,List.map_singleton,cU,cU,OE]
   have bE:ef S.s=true->(cU ((ss.take j).map (·.s))).length+(gv S.s).length<=16777216:= λB=>by
    have:=HL.out (j+1) (G B);rw[T,X] at this;exact this
   have Iq:=O G;have ja:=O T;have gJ:=O bE;have HJ:=O hj;have hU:=O D;obtain⟨gg,K3⟩:∃g,wr.heap.size=g:=⟨_,rfl⟩;have rX:=(Below.refl _ wr).alloc (OB _) (OD #[V Z S.tm,V Z S.ty,Y S.sA (U S.sp) S.sc,Y S.A (U S.gs) S.c] 35);have kz:ab (wr.alloc (OD #[V Z S.tm,V Z S.ty,Y S.sA (U S.sp) S.sc,Y S.A (U S.gs) S.c] 35)) gg 35 #[V Z S.tm,V Z S.ty,Y S.sA (U S.sp) S.sc,Y S.A (U S.gs) S.c]:=aH (ab.new _ _ _) K3;have M:=O (HP.out.below rX);have gy:=O kz;unfold iF at CK CW;clear D I jT dY eE G T bE hj aB rX kz HP
   cases B:ef S.s with
   |false=>
    rw[B] at CK;simp only[Bool.false_eq_true,if_false] at CK;have K:=O B;clear B;go_wp2_with (go_at_call 15;refine(CK.out _ M.out.be).mono ?_;rintro e w3 ⟨rfl,C⟩;have cz:=O C;clear C)
    go_ret2;exact⟨_,_,rfl,M.out.be.trans (cz.out.mono M.out.be.size),.inr (.inl ⟨rfl,by rw[HN.out];exact HH.out,⟨S,hU.out,K.out⟩,rfl⟩)⟩
   |true=>
    rw[B] at CK;simp only[if_true] at CK;have K:=O B;clear B;go_wp2_with (first|(go_at_call 15;refine(CK.out _ M.out.be).mono ?_;rintro e w3 ⟨rfl,C⟩;have K0:=O (M.out.below C);have N:=gy.out.below C gy.out.lt;have d0:=N.cell 0;have d1:=N.cell 1;have d2:=N.cell 2;have d3:=N.cell 3;(try dsimp only at d0 d1 d2 d3);clear C N)|(go_at_call 31;refine(CW.out _ _ K.out (gJ.out K.out) K0.out).mono ?_;rintro e w4 ⟨⟨u4,rfl⟩,Io⟩;have K1:=O Io;clear Io))
    go_roundg go
    case measure=>omega
    case rel=>exact⟨j+1,by have:=HJ.out;omega,rfl,O (by rw[ja.out];exact K1.out),O (Iq.out K.out)⟩
def pJ:dI:=⟨⟨0,0,[]⟩,[⟨1,1,[],[⟨2,8,0,0,0,0,[]⟩]⟩,⟨3,1,[],[]⟩,⟨5,1,[],[]⟩]⟩
def ni (h:Nat):bu:=⟨0,0,[],none,0,[⟨1,1,[],none,0,[⟨⟨2,8,0,0,0,0,[]⟩,[],none,0⟩],some ⟨h,0,none⟩,1⟩,⟨3,1,[],none,0,[],none,0⟩,⟨5,1,[],none,0,[],none,0⟩],some ⟨h+1,0,none⟩,3⟩
theorem JE (h:Nat):iZ (ni h):=by
 refine⟨by simp[ni],by simp[ni],λg B=>?_⟩;simp only[ni,OI,OR,or_false] at B;rcases B with rfl|rfl|rfl
 ·refine⟨by simp,by simp,λm j=>?_⟩
  simp only[OF] at j;subst j;exact⟨by simp,λb C=>by cases C⟩
 ·exact⟨by simp,by simp,λm j=>by cases j⟩
 ·exact⟨by simp,by simp,λm j=>by cases j⟩
theorem kN (W:World)(A:Option Addr):Sl W A []:= λi v h=>by simp at h
theorem Iy {W:World}{h:Nat}(C:ab W h 55 (bP ⟨2,8,0,0,0,0,[]⟩ (Y none 0 0)))(h2:ab W (h+1) 51 (av fb (ni h).gs).toArray):ii W (ni h):=by
 refine⟨kN _ _,h2.sl 0,λg B=>?_⟩;simp only[ni,OI,OR,or_false] at B;rcases B with rfl|rfl|rfl
 ·refine⟨kN _ _,C.sl 0,λm j=>?_⟩
  simp only[OF] at j;subst j;exact⟨rfl,kN _ _,λb D=>by cases D⟩
 ·exact⟨kN _ _,kN _ _,λm j=>by cases j⟩
 ·exact⟨kN _ _,kN _ _,λm j=>by cases j⟩
def Kk (w:World) (e:Ending) (w':World):Prop:=∃s:bu,e=OG (iF s)/\s.s=pJ/\ii w' s/\iZ s/\Below w.heap.size w w'
theorem Iz (h:Nat)(tm ty:Int)(u v:Value)(tmps:Array Value)(W:World)(j:ab W h 35 #[V Z tm,V Z ty,u,v])(C:tmps.getD 0 undef=OM (some ⟨h,0,none⟩)):
  (results Tryz.f24 tmps).run OC W= .ok (.agg #[V Z tm,V Z ty,u,v]) W:=by
 have c0:=j.cell 0;have c1:=j.cell 1;have c2:=j.cell 2;have c3:=j.cell 3;simp at c0 c1 c2 c3;have B:tmps[0]?.getD undef=OM (some ⟨h,0,none⟩):=by simpa using C
 simp[results,Tryz.results24,B,asAddr,c0,c1,c2,c3,go_sem]
theorem Cu (w:World):Calls OC 24 #[] w λe w'=>∃h,e=OG (iF (ni h))/\ii w' (ni h)/\Below w.heap.size w w':=by
 go_enter Tryz.func24,Tryz.ntmps24
 go_wp2_with fail
 have I:∀j,(w.alloc j).heap.size=w.heap.size+1:= λj=>by simp
 have D:∀j B,((w.alloc j).alloc B).heap.size=w.heap.size+1+1:= λj B=>by simp
 have G:∀j B C,(((w.alloc j).alloc B).alloc C).heap.size=w.heap.size+1+1+1:= λj B C=>by simp
 refine bodyPost_ret (Iz w.heap.size 0 0 (Y none 0 0) (Y (some ⟨w.heap.size+1+1+1,0,none⟩) 3 3) _ _ ((((ab.new w _ _).alloc _).alloc _).alloc _) rfl) rfl ⟨w.heap.size+1+1,rfl,Iy ?_ ?_,?_⟩
 ·exact(aH (ab.new _ _ _) (D _ _)).alloc _
 ·exact aH (ab.new _ _ _) (G _ _ _)
 ·exact((((Below.refl _ w).alloc (OB _) _).alloc (by rw[I];omega) _).alloc (by rw[D];omega) _).alloc (by rw[G];omega) _
theorem uY (w:World):Calls OC 24 #[] w (Kk w):=
 (Cu w).mono λ_ _ ⟨h,e,j,h2⟩=>⟨ni h,e,rfl,j,JE h,h2⟩
def Jd (l:List UInt8) (w:World) (e:Ending) (w':World):Prop:=(∃A c,e=OG (Y A (U l) c)/\w'.ownsRow w.heap.size 5 1 (Y A (U l) c) (U l) (l.map af))/\Below w.heap.size w w'
theorem ww (s:List UInt8)(N:de s)(hl:U s<=16777216)(w:World):Calls OC 55 #[Ob (bs s)] w (Jd (bM s) w):=by
 have C1:=O (qI w);have I:=O (λW G=>Gy w w.heap.size [] s N (by simpa using hl) (OB _) W G);have C3:=O (λW G=>sT w w.heap.size s hl W G);rw[OS] at I;clear N hl
 go_enter Tryz.func55,Tryz.ntmps55
 go_wp2_with (first|(go_at_call 30;refine C1.out.mono ?_;rintro e w2 ⟨rfl,B⟩;have D:=O B;clear B)|(go_at_call 58;refine(I.out _ D.out).mono ?_;rintro e w3 ⟨rfl,C⟩;have j:=O C;clear C)|(go_at_call 32;refine(C3.out _ j.out).mono ?_;rintro e w4 ⟨⟨T,c',rfl,M⟩,K⟩;have HO:=O M;have HB:=O K;clear M K))
 go_ret;exact⟨⟨T,c',rfl,bX HO.out j.out.be.size⟩,j.out.be.trans (HB.out.mono j.out.be.size)⟩
def kX:List UInt8:=cU [pJ]
theorem zD (l:List UInt8)(B:Option Addr)(m d:Nat)(w:World)(hB:Sl w B (l.map af))(hm:U l=m)(hsz:m<=1000):Calls OC 23 #[Y B m d] w (Jd (bM kX++l) w):=by
 have K:=O hB;have N:=O hm;have D:(bM kX).length=15:=by decide
 have j:Hid (((bM kX).length+m)*1<=140737488355328):=O (by omega);clear D;have C1:=O (ww kX (sg _) (by decide) w);clear hB hm
 go_enter Tryz.func23,Tryz.ntmps23
 go_wp2_with (first|(go_at_call 55;refine C1.out.mono ?_;rintro e w2 ⟨⟨A',c',rfl,G⟩,hb⟩;have T:=O G;have I:=O hb;clear G hb)|(at_builtin;refine cr jw rfl rfl rfl T.out rfl (by simp[N.out]) (K.out.below I.out) (pf _) (j.out) I.out.size ?_;intro v2 w3 G hg _;have C:=O G;have M:=O hg;clear G hg))
 obtain⟨A2,c2,hv⟩:=aP C.out;subst hv;go_ret;refine⟨⟨A2,c2,?_,?_⟩,eF I.out T.out M.out I.out.size (OB _)⟩
 ·rw[X,N.out];rfl
 ·have h:=C.out
  rw[X,N.out,OX];exact h
theorem Is {p:dF}(j:lk p.m=true)(he:nS p):Fx p:=by
 have j:=(jY _).1 j;have he:p.m.bl=p.xs.map (·.1):=he;have G:bO p.m.pa<=6:=by unfold bO;split<;>omega
 have hl:=j.len;rw[he,OA] at hl;refine⟨by omega,λq D=>?_⟩;have C:=j.bl q.1 (by rw[he];exact OQ.2 ⟨q,D,rfl⟩);have B:0<=eB (pI p.m.kd)/\eB (pI p.m.kd)<=1:=by cases (pI p.m.kd)<;>decide
 have h2:=(mT q.1.l _ B.1 (by omega) (tL C).1).1;omega
theorem yu {f g:Int}:∀(ms:List aT)(last:Int),fC f g last ms=true->∀m∈ms,lk m=true
 |[],_,_,m,j=>by cases j
 |a::ms,last,h,m,j=>by
  obtain⟨B,_,_,C⟩:=mR h;rcases OI.1 j with rfl|j
  ·exact B
  ·exact yu ms _ C m j
theorem Ij {p:cJ}{f n:Int}(h:kU f n p.g=true)(he:rZ p):wL p:=by
 obtain⟨_,_,_,C,j⟩:=od h;have G:=rN p.g.ms 0 j (by decide);have hl:U p.g.ms=(U p.ms):=by unfold cJ.g;rw[OA]
 have D:p.g.sp=p.sp:=rfl;rw[D] at C;refine⟨by omega,by omega,λm B=>Is (yu _ _ j _ (OQ.2 ⟨m,B,rfl⟩)) (he m B)⟩
theorem uT {f:Int}:∀(ns:List Int)(gs:List ig),fA f ns gs=true->∀g∈gs,∃n,kU f n g=true
 |_,[],_,g,j=>by cases j
 |[],_::_,h,_,_=>by cases h
 |n::ns,a::gs,h,g,j=>by
  rw[fA,OJ] at h;rcases OI.1 j with rfl|j
  ·exact⟨n,h.1⟩
  ·exact uT ns gs h.2 g j
theorem BF {p:bu}(h:ef p.s=true)(he:ki p):iZ p:=by
 obtain⟨B,h2⟩:=nY h;have C:=(uV B).2.2.2.2;have I:=(mH _ _ h2).2;have K:=iw (dv p.s.hd.ty);have hl:U p.s.gs=(U p.gs):=by unfold bu.s;rw[OA]
 have G:p.s.hd.sp=p.sp:=rfl;rw[G] at C;refine⟨by omega,by omega,λg j=>?_⟩;obtain⟨n,D⟩:=uT _ _ h2 g.g (OQ.2 ⟨g,j,rfl⟩);exact Ij D (he g j)
def Fz (l:List UInt8) (w:World) (e:Ending) (w':World):Prop:=
 ∃A c ss,e=OG (.tuple #[Y A (U ss) c,V Z (eN l).2])/\ss.map (·.s)=(eN l).1/\iW w' A ss/\(∀s∈ss,iZ s)/\(∀s∈ss,ef s.s=true)/\Below w.heap.size w w'
theorem oY (A:Option Addr)(n c:Nat)(l:List UInt8)(w:World)(K:∀W,Below w.heap.size w W->Tz W/\Ts W/\Sl W A (l.map af)) (N:U l=n) (hsz:n<=2 ^ 40):
  Calls OC 19 #[Y A n c] w (Fz l w):=by
 refine(yG A n c l w K N hsz).mono ?_;rintro e w' ⟨G,I,ss,he,D,B,M,C⟩;have j:∀s∈ss,ef s.s=true:= λs h=>(jF l).1 s.s (by rw[<-D];exact OQ.2 ⟨s,h,rfl⟩);exact⟨G,I,ss,he,D,⟨ic C.head,λs h=>BE (vH C.tail h) (B s h)⟩,λs h=>BF (j s h) (B s h),j,M⟩
theorem xQ (A:Option Addr)(n c:Nat)(l:List UInt8)(err:Int)(B:Option Addr)(m d:Nat)(ss:List bu)(w:World)(hE:∀W,Below w.heap.size w W->Tz W/\Ts W/\Sl W A (l.map af)) (hn:U l=n) (hsz:n<=2 ^ 40) (hm:U ss=m) (hW:iW w B ss) (hS:∀s∈ss,iZ s) (M:eN l=(ss.map (·.s),err)):
  Calls OC 25 #[Y A n c,V Z err,Y B m d] w λe w'=>e=OG (OV true)/\Below w.heap.size w w':=by
 have N:=O (oY A n c l w hE hn hsz);have HW:=O hW;have HS:=O hS;have HM:=O hm;have HP:=O M
 have G:U ss<=8*(U l):=by
  have h1:=(jF l).2;rw[M] at h1;have h2:=oI (ss.map (·.s));rw[OA] at h2;dsimp only at h1;omega
 have j:Hid (U ss<=2 ^ 60):=O (by omega);unfold Fz at N;rw[M] at N;clear hE hn hm hW hS M G
 go_enter Tryz.func25,Tryz.ntmps25
 go_wp2_with (first|(go_at_call 19;refine N.out.mono ?_;rintro e w2 ⟨A2,c2,tt,rfl,ht,C,I,_,hb⟩;have HT:=O ht;have T:=O C;have aC:=O I;have K:=O hb;clear ht C I hb)|(go_at_call 21;refine(oT tt ss A2 B _ _ c2 d w2 rfl HM.out HT.out T.out ⟨HW.out.row.below K.out,λs hs=>(HW.out.sh s hs).below K.out⟩ aC.out HS.out (by have h:=congrArg List.length HT.out;rw[OA,OA] at h;rw[h];exact j.out)).mono ?_;rintro e w3 ⟨rfl,D⟩;have aB:=O D;clear D))
 go_ret;exact⟨rfl,K.out.trans (aB.out.mono K.out.size)⟩
end
section
open Go Go.RowKit
theorem JF:ef pJ=true:=by kernel_rfl
theorem nB:(bM kX).length=15:=by kernel_rfl
set_option maxRecDepth 100000 in
theorem J0:eN (bM kX)=([pJ],0):=by kernel_rfl
end
open Go Go.RowKit
attribute [local go_sem] Oper.semAt_some
open Go.Lib renaming hid→O
open Go.Value renaming slice→U,int→OE
open List renaming map_singleton→Z,mem_singleton→V,append_nil→OA,length→OC
open Tryz renaming prog→Y
open Go.Ending renaming returned→X
open Nat renaming le_refl→J
open Go.Obj renaming cells→OB
open Go.IntKind renaming i64→OD
theorem IF {ss:List bu}(D:OC ss<=4)(j:Nat)(h:∀s∈ss.take j,ef s.s=true):(cU ((ss.take j).map (·.s))).length<=16777216:=by
 have B:=tf ((ss.take j).map (·.s)) (λs C=>by obtain⟨t,ht,rfl⟩:=List.mem_map.1 C;exact h t ht);rw[List.length_map,List.length_take] at B;omega
theorem yH (ss:List bu)(A:Option Addr)(n c:Nat)(w:World)(hn:OC ss=n)(G:iW w A ss)(M:∀s∈ss,iZ s) (N:Tz w) (D:Ts w) (hl:∀j,(∀s∈ss.take j,ef s.s=true)->(cU ((ss.take j).map (·.s))).length<=16777216) (I:∀s∈ss,ef s.s=true) (K:n<=100):
  Calls Y 12 #[U A n c] w λe w'=>(∃B C,e=X (.tuple #[U B (pO (ss.map (·.s))).length C,OE OD 0])/\w'.ownsRow w.heap.size 5 1 (U B (pO (ss.map (·.s))).length C) (pO (ss.map (·.s))).length ((pO (ss.map (·.s))).map af))/\Below w.heap.size w w':=by
 refine(Dz ss A n c w hn G M N D hl (by omega)).mono ?_;rintro e w' ⟨v,er,rfl,T,(⟨rfl,_,_,B,C,rfl,ho⟩|⟨_,_,⟨s,hs,h⟩,_⟩|⟨_,h,_⟩)⟩
 ·exact⟨⟨B,C,rfl,ho⟩,T⟩
 ·rw[I s hs] at h;cases h
 ·omega
theorem BG {W:World}{s:bu}(h:ii W s):iW (W.alloc (OB (dS s).toArray 35)) (some ⟨W.heap.size,0,none⟩) [s]:=by
 refine⟨?_,λt ht=>?_⟩
 ·rw[dV]
  exact ab.sl (ab.new W 35 (dS s).toArray) 0
 ·rw[V] at ht
  subst ht;exact h.below ((Below.refl _ _).alloc (J _) _)
theorem tZ {P:bu->Prop}{s:bu}(h:P s):∀t∈[s],P t:= λt ht=>by rw[V.1 ht];exact h
theorem Bx {s:bu}(h:s.s=pJ):pO ([s].map (·.s))=bM kX:=by rw[Z,h];rfl
theorem wE (s:bu)(A:Option Addr)(c:Nat)(w:World)(G:s.s=pJ)(D:iW w A [s])(K:iZ s)(M:Tz w)(C:Ts w):
  Calls Y 12 #[U A 1 c] w λe w'=>(∃j B,e=X (.tuple #[U j 15 B,OE OD 0])/\Sl w' j ((bM kX).map af))/\Below w.heap.size w w':=by
 refine(yH [s] A 1 c w rfl D (tZ K) M C (IF (by simp)) (tZ (by rw[G];exact JF)) (by decide)).mono ?_;rintro e w' ⟨⟨j,B,rfl,I⟩,N⟩;rw[Bx G,nB] at I;refine⟨⟨j,B,by rw[Bx G,nB],ic I⟩,N⟩
theorem sJ (A:Option Addr)(n c:Nat)(l:List UInt8)(err:Int)(B:Option Addr)(d:Nat)(s:bu)(w:World)(T:s.s=pJ)(D:Sl w A (l.map af))(I:Tz w)(j:Ts w)(M:OC l=n)(hsz:n<=2 ^ 40)(K:iW w B [s])(G:iZ s)(N:eN l=([pJ],err)):
  Calls Y 25 #[U A n c,OE OD err,U B 1 d] w λe w'=>e=X (.bool true)/\Below w.heap.size w w':=
 xQ A n c l err B 1 d [s] w (λW C=>⟨I.below C,j.below C,D.below C⟩) M hsz rfl K (tZ G) (by rw[Z,T];exact N)
set_option maxRecDepth 100000 in
set_option maxHeartbeats 4000000 in
theorem qP (w:World)(hT:Tz w)(aC:Ts w):Calls Y 11 #[] w λe w'=>e=X (.bool true)/\Below w.heap.size w w':=by
 have HT:=O hT;have HS:=O aC;clear hT aC
 go_enter Tryz.func11,Tryz.ntmps11
 go_wp2_with fail
 refine(uY _).mono ?_;rintro e w1 ⟨s1,rfl,dt,j,T,hb⟩;have B1:=O hb;have N:=O (BG j);have K:=O (hb.alloc hb.size (OB (dS s1).toArray 35));have dY:=O dt;have fW:=O T;unfold iF;clear hb j dt T;go_wp2_with fail
 refine(wE s1 _ 1 _ dY.out N.out fW.out (HT.out.below K.out) (HS.out.below K.out)).mono ?_;rintro e w3 ⟨⟨A3,c3,rfl,ho⟩,bE⟩;have B3:=O (K.out.trans (bE.mono K.out.size));have H3:=O ho;clear bE ho B1 K N;go_wp2_with fail
 refine(zD [] none 0 0 _ (kN _ _) rfl (by decide)).mono ?_;rintro e w4 ⟨⟨A4,c4,rfl,I⟩,D⟩;rw[OA] at I;have B4:=O (B3.out.trans (D.mono B3.out.size));have H4:=O (ic I);have C:=O (H3.out.below D);rw[OA,nB];clear D I B3 H3;go_wp2_with fail
 refine(kV A3 A4 15 15 c3 c4 (bM kX) (bM kX) w4 C.out H4.out nB nB).mono ?_;rintro e w5 ⟨rfl,rfl⟩;rw[beq_self_eq_true];go_wp2_with fail
 refine(uY _).mono ?_;rintro e w6 ⟨s6,rfl,dD,B,aB,G⟩;have B6:=B4.out.trans (G.mono B4.out.size);have B7:=O (B6.alloc B6.size (OB (dS s6).toArray 35));have gy:=O (BG B);have eE:=O dD;have M:=O aB;have dE:=O ((C.out.below G).below ((Below.refl _ _).alloc (J _) (OB (dS s6).toArray 35)));unfold iF;clear G B dD aB B6 B4 H4 C;go_wp2_with fail
 refine(sJ A3 15 c3 (bM kX) 0 _ 1 s6 _ eE.out dE.out (HT.out.below B7.out) (HS.out.below B7.out) nB (by decide) gy.out M.out J0).mono ?_;rintro e w8 ⟨rfl,cz⟩;have B8:=O (B7.out.trans (cz.mono B7.out.size));clear cz;go_wp2_with fail
 go_ret;exact⟨rfl,B8.out⟩
def JO (h:Nat):bu:=⟨0,0,[],none,0,[⟨1,1,[],none,0,[⟨⟨2,8,0,0,0,0,[]⟩,[],none,0⟩],some ⟨h,0,none⟩,1⟩,⟨3,1,[],none,0,[],none,0⟩],some ⟨h+1,0,none⟩,3⟩
structure AK (w:World) (A:Option Addr) (g h:Nat) (W:World):Prop where
 be:Below w.heap.size w W
 bt:Sl W A ((bM kX).map af)
 k4:ab W g 35 #[OE OD 0,OE OD 0,U none 0 0,U (some ⟨h+1,0,none⟩) 2 3]
 sh:ii W (JO h)
theorem AK.below {w:World}{A:Option Addr}{g h:Nat}{W B:World}(k:AK w A g h W)(j:Below W.heap.size W B):AK w A g h B:=⟨k.be.trans (j.mono k.be.size),k.bt.below j,k.k4.below j k.k4.lt,k.sh.below j⟩
theorem AK.alloc {w:World}{A:Option Addr}{g h:Nat}{W:World}(k:AK w A g h W)(o:Obj):AK w A g h (W.alloc o):=k.below ((Below.refl _ _).alloc (J _) _)
end Go.Proofs.YthhijgcfbjcgiaaGreatDoor
