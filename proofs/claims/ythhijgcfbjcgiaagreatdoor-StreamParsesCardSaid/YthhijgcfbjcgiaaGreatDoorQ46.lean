/- Ref19gR, Ref19gS, Ref19g -/
import Derived.Test.YthhijgcfbjcgiaaGreatDoorQ43
namespace Go.Proofs.YthhijgcfbjcgiaaGreatDoor
open Go Go.RowKit
attribute [local go_sem] Oper.semAt_some
set_option maxHeartbeats 16000000
set_option maxRecDepth 100000
open Go.IntKind renaming i64→O,wrap_i64→X,i64→J
open Go.Value renaming int→U,bool→V,slice→Y,pointer→OF
open Go.Lib renaming hid→Z
open List renaming mem_cons_of_mem→OA,mem_cons→OB,length→OC,length_append→OJ,map_append→OO,mem_map→OP
open Bool renaming false_ne_true→OD,false_eq_true→OI,and_eq_true→OM
open Go.Obj renaming cells→OE
open Tryz renaming prog→OG,results150→OH,f150→OK
open Nat renaming le_succ→OL,le_refl→OQ
open Go.World renaming size_alloc→ON
def Ds:Code->Nat
 | .region n _ _=>n
 | .seq a _=>Ds a
 | .block _ c=>Ds c
 | .scope c=>Ds c
 |_=>0
def GT (n:Nat):Code->Option Code
 | .seq a b=>if Ds a==n then some (.seq a b) else GT n b
 |_=>none
theorem F4 (A:Option Addr)(n c:Nat)(l:List UInt8)(i ad la lx ly kd qv vx vy pa M E3:Int)(lh j bQ bV bF bC:Bool)(R:aT×Int×Int)(w w3 wc:World)(HA:Hid (Sl w A (l.map af)))(HN:Hid (OC l=n))(dY:Hid (n<=2 ^ 47))(K5:Hid (0<=i/\1<=ad/\ad<=33))(K6:Hid (i<=8*(n:Int)))(rX:Hid (w.heap.size+2<=w3.heap.size))(Io:(E3≠0->R=(m0,0,E3))/\(E3=0->(if (bg l j (bO pa) M).2.2 !=0 then(m0,0,(bg l j (bO pa) M).2.2) else((⟨ad,kd,qv,vx,vy,pa,(bg l j (bO pa) M).1⟩:aT),(bg l j (bO pa) M).2.1 - i,(0:Int)))=R/\0<=M/\M<=8*(n:Int)))(J2:0<=M)(gJ:M<=8*(n:Int)+5)(dt:Hid (ar w [(w3.heap.size+1,55,#[U O ad,U O kd,U O qv,U O vx,U O vy,U O pa,Y none 0 0]),(w.heap.size+1,55,bP m0 (Y none 0 0)),(w.heap.size,102,#[U O la,V lh,U O lx,U O ly]),(w3.heap.size,110,#[V j,V bQ,V bV,V bF,V bC])] [] wc))(u12 u18 u19 u24 u25 u26 u27 u28 u29 u30 u31 u32 u33 u34 u35 u36 u37 u38 u39 u40 u41 u42 u43 u44 u45 u46 u47 u48 u49 u50 u51 u52 u53 u54 u55 u56 u57 u58 u59 u60 u61 u62 u63 u64 u65 u66 u67 u68 u69 u70 u71 u72 u73 u74 u75 u76 u77 u78 u79 u80 u81 u82 u83 u84 u85 u86 u87 u88 u89 u90 u91 u92 u93 u94 u95 u96 u97 u98 u99 u100 u101 u102 u103 u104 u105 u106 u107 u108 u109 u110 u111 u112 u113 u114 u115 u116 u117 u118 u119 u120 u121 u122 u123 u124 u125 u126 u127 u128 u129 u130 u131 u132 u133 u134 u135 u136 u137 u138 u139 u140 u141 u142 u143 u144 u145 u146 u147 u148 u149 u150 u151 u152 u153 u154 u155 u156 u157 u158 u159 u160 u161 u162 u163 u164 u165 u166 u167 u168 u169 u170 u171 u172 u173 u174 u175 u176 u177 u178 u179 u180 u181 u182 u183 u184 u185 u186 u187 u188 u189 u190:Value)(code:Code)(hc:(((OK.body).bind (GT 30)).getD .skip)=code):
  Code.wp OG code (bodyPost OG OK (kx w R)) ⟨#[Y A n c,U O M,U O ad,.agg #[U O la,V lh,U O lx,U O ly],undef,undef,undef,OF (some ⟨w.heap.size,0,none⟩),OF (some ⟨w.heap.size+1,0,none⟩),U O 0,U O 0,U O kd,u12,U O E3,OF (some ⟨w3.heap.size,0,none⟩),U O 0,OF (some ⟨w3.heap.size+1,0,none⟩),U O i,u18,u19,undef,undef,undef,undef,u24,u25,u26,u27,u28,u29,u30,u31,u32,u33,u34,u35,u36,u37,u38,u39,u40,u41,u42,u43,u44,u45,u46,u47,u48,u49,u50,u51,u52,u53,u54,u55,u56,u57,u58,u59,u60,u61,u62,u63,u64,u65,u66,u67,u68,u69,u70,u71,u72,u73,u74,u75,u76,u77,u78,u79,u80,u81,u82,u83,u84,u85,u86,u87,u88,u89,u90,u91,u92,u93,u94,u95,u96,u97,u98,u99,u100,u101,u102,u103,u104,u105,u106,u107,u108,u109,u110,u111,u112,u113,u114,u115,u116,u117,u118,u119,u120,u121,u122,u123,u124,u125,u126,u127,u128,u129,u130,u131,u132,u133,u134,u135,u136,u137,u138,u139,u140,u141,u142,u143,u144,u145,u146,u147,u148,u149,u150,u151,u152,u153,u154,u155,u156,u157,u158,u159,u160,u161,u162,u163,u164,u165,u166,u167,u168,u169,u170,u171,u172,u173,u174,u175,u176,u177,u178,u179,u180,u181,u182,u183,u184,u185,u186,u187,u188,u189,u190],[]⟩ wc:=by
 have dD:=Z Io;subst hc;have hU:=Z (λW=>zR pa W);have Kr:bO pa<=6:=by rw[<-xE];exact tY pa 6
 obtain⟨N,hN⟩:∃N,bO pa=N:=⟨_,rfl⟩;rw[hN] at dD hU Kr;have m5:=dt.out.2.1.head.cell 5;(try dsimp only at m5);clear Io hN
 conv=>arg 2;whnf
 go_wp2_with (go_at_call 80;refine(hU.out _).mono ?_;rintro e w' ⟨rfl,rfl⟩)
 have K4:Hid (ar w [(w3.heap.size+1,55,#[U O ad,U O kd,U O qv,U O vx,U O vy,U O pa,Y none 0 0]),(w.heap.size+1,55,bP m0 (Y none 0 0)),(w.heap.size,102,#[U O la,V lh,U O lx,U O ly]),(w3.heap.size,110,#[V j,V bQ,V bV,V bF,V bC])] (sO w.heap.size (Y none 0 0) []) wc):=Z ⟨dt.out.1,dt.out.2.1,ai.cons (World.ownsRow_nil _ _ _ _) (aA _)⟩;have gy:=Z (show 0<=M/\M<=8*(n:Int)+5 from⟨J2,gJ⟩);clear dt m5 J2 gJ hU
 go_loopg [1,13,20] N (λg t1 KH KI=> λwr=>∃(p e:Int)(v:Value)(T:List ew),t1=U O p/\KH=U O e/\KI=U O (g:Int)/\OC T+g<=6/\0<=p/\p<=8*(n:Int)+5/\Hid ((e≠0->R=(m0,0,e))/\(e=0->(if (bg l j g p).2.2 !=0 then(m0,0,(bg l j g p).2.2) else((⟨ad,kd,qv,vx,vy,pa,T.map (·.1)++(bg l j g p).1⟩:aT),(bg l j g p).2.1 - i,(0:Int)))=R/\p<=8*(n:Int)))/\Hid (ar w [(w3.heap.size+1,55,#[U O ad,U O kd,U O qv,U O vx,U O vy,U O pa,v]),(w.heap.size+1,55,bP m0 (Y none 0 0)),(w.heap.size,102,#[U O la,V lh,U O lx,U O ly]),(w3.heap.size,110,#[V j,V bQ,V bV,V bF,V bC])] (sO w.heap.size v T) wr))
 case atStart=>exact⟨M,E3,Y none 0 0,[],rfl,rfl,rfl,by simp;omega,gy.out.1,gy.out.2,Z ⟨dD.out.1,λh=>⟨by simpa using (dD.out.2 h).1,(dD.out.2 h).2.2⟩⟩,K4⟩
 case round=>
  obtain⟨p,e,v,T,rfl,rfl,rfl,K2,hp,KK,dE,G⟩:=hrel;obtain⟨A1,c1,hv⟩:=aP G.out.2.2.head;dsimp only at hv;subst hv;have I:=G.out.2.1.tail.head;have z0:=I.cell 0;have z1:=I.cell 1;have z2:=I.cell 2;have z3:=I.cell 3;have z4:=I.cell 4;have z5:=I.cell 5;have z6:=I.cell 6;have f0:=I.frozen 0;have f1:=I.frozen 1;have f2:=I.frozen 2;have f3:=I.frozen 3;have f4:=I.frozen 4;have f5:=I.frozen 5;have f6:=I.frozen 6;(try unfold bP m0 at z0 z1 z2 z3 z4 z5 z6);(try simp at z0 z1 z2 z3 z4 z5 z6);(try dsimp only at f0 f1 f2 f3 f4 f5 f6);have xm:=G.out.2.1.head;have n0:=xm.cell 0;have n1:=xm.cell 1;have n2:=xm.cell 2;have n3:=xm.cell 3;have n4:=xm.cell 4;have n5:=xm.cell 5;have n6:=xm.cell 6;(try dsimp only at n0 n1 n2 n3 n4 n5 n6);have b0:=G.out.2.1.tail.tail.tail.head.cell 0;(try dsimp only at b0);clear I xm;obtain⟨gz,bE⟩:∃z:Int,(gk:Int)=z:=⟨_,rfl⟩;(try rw[bE])
  by_cases he:e=0
  ·subst he
   obtain⟨D,KE⟩:=dE.out.2 rfl
   cases gk with
   |zero=>
    have cz:gz=0:=(by omega);clear bE;subst cz;unfold bg at D;rw[if_neg (by simp),List.append_nil] at D;have KN:J.wrap (p - i)=p - i:=(by have:=K5.out;have:=K6.out;have:=dY.out;rw[X];omega);have ja:=Z D;clear D
    repeat (first|go_values|go_skip|go_guarded|go_step|go_upon)
    have h5:=jV (m:=m0) (v:=Y none 0 0) ⟨G.out.1,aa.cons G.out.2.1.tail.head (ag _),G.out.2.2⟩ (OL _) sP ⟨ad,kd,qv,vx,vy,pa,T.map (·.1)⟩ (Y A1 (OC T) c1);have C:=h5.2.1.head;unfold bP at C;have s0:=C.cell 0;have s1:=C.cell 1;have s2:=C.cell 2;have s3:=C.cell 3;have s4:=C.cell 4;have s5:=C.cell 5;have s6:=C.cell 6;simp at s0 s1 s2 s3 s4 s5 s6;refine bodyPost_ret (by simp[results,OH,go_sem,s0,s1,s2,s3,s4,s5,s6];try rfl) rfl ?_;rw[<-ja.out];exact ua h5 rfl
   |succ g=>
    rw[show bg l j (g+1) p=(if (a9 l p j).2.2 !=0 then([],0,(a9 l p j).2.2) else((a9 l p j).1::(bg l j g (p+(a9 l p j).2.1)).1,(bg l j g (p+(a9 l p j).2.1)).2.1,(bg l j g (p+(a9 l p j).2.1)).2.2)) from rfl] at D;have CB:=Z (EW A n c l p j wr (HA.out.below G.out.1) HN.out dY.out (by have:=dY.out;omega));have K:= @tM l p j hp (by have:=HN.out;omega);obtain⟨⟨⟨dc,L⟩,sz,be⟩,hb⟩:∃r,a9 l p j=r:=⟨_,rfl⟩;rw[hb] at D CB K;dsimp only at D K;rw[HN.out] at K
    have Iq:(be≠0->R=(m0,0,be))/\(be=0->(if (bg l j g (p+sz)).2.2 !=0 then(m0,0,(bg l j g (p+sz)).2.2) else((⟨ad,kd,qv,vx,vy,pa,(T.map (·.1)++[⟨dc,L⟩])++(bg l j g (p+sz)).1⟩:aT),(bg l j g (p+sz)).2.1 - i,(0:Int)))=R/\p+sz<=8*(n:Int)):=by
     refine⟨λh=>?_,λh=>⟨?_,K.2⟩⟩
     ·have hi:(be !=0)=true:=by simpa using h
      simp only[hi,if_true] at D;exact D.symm
     ·subst h
      simp only[bne_self_eq_false,OI,if_false] at D;rw[List.append_assoc];exact D
    have wj:=Z Iq;have jT:=Z K;have KM:J.wrap (p+sz)=p+sz:=(by have:=dY.out;rw[X];omega);have KL:J.wrap (gz - 1)=(g:Int):=(by rw[X];omega);have KC:(0:Int)<gz:=(by omega);clear bE;obtain⟨k,hk⟩:∃k,OC T=k:=⟨_,rfl⟩;have KJ:k<=6:=(by omega);have HK:=Z hk;have K8:=Z K2;rw[hk] at n6;(try rw[hk]);clear D Iq K hb hk K2 z0 z1 z2 z3 z4 z5 z6 f0 f1 f2 f3 f4 f5 f6 n0 n1 n2 n3 n4 n5 dE KE;go_wp2_with fail
    refine CB.out.mono ?_;rintro e w6 ⟨v6,rfl,Ip,fW⟩;obtain⟨A3,c3,KF⟩:=aP fW;subst KF;dsimp only at fW⊢;have aC:=ao (aO G.out Ip) (OE #[U O dc,Y A3 (OC L) c3] 93);have K0:=(Gu fW G.out.1.size).alloc (OE #[U O dc,Y A3 (OC L) c3] 93)
    have eE:ar w [(w3.heap.size+1,55,#[U O ad,U O kd,U O qv,U O vx,U O vy,U O pa,Y A1 k c1]),(w.heap.size+1,55,bP m0 (Y none 0 0)),(w.heap.size,102,#[U O la,V lh,U O lx,U O ly]),(w3.heap.size,110,#[V j,V bQ,V bV,V bF,V bC])] (⟨w.heap.size,93,2,Y A1 k c1,k,av ij T⟩::Hl w.heap.size (⟨dc,L⟩,A3,c3)::T.map (Hl w.heap.size)) (w6.alloc (OE #[U O dc,Y A3 (OC L) c3] 93)):=by
     rw[<-HK.out];refine⟨aC.1,aC.2.1,λr B=>?_⟩;rcases OB.1 B with rfl|B
     ·exact aC.2.2.head
     ·rcases OB.1 B with rfl|B
      ·exact K0
      ·exact aC.2.2 r (OA _ B)
    have ja:Hid (∀r∈Hl w.heap.size (⟨dc,L⟩,A3,c3)::T.map (Hl w.heap.size),r.e≠93):=Z (λr B=>by
     have:r.e=189:=by
      rcases OB.1 B with rfl|B
      ·rfl
      ·obtain⟨p,_,rfl⟩:=OP.1 B
       rfl
     rw[this]
     decide)
    have x6:=eE.2.1.head.cell 6;have K9:=eE.2.1.tail.tail.tail.head.cell 0;(try dsimp only at x6 K9);have kz:=Z eE;clear Ip fW aC K0 eE n6 b0 CB;go_wp2_with (at_builtin;refine bW tU rfl rfl 1 [U O dc,Y A3 (OC L) c3] rfl kz.out (by rw[ON];rfl) rfl (by intro u hu;simp at hu;rcases hu with rfl|rfl<;>rfl) (by omega) ⟨OQ _,kz.out.1.size⟩ (by simp) ja.out ?_;intro v' W5 aB;obtain⟨A5,c5,K1⟩:=aP aB.2.2.head;dsimp only at K1;subst K1;have k6:=aB.2.1.head.cell 6;have KG:=aB.2.1.head.frozen 6;(try dsimp only at k6 KG);have K3:=Z aB;clear aB)
    go_roundg g
    case measure=>omega
    case rel=>
     refine⟨p+sz,be,Y A5 (k+1) c5,T++[(⟨dc,L⟩,A3,c3)],rfl,rfl,rfl,by rw[OJ];have:=K8.out;have:=HK.out;simp;omega,by have:=jT.out;omega,by have:=jT.out;omega,Z ⟨wj.out.1,λh=>by have:=wj.out.2 h;rw[OO];exact this⟩,Z ?_⟩;have h:=bB K3.out (by have:=rX.out;omega) 6 (Y A5 (k+1) c5) (by simp;have:=rX.out;omega) (by intro r B;rcases OB.1 B with rfl|B;(show (93:Nat)≠55;decide);rw[show r.e=189 from by rcases OB.1 B with rfl|B;rfl;obtain⟨p,_,rfl⟩:=OP.1 B;rfl];decide);refine⟨h.1,h.2.1,λr B=>?_⟩;unfold sO at B;rcases OB.1 B with rfl|B
     ·have:=h.2.2.head
      dsimp only at this⊢;rw[H9,OJ,HK.out];exact this
     ·rw[OO] at B
      rcases List.mem_append.1 B with B|B
      ·exact h.2.2 r (OA _ (OA _ B))
      ·rw[List.map_cons,List.map_nil,List.mem_singleton] at B
       subst B;exact h.2.2 _ (OA _ (List.mem_cons_self ..))
  ·have hE:=dE.out.1 he
   clear dE;subst hE;have e0:(e==0)=false:=(by simpa using he);have e1:(e !=0)=true:=(by simpa using he);clear he
   cases gk with
   |zero=>
    have cz:gz=0:=(by omega);clear bE;subst cz
    repeat (first|go_values|go_skip|go_guarded|go_step|go_upon)
    have h5:=jV (m:=m0) (v:=Y none 0 0) ⟨G.out.1,aa.cons G.out.2.1.tail.head (ag _),G.out.2.2⟩ (OL _) sP m0 (Y none 0 0);have C:=h5.2.1.head;unfold bP m0 at C;have s0:=C.cell 0;have s1:=C.cell 1;have s2:=C.cell 2;have s3:=C.cell 3;have s4:=C.cell 4;have s5:=C.cell 5;have s6:=C.cell 6;simp at s0 s1 s2 s3 s4 s5 s6;refine bodyPost_ret (by simp[results,OH,go_sem,s0,s1,s2,s3,s4,s5,s6];try rfl) rfl ?_;exact fL e h5.1
   |succ g=>
    have KC:(0:Int)<gz:=(by omega);clear bE
    repeat (first|go_values|go_skip|go_guarded|go_step|go_upon)
    have h5:=jV (m:=m0) (v:=Y none 0 0) ⟨G.out.1,aa.cons G.out.2.1.tail.head (ag _),G.out.2.2⟩ (OL _) sP m0 (Y none 0 0);have C:=h5.2.1.head;unfold bP m0 at C;have s0:=C.cell 0;have s1:=C.cell 1;have s2:=C.cell 2;have s3:=C.cell 3;have s4:=C.cell 4;have s5:=C.cell 5;have s6:=C.cell 6;simp at s0 s1 s2 s3 s4 s5 s6;refine bodyPost_ret (by simp[results,OH,go_sem,s0,s1,s2,s3,s4,s5,s6];try rfl) rfl ?_;exact fL e h5.1
theorem If (A:Option Addr)(n c:Nat)(l:List UInt8)(i ad la lx ly kd p1 qv er qq qp:Int)(lh:Bool)(R:aT×Int×Int)(w w3 wc:World)(HA:Hid (Sl w A (l.map af)))(HN:Hid (OC l=n))(I:Hid (n<=2 ^ 47))(KX:Hid (0<=i/\1<=ad/\ad<=33))(Li:Hid (i<=8*(n:Int)))(KT:Hid (cu ⟨la,lh,lx,ly⟩ ad=true))(D:Hid (w.heap.size+2<=w3.heap.size))(HR:Hid ((if (er !=0)=true then(m0,0,er) else rV l ad kd qq (cH ad (ad - la) lh lx ly).1 (cH ad (ad - la) lh lx ly).2 qp i)=R))(L7:0<=p1)(B:p1<=8*(n:Int)+5)(K8:Hid (er=0->p1=qp/\qv=qq/\p1<=8*(n:Int)))(C:Hid (ar w [(w3.heap.size+1,55,#[U O ad,U O kd,U O qv,U O 0,U O 0,U O 0,Y none 0 0]),(w.heap.size+1,55,bP m0 (Y none 0 0)),(w.heap.size,102,#[U O la,V lh,U O lx,U O ly]),(w3.heap.size,110,#[V (pI kd),V (pQ kd),V (pV kd),V (pF kd),V (pC kd)])] [] wc))(u12 u24 u25 u26 u27 u28 u29 u30 u31 u32 u33 u34 u35 u36 u37 u38 u39 u40 u41 u42 u43 u44 u45 u46 u47 u48 u49 u50 u51 u52 u53 u54 u55 u56 u57 u58 u59 u60 u61 u62 u63 u64 u65 u66 u67 u68 u69 u70 u71 u72 u73 u74 u75 u76 u77 u78 u79 u80 u81 u82 u83 u84 u85 u86 u87 u88 u89 u90 u91 u92 u93 u94 u95 u96 u97 u98 u99 u100 u101 u102 u103 u104 u105 u106 u107 u108 u109 u110 u111 u112 u113 u114 u115 u116 u117 u118 u119 u120 u121 u122 u123 u124 u125 u126 u127 u128 u129 u130 u131 u132 u133 u134 u135 u136 u137 u138 u139 u140 u141 u142 u143 u144 u145 u146 u147 u148 u149 u150 u151 u152 u153 u154 u155 u156 u157 u158 u159 u160 u161 u162 u163 u164 u165 u166 u167 u168 u169 u170 u171 u172 u173 u174 u175 u176 u177 u178 u179 u180 u181 u182 u183 u184 u185 u186 u187 u188 u189 u190:Value)(code:Code)(hc:(((OK.body).bind (GT 18)).getD .skip)=code):
  Code.wp OG code (bodyPost OG OK (kx w R)) ⟨#[Y A n c,U O p1,U O ad,.agg #[U O la,V lh,U O lx,U O ly],undef,undef,undef,OF (some ⟨w.heap.size,0,none⟩),OF (some ⟨w.heap.size+1,0,none⟩),U O 0,U O 0,U O kd,u12,U O er,OF (some ⟨w3.heap.size,0,none⟩),U O 0,OF (some ⟨w3.heap.size+1,0,none⟩),U O i,undef,undef,undef,undef,undef,undef,u24,u25,u26,u27,u28,u29,u30,u31,u32,u33,u34,u35,u36,u37,u38,u39,u40,u41,u42,u43,u44,u45,u46,u47,u48,u49,u50,u51,u52,u53,u54,u55,u56,u57,u58,u59,u60,u61,u62,u63,u64,u65,u66,u67,u68,u69,u70,u71,u72,u73,u74,u75,u76,u77,u78,u79,u80,u81,u82,u83,u84,u85,u86,u87,u88,u89,u90,u91,u92,u93,u94,u95,u96,u97,u98,u99,u100,u101,u102,u103,u104,u105,u106,u107,u108,u109,u110,u111,u112,u113,u114,u115,u116,u117,u118,u119,u120,u121,u122,u123,u124,u125,u126,u127,u128,u129,u130,u131,u132,u133,u134,u135,u136,u137,u138,u139,u140,u141,u142,u143,u144,u145,u146,u147,u148,u149,u150,u151,u152,u153,u154,u155,u156,u157,u158,u159,u160,u161,u162,u163,u164,u165,u166,u167,u168,u169,u170,u171,u172,u173,u174,u175,u176,u177,u178,u179,u180,u181,u182,u183,u184,u185,u186,u187,u188,u189,u190],[]⟩ wc:=by
 subst hc
 have bE:aK (cH ad (ad - la) lh lx ly).1=true/\aK (cH ad (ad - la) lh lx ly).2=true:=by
  have h:=KT.out;unfold cu at h;simp only[OM,decide_eq_true_eq] at h;unfold cH
  split
  ·exact⟨rfl,rfl⟩
  ·exact⟨h.1.1.2,h.1.2⟩
 have Lm:J.wrap (ad - la)=ad - la:=by
  have h:=KT.out;have hg:=KX.out;unfold cu at h;simp only[OM,decide_eq_true_eq] at h;rw[X];omega
 have dE:=Z (λW=>wB ad (ad - la) lh lx ly W);obtain⟨⟨x1,y1⟩,Lb⟩:∃q,cH ad (ad - la) lh lx ly=q:=⟨_,rfl⟩;rw[Lb] at HR dE bE;dsimp only at HR dE bE;have Lk:=Z bE;obtain⟨⟨⟨va,vb⟩,vp,ve⟩,j⟩:∃q,mv l kd qp x1 y1=q:=⟨_,rfl⟩;have HV:=Z j;obtain⟨E2,KZ⟩:∃E,(if er=0 then ve else er)=E:=⟨_,rfl⟩;have KK:=Z KZ;have fW:=Z (show 0<=p1/\p1<=8*(n:Int)+5 from⟨L7,B⟩);clear Lb bE j KZ L7 B;have q2:=C.out.2.1.tail.tail.tail.head.cell 2;(try dsimp only at q2);dsimp only
 conv=>arg 2;whnf
 go_upto_region 18 with fail
 go_cut [91] (λLp wx=>wc=wx/\Lp=V (pV kd&&er==0))
 case first=>
  obtain⟨bV,eE⟩:∃b,pV kd=b:=⟨_,rfl⟩;rw[eE] at q2;have rX:=Z eE;clear eE
  cases bV with
  |false=>
   go_wp2_with fail
   go_meet
   case rel=>exact⟨rfl,by rw[rX.out];rfl⟩
  |true=>
   go_wp2_with fail
   go_meet
   case rel=>exact⟨rfl,by rw[rX.out];rfl⟩
 obtain⟨rfl,rfl⟩:=hcut;clear q2;obtain⟨bv,eE⟩:∃b,(pV kd&&er==0)=b:=⟨_,rfl⟩;rw[eE];have KW:=Z eE;clear eE
 go_upto_if 91 with fail
 go_cut [1,13] (λs1 KR wx=>∃p vx vy:Int,s1=U O p/\KR=U O E2/\0<=p/\p<=8*(n:Int)+5/\Hid (E2=0->er=0/\p=vp/\vx=va/\vy=vb/\p<=8*(n:Int))/\Hid (ar w [(w3.heap.size+1,55,#[U O ad,U O kd,U O qv,U O vx,U O vy,U O 0,Y none 0 0]),(w.heap.size+1,55,bP m0 (Y none 0 0)),(w.heap.size,102,#[U O la,V lh,U O lx,U O ly]),(w3.heap.size,110,#[V (pI kd),V (pQ kd),V (pV kd),V (pF kd),V (pC kd)])] [] wx))
 case first=>
  have hb:=KW.out;have hE:=KK.out;have B:=fW.out
  cases bv with
  |false=>
   have hrel:(E2=er)/\(E2=0->er=0/\p1=vp/\(0:Int)=va/\(0:Int)=vb/\p1<=8*(n:Int)):=by
    by_cases K:er=0
    ·have K1:pV kd=false:=by simpa [K] using hb
     rw[if_pos K] at hE;obtain⟨h1,h2,h3⟩:=K8.out K;have j:=HV.out;unfold mv at j;rw[K1,if_neg OD] at j;injection j with i1 i2;injection i1 with i3 i4;injection i2 with i5 i6;exact⟨by omega,λ_=>⟨K,by omega,i3,i4,h3⟩⟩
    ·rw[if_neg K] at hE
     exact⟨hE.symm,λh=>absurd (hE.trans h) K⟩
   have cz:=Z hrel;clear hrel hb hE;go_wp2_with fail
   go_meet
   case rel=>exact⟨p1,0,0,rfl,by rw[cz.out.1],B.1,B.2,Z cz.out.2,C⟩
  |true=>
   have KM:pV kd=true/\er=0:=(by simpa using hb);obtain⟨K1,K⟩:=KM;rw[if_pos K] at hE;obtain⟨g1,g2,g3⟩:=K8.out K;have j:=HV.out;unfold mv at j;rw[K1,if_pos rfl] at j;dsimp only at j;subst K;rw[<-g1] at j;have bE:=Lk.out;have KN:=B.1;have jT:=Z (λW hW=>sX A n c l p1 x1 W hW HN.out I.out (by have:=I.out;omega) bE.1);have dD:= @Bv l p1 x1 KN (by have:=HN.out;omega);have J2:= @Bw l p1 x1;have K0:= @EQ l p1 x1;obtain⟨⟨X1,K3,e1⟩,KO⟩:∃q,iB l p1 x1=q:=⟨_,rfl⟩;rw[KO] at jT dD J2 K0;dsimp only at jT dD J2 K0;rw[HN.out] at dD;have Le:J.wrap (p1+K3)=p1+K3:=(by have:=I.out;rw[X];omega);have l0:=C.out.2.1.tail.tail.head.cell 0;have l1:=C.out.2.1.tail.tail.head.cell 1;have l2:=C.out.2.1.tail.tail.head.cell 2;have l3:=C.out.2.1.tail.tail.head.cell 3;(try dsimp only at l0 l1 l2 l3)
   by_cases kz:e1=0
   ·subst kz
    have Ld:=K0 rfl;rw[Ld] at j;dsimp only at j;rw[if_neg (by decide)] at j;obtain⟨p2,KF⟩:∃p2,p1+K3=p2:=⟨_,rfl⟩;have Lq:J.wrap (p1+K3)=p2:=Le.trans KF;clear Le;rw[KF] at j dD;have Kr:=Z (λW hW=>sX A n c l p2 y1 W hW HN.out I.out (by have:=I.out;omega) bE.2);have M:= @Bv l p2 y1 (by omega) (by have:=HN.out;omega);have gy:= @Bw l p2 y1;have gJ:= @EQ l p2 y1;obtain⟨⟨Y1,K4,e2⟩,Lc⟩:∃q,iB l p2 y1=q:=⟨_,rfl⟩;rw[Lc] at Kr M gy gJ;dsimp only at Kr M gy gJ;rw[HN.out] at M;have Lr:J.wrap (p2+K4)=p2+K4:=by have:=I.out;rw[X];omega
    have N:E2=e2/\(E2=0->(0:Int)=0/\p2+K4=vp/\X1=va/\Y1=vb/\p2+K4<=8*(n:Int)):=by
     by_cases KE:e2=0
     ·subst KE
      rw[gJ rfl] at j;dsimp only at j;rw[if_neg (by decide)] at j;injection j with i1 i2;injection i1 with i3 i4;injection i2 with i5 i6;exact⟨by omega,λ_=>⟨rfl,i5,i3,i4,M.2⟩⟩
     ·have h3:=gy KE
      rw[if_pos (by rw[h3];simpa using KE)] at j;injection j with i1 i2;injection i2 with i5 i6;rw[h3] at i6;exact⟨by omega,λh=>absurd (by omega) KE⟩
    have HF:=Z N;have KU:=Z M;have Lh:=Z KF;have K5:=Z dD;clear N j Ld J2 K0 gy gJ M dD KO Lc hE hb K1 g1 g2 g3 bE B KN;clear KF;go_wp2_with (first|(go_at_call 118;refine(dE.out _).mono ?_;rintro e w' ⟨rfl,rfl⟩;clear dE)|(go_at_call 193;refine(jT.out _ (HA.out.below C.out.1)).mono ?_;rintro e w6 ⟨rfl,dt⟩;clear jT l0 l1 l2 l3;have aB:=aO C.out dt;have k3:=aB.2.1.head.cell 3;have KI:=aB.2.1.head.frozen 3;(try dsimp only at k3 KI);have Ip:=bB aB (by have:=D.out;omega) 3 (U O X1) (by simp;have:=D.out;omega) (by simp);have G:=Z Ip;clear dt aB Ip)|(go_at_call 193;refine(Kr.out _ (HA.out.below G.out.1)).mono ?_;rintro e w8 ⟨rfl,L5⟩;clear Kr;have aC:=aO G.out L5;have k4:=aC.2.1.head.cell 4;have Ln:=aC.2.1.head.frozen 4;(try dsimp only at k4 Ln);have ja:=Z (bB aC (by have:=D.out;omega) 4 (U O Y1) (by simp;have:=D.out;omega) (by simp));clear L5 aC k3 KI))
    go_meet
    case rel=>exact⟨p2+K4,X1,Y1,rfl,by rw[HF.out.1],by have:=KU.out;have:=K5.out;have:=Lh.out;have:=fW.out;omega,by have:=KU.out;omega,Z HF.out.2,Z ja.out⟩
   ·have h3:=J2 kz
    rw[if_pos (by rw[h3];simpa using kz)] at j;injection j with i1 i2;injection i2 with i5 i6;rw[h3] at i6;have HF:=Z (show E2=e1 by omega);have Lj:=Z kz;have K5:=Z dD;have d5:(e1==0)=false:=(by simpa using kz);clear J2 K0 dD KO hE hb K1 g1 g2 g3 bE B KN kz h3 i1 i5 i6;go_wp2_with (first|(go_at_call 118;refine(dE.out _).mono ?_;rintro e w' ⟨rfl,rfl⟩;clear dE)|(go_at_call 193;refine(jT.out _ (HA.out.below C.out.1)).mono ?_;rintro e w6 ⟨rfl,dt⟩;clear jT l0 l1 l2 l3;have aB:=aO C.out dt;have k3:=aB.2.1.head.cell 3;have KI:=aB.2.1.head.frozen 3;(try dsimp only at k3 KI);have Ip:=bB aB (by have:=D.out;omega) 3 (U O X1) (by simp;have:=D.out;omega) (by simp);have G:=Z Ip;clear dt aB Ip))
    go_meet
    case rel=>exact⟨p1+K3,X1,0,rfl,by rw[HF.out],by have:=K5.out;have:=fW.out;omega,by have:=K5.out;omega,Z (λh=>absurd (by have:=HF.out;omega) Lj.out),Z G.out⟩
 obtain⟨p3,vx,vy,rfl,rfl,L8,T,K9,hU⟩:=hcut;obtain⟨KQ,KJ⟩:∃q:Int,(if pI kd then 63 else 0)=q:=⟨_,rfl⟩;have Io:=Z KJ;have wj:=Z (show 0<=p3/\p3<=8*(n:Int)+5 from⟨L8,T⟩);have q0:=hU.out.2.1.tail.tail.tail.head.cell 0;have Lf:=hU.out.2.1.head.cell 5;have Lg:=hU.out.2.1.head.frozen 5;(try dsimp only at q0 Lf Lg);clear KJ L8 T C KW Lm dE
 go_upto_if 134 with fail
 go_cut [1] (λs1 wx=>s1=U O p3/\Hid (ar w [(w3.heap.size+1,55,#[U O ad,U O kd,U O qv,U O vx,U O vy,U O KQ,Y none 0 0]),(w.heap.size+1,55,bP m0 (Y none 0 0)),(w.heap.size,102,#[U O la,V lh,U O lx,U O ly]),(w3.heap.size,110,#[V (pI kd),V (pQ kd),V (pV kd),V (pF kd),V (pC kd)])] [] wx))
 case first=>
  have Iq:=Io.out;obtain⟨bI,L6⟩:∃b,pI kd=b:=⟨_,rfl⟩;rw[L6] at q0 Iq⊢;clear L6
  cases bI with
  |false=>
   rw[if_neg OD] at Iq;subst Iq;go_wp2_with fail
   go_meet
   case rel=>exact⟨rfl,hU⟩
  |true=>
   rw[if_pos rfl] at Iq;subst Iq;go_wp2_with fail
   go_meet
   case rel=>exact⟨rfl,Z (bB hU.out (by have:=D.out;omega) 5 (U O 63) (by simp;have:=D.out;omega) (by simp))⟩
 obtain⟨rfl,G⟩:=hcut;clear q0 Lf Lg hU;obtain⟨⟨cp,cq,ce⟩,hc⟩:∃q,mc l kd vp=q:=⟨_,rfl⟩;have K6:=Z hc;obtain⟨E3,L0⟩:∃E,(if E2=0 then ce else E2)=E:=⟨_,rfl⟩;have KL:=Z L0;clear hc L0;have q4:=G.out.2.1.tail.tail.tail.head.cell 4;(try dsimp only at q4)
 go_upto_region 27 with fail
 go_cut [141] (λs wx=>wc=wx/\s=V (pC kd&&E2==0))
 case first=>
  obtain⟨bC,dY⟩:∃b,pC kd=b:=⟨_,rfl⟩;rw[dY] at q4;have rX:=Z dY;clear dY
  cases bC with
  |false=>
   go_wp2_with fail
   go_meet
   case rel=>exact⟨rfl,by rw[rX.out];rfl⟩
  |true=>
   go_wp2_with fail
   go_meet
   case rel=>exact⟨rfl,by rw[rX.out];rfl⟩
 obtain⟨rfl,rfl⟩:=hcut;clear q4;obtain⟨bc,dY⟩:∃b,(pC kd&&E2==0)=b:=⟨_,rfl⟩;rw[dY];have KV:=Z dY;clear dY
 go_upto_if 141 with fail
 go_cut [1,13] (λs1 KR wx=>∃p pa:Int,s1=U O p/\KR=U O E3/\0<=p/\p<=8*(n:Int)+5/\Hid (E3=0->E2=0/\p=cq/\pa=cp/\p<=8*(n:Int))/\Hid (ar w [(w3.heap.size+1,55,#[U O ad,U O kd,U O qv,U O vx,U O vy,U O pa,Y none 0 0]),(w.heap.size+1,55,bP m0 (Y none 0 0)),(w.heap.size,102,#[U O la,V lh,U O lx,U O ly]),(w3.heap.size,110,#[V (pI kd),V (pQ kd),V (pV kd),V (pF kd),V (pC kd)])] [] wx))
 case first=>
  have hb:=KV.out;have hE:=KL.out;have T:=wj.out
  cases bc with
  |false=>
   have hrel:(E3=E2)/\(E3=0->E2=0/\p3=cq/\KQ=cp/\p3<=8*(n:Int)):=by
    by_cases K:E2=0
    ·have KG:pC kd=false:=by simpa [K] using hb
     rw[if_pos K] at hE;obtain⟨_,h1,_,_,h3⟩:=K9.out K;have j:=K6.out;unfold mc at j;rw[KG,if_neg OD,Io.out] at j;injection j with i1 i2;injection i2 with i5 i6;exact⟨by omega,λ_=>⟨K,by omega,i1,h3⟩⟩
    ·rw[if_neg K] at hE
     exact⟨hE.symm,λh=>absurd (hE.trans h) K⟩
   have cz:=Z hrel;clear hrel hb hE;go_wp2_with fail
   go_meet
   case rel=>exact⟨p3,KQ,rfl,by rw[cz.out.1],T.1,T.2,Z cz.out.2,G⟩
  |true=>
   have KM:pC kd=true/\E2=0:=(by simpa using hb);obtain⟨KG,K⟩:=KM;rw[if_pos K] at hE;obtain⟨_,g1,_,_,g3⟩:=K9.out K;have j:=K6.out;unfold mc at j;rw[KG,if_pos rfl,<-g1] at j;dsimp only at j;have CT:=Z (λW hW=>EU A n c l p3 W hW HN.out I.out (by have:=I.out;omega));have K2:= @g8 bo bN l p3 T.1 (by have:=HN.out;omega);have KH:= @Br l p3;have KC:= @Fo bo bN l p3;obtain⟨⟨r1,r2,r3⟩,hr⟩:∃r,ac bo bN l p3=r:=⟨_,rfl⟩;rw[hr] at CT j K2 KH KC;dsimp only at CT j K2 KH KC;rw[HN.out] at K2
   have N:E3=r3/\0<=r2/\p3+r2<=8*(n:Int)/\(E3=0->(0:Int)=0/\p3+r2=cq/\r1=cp/\p3+r2<=8*(n:Int)):=by
    by_cases he:r3=0
    ·subst he
     rw[if_neg (by decide)] at j;injection j with i1 i2;injection i2 with i5 i6;have h1:=K2 rfl;have h2:=(KH rfl).1;exact⟨by omega,by omega,h1,λ_=>⟨rfl,i5,i1,h1⟩⟩
    ·rw[if_pos (by simpa using he)] at j
     injection j with i1 i2;injection i2 with i5 i6;obtain⟨_,h2⟩:=KC he;exact⟨by omega,by omega,by omega,λh=>absurd (by omega) he⟩
   have HF:=Z N;have Ls:J.wrap (p3+r2)=p3+r2:=(by have:=N;have:=I.out;rw[X];omega);subst K;clear N j K2 KH KC hr hE hb KG g1 g3;go_wp2_with (go_at_call 194;refine(CT.out _ (HA.out.below G.out.1)).mono ?_;rintro e w6 ⟨rfl,dt⟩;have aC:=aO G.out dt;have k5:=aC.2.1.head.cell 5;have Lo:=aC.2.1.head.frozen 5;(try dsimp only at k5 Lo);have ja:=Z (bB aC (by have:=D.out;omega) 5 (U O r1) (by simp;have:=D.out;omega) (by simp));clear dt aC)
   go_meet
   case rel=>exact⟨p3+r2,r1,rfl,by rw[HF.out.1],by have:=HF.out;have:=wj.out;omega,by have:=HF.out;omega,Z HF.out.2.2.2,Z ja.out⟩
 obtain⟨p4,pa,rfl,rfl,L9,La,KY,ja⟩:=hcut
 have L4:(E3≠0->R=(m0,0,E3))/\(E3=0->(if (bg l (pI kd) (bO pa) p4).2.2 !=0 then(m0,0,(bg l (pI kd) (bO pa) p4).2.2) else((⟨ad,kd,qv,vx,vy,pa,(bg l (pI kd) (bO pa) p4).1⟩:aT),(bg l (pI kd) (bO pa) p4).2.1 - i,(0:Int)))=R/\0<=p4/\p4<=8*(n:Int)):=by
  have hr:=HR.out;unfold rV rC at hr;rw[HV.out] at hr;dsimp only at hr;rw[K6.out] at hr;dsimp only at hr;have e2:=KK.out;have e3:=KL.out
  by_cases h1:er=0
  ·rw[if_pos h1] at e2
   rw[if_neg (by rw[h1];decide)] at hr
   by_cases h2:E2=0
   ·rw[if_pos h2] at e3
    rw[if_neg (by rw[e2,h2];decide)] at hr;obtain⟨_,_,hx,hy,_⟩:=K9.out h2;obtain⟨_,hq,_⟩:=K8.out h1
    by_cases h3:E3=0
    ·rw[if_neg (by rw[e3,h3];decide)] at hr
     obtain⟨_,g1,g2,g3⟩:=KY.out h3;refine⟨λh=>absurd h3 h,λ_=>⟨?_,L9,g3⟩⟩;rw[g1,g2,hx,hy,hq];exact hr
    ·rw[if_pos (by rw[e3];simpa using h3)] at hr
     exact⟨λ_=>by rw[<-hr,e3],λh=>absurd h h3⟩
   ·rw[if_neg h2] at e3
    rw[if_pos (by rw[e2];simpa using h2)] at hr;exact⟨λ_=>by rw[<-hr,e2,e3],λh=>absurd (e3.trans h) h2⟩
  ·rw[if_neg h1] at e2
   rw[if_pos (by simpa using h1)] at hr;have h2:E2≠0:=(by omega);rw[if_neg h2] at e3;exact⟨λ_=>by rw[<-hr];congr 2;omega,λh=>absurd (e3.trans h) h2⟩
 obtain⟨bI,Ll⟩:∃b,pI kd=b:=⟨_,rfl⟩;rw[Ll] at L4 ja;clear KK KL HV K6 K9 K8 KY G HR KV Io wj fW;go_step
 exact F4 A n c l i ad la lx ly kd qv vx vy pa p4 E3 lh bI (pQ kd) (pV kd) (pF kd) (pC kd) R w w3 wc HA HN I KX Li D L4 L9 La ja _ _ _ _ _ _ _ _ _ _ _ _ _ _ _ _ _ _ _ _ _ _ _ _ _ _ _ _ _ _ _ _ _ _ _ _ _ _ _ _ _ _ _ _ _ _ _ _ _ _ _ _ _ _ _ _ _ _ _ _ _ _ _ _ _ _ _ _ _ _ _ _ _ _ _ _ _ _ _ _ _ _ _ _ _ _ _ _ _ _ _ _ _ _ _ _ _ _ _ _ _ _ _ _ _ _ _ _ _ _ _ _ _ _ _ _ _ _ _ _ _ _ _ _ _ _ _ _ _ _ _ _ _ _ _ _ _ _ _ _ _ _ _ _ _ _ _ _ _ _ _ _ _ _ _ _ _ _ _ _ _ _ _ _ _ _ _ _ _ _ _ (by kernel_rfl)
theorem Dp (A:Option Addr)(n c:Nat)(l:List UInt8)(i ad:Int)(x:bi)(w:World)(hA:Sl w A (l.map af))(hn:OC l=n)(hsz:n<=2 ^ 47)(hi: -9223372036854775808<=i/\i<=9223372036854775807)(KM:0<=i/\1<=ad/\ad<=33/\cu x ad=true/\i<=8*(n:Int)/\(ac ay aG l i).2.2=0):
  Calls OG 150 #[Y A n c,U O i,U O ad,dK x] w (kx w (b9 l i ad x)):=by
 have CA:=Z (λW=>qZ x ad W);obtain⟨R,M⟩:∃R,b9 l i ad x=R:=⟨_,rfl⟩;rw[M];rw[xS] at M;obtain⟨KH,KI,KJ,wj,KK,dY⟩:=KM;have HA:=Z hA;have HN:=Z hn;have D:=Z hsz;have HI:=Z hi;obtain⟨ah,eE⟩:∃b,cu x ad=b:=⟨_,rfl⟩;rw[eE] at M CA;have hU:=Z eE;unfold dK;obtain⟨la,lh,lx,ly⟩:=x;dsimp only at CA M⊢
 have J2:ar w [(w.heap.size+1,55,bP m0 (Y none 0 0)),(w.heap.size,102,#[U O la,V lh,U O lx,U O ly])] [] ((w.alloc (OE #[U O la,V lh,U O lx,U O ly] 102)).alloc (OE (bP m0 (Y none 0 0)) 55)):=
  ⟨((Below.refl _ w).alloc (OQ _) _).alloc (by simp) _,aa.cons (aH (ab.new _ _ _) (by simp)) (aa.cons ((ab.new w _ _).alloc _) (ag _)),aA _⟩
 have jT:=Z J2;clear hA hn hsz hi eE J2
 by_cases g1:i<0
 ·exact absurd g1 (by omega)
 have d1:decide (i<0)=false:=decide_eq_false g1
 by_cases g2:ad<1
 ·exact absurd g2 (by omega)
 have d2:decide (ad<1)=false:=decide_eq_false g2
 by_cases g3:33<ad
 ·exact absurd g3 (by omega)
 have d3:decide (33<ad)=false:=decide_eq_false g3;rw[if_neg (by omega)] at M;have T:=Z (show 0<=i/\1<=ad/\ad<=33 by omega);clear g1 g2 g3
 cases ah with
 |false=>
  rw[hU.out] at wj;cases wj
 |true=>
 simp only[Bool.not_true,OI,if_false] at M;have CK:=Z (λW=>bh A n c W D.out)
 by_cases g4:8*(n:Int)<i
 ·exact absurd g4 (by omega)
 have d4:decide (8*(n:Int)<i)=false:=decide_eq_false g4;have kz:=Z (show i<=8*(n:Int) by omega);clear g4;have CG:=Z (λW hW=>vv A n c l i W hW HN.out D.out HI.out);have aC:=Z (@rA l i);have aB:=Z (@g8 ay aG l i (by have:=T.out;omega) (by have:=kz.out;have:=HN.out;omega));obtain⟨⟨kd,kb,ke⟩,hk⟩:∃k,ac ay aG l i=k:=⟨_,rfl⟩;rw[hk] at M CG aC aB dY;dsimp only at M CG aC aB dY;clear hk
 cases N:(ke !=0) with
 |true=>
  rw[dY] at N;cases N
 |false=>
 rw[if_neg (by rw[N];decide)] at M;have KN:ke=0:=by simpa using N
 subst KN;have cz:=aC.out rfl;have I:=aB.out rfl;rw[HN.out] at I;have KC:=Z cz;have rX:=Z I;have CO:=Z (λW=>rM kd W);unfold nt ui at CO;rw[cz.1,if_pos rfl] at CO;have HR:=Z M;have K6:J.wrap (i+kb)=i+kb:=by have:=T.out;have:=D.out;have:=cz.2.2;rw[X];omega
 clear M N cz I aC aB KH KI KJ KK
 go_enter Tryz.func150,Tryz.ntmps150
 go_wp2_with fail
 refine(CA.out _).mono ?_;rintro e w1 ⟨rfl,Io⟩;have dD:=Z (aO jT.out Io);clear Io jT CA;go_wp2_with (go_at_call 92;refine(CK.out _).mono ?_;rintro e w' ⟨rfl,rfl⟩)
 refine(CG.out _ (HA.out.below dD.out.1)).mono ?_;rintro e w2 ⟨rfl,Ip⟩;have dE:=Z (aO dD.out Ip);clear Ip dD CG CK;go_wp2_with fail
 refine(CO.out _).mono ?_;rintro e K ⟨rfl,fW⟩;have bE:=ao (ao (aO dE.out fW) (OE #[V (pI kd),V (pQ kd),V (pV kd),V (pF kd),V (pC kd)] 110)) (OE #[U O ad,U O kd,U O 0,U O 0,U O 0,U O 0,Y none 0 0] 55);have K4:=(ab.new K 110 #[V (pI kd),V (pQ kd),V (pV kd),V (pF kd),V (pC kd)]).alloc (OE #[U O ad,U O kd,U O 0,U O 0,U O 0,U O 0,Y none 0 0] 55);have gy:=ab.new (K.alloc (OE #[V (pI kd),V (pQ kd),V (pV kd),V (pF kd),V (pC kd)] 110)) 55 #[U O ad,U O kd,U O 0,U O 0,U O 0,U O 0,Y none 0 0];have K5:(K.alloc (OE #[V (pI kd),V (pQ kd),V (pV kd),V (pF kd),V (pC kd)] 110)).heap.size=K.heap.size+1:=by rw[ON]
 rw[K5] at gy;have K0:ar w [(K.heap.size+1,55,#[U O ad,U O kd,U O 0,U O 0,U O 0,U O 0,Y none 0 0]),(w.heap.size+1,55,bP m0 (Y none 0 0)),(w.heap.size,102,#[U O la,V lh,U O lx,U O ly]),(K.heap.size,110,#[V (pI kd),V (pQ kd),V (pV kd),V (pF kd),V (pC kd)])] [] _:=⟨bE.1,aa.cons gy (aa.cons bE.2.1.head (aa.cons bE.2.1.tail.head (aa.cons K4 (ag _)))),aA _⟩;have K1:w.heap.size+2<=K.heap.size:=by have:=dE.out.2.1.head.lt;have:=fW.size;dsimp only at*;omega
 have C:=Z K1;have B:=Z K0;clear bE K4 gy K5 K0 K1 fW CO dE
 go_upto_if 69 with fail
 obtain⟨p0,K2⟩:∃p,i+kb=p:=⟨_,rfl⟩;have dt:0<=p0/\p0<=8*(n:Int):=by have:=T.out;have:=KC.out.2.2;have:=rX.out;omega
 rw[K2] at K6 HR⊢;have KF:=Z dt;obtain⟨⟨qq,qp,er⟩,j⟩:∃q,mq l kd p0=q:=⟨_,rfl⟩;rw[j] at HR;dsimp only at HR;have HQ:=Z j;have KL:1<=K.heap.size+1 - w.heap.size:=by have:=C.out;omega
 generalize (K.alloc (OE #[V (pI kd),V (pQ kd),V (pV kd),V (pF kd),V (pC kd)] 110)).alloc (OE #[U O ad,U O kd,U O 0,U O 0,U O 0,U O 0,Y none 0 0] 55)=w4 at B⊢;have q1:=B.out.2.1.tail.tail.tail.head.cell 1;have K8:=B.out.2.1.head.cell 2;have K9:=B.out.2.1.head.frozen 2;(try dsimp only at q1 K8 K9);clear K2 dt j K6 rX KL
 go_cut [1,13] (λs1 KO wx=>∃p qv:Int,s1=U O p/\KO=U O er/\0<=p/\p<=8*(n:Int)+5/\Hid (er=0->p=qp/\qv=qq/\p<=8*(n:Int))/\Hid (ar w [(K.heap.size+1,55,#[U O ad,U O kd,U O qv,U O 0,U O 0,U O 0,Y none 0 0]),(w.heap.size+1,55,bP m0 (Y none 0 0)),(w.heap.size,102,#[U O la,V lh,U O lx,U O ly]),(K.heap.size,110,#[V (pI kd),V (pQ kd),V (pV kd),V (pF kd),V (pC kd)])] [] wx))
 case first=>
  have j:=HQ.out;unfold mq at j;rw[HN.out] at j;obtain⟨bQ,Iq⟩:∃b,pQ kd=b:=⟨_,rfl⟩;rw[Iq] at q1 j⊢;clear Iq;have hp:=KF.out
  cases bQ with
  |false=>
   rw[if_neg OD] at j;injection j with i1 j;injection j with i2 i3;subst i1 i2 i3;go_wp2_with fail
   go_meet
   case rel=>exact⟨p0,0,rfl,rfl,by omega,by omega,Z (λ_=>⟨rfl,rfl,by omega⟩),B⟩
  |true=>
   rw[if_pos rfl] at j;have KQ:J.wrap (p0+5)=p0+5:=by have:=D.out;rw[X];omega
   by_cases hm:8*(n:Int)<p0+5
   ·rw[if_pos hm] at j
    injection j with i1 j;injection j with i2 i3;subst i1 i2 i3;have CR:=Z (λW=>cZ A n c p0 5 W (by omega) (by decide) (by decide) hm (by have:=D.out;omega) D.out);have G:=Z hp;clear hm hp;go_wp2_with (go_at_call 91;refine(CR.out _).mono ?_;rintro e w' ⟨rfl,rfl⟩)
    go_meet
    case rel=>
     have h5:=bB B.out (by have:=C.out;omega) 2 (U O 0) (by simp;have:=C.out;omega) (by simp);exact⟨p0+5,0,rfl,rfl,by have:=G.out;omega,by have:=G.out;omega,Z (λh=>by cases h),Z h5⟩
   ·rw[if_neg hm] at j
    have CR:=Z (λW hW=>dL A n c l p0 5 W hW HN.out (by omega) (by decide) (by decide) (by omega) D.out);rw[show (5:Int).toNat=5 from rfl] at CR;have hx:=cW l p0.toNat 5;generalize au l p0.toNat 5=x at j hx CR;have G:=Z hp;have KE:=Z hm;have ja:=Z (HA.out.below B.out.1);clear hm hp hx
    by_cases gJ:x=0
    ·subst gJ
     rw[if_pos (by rfl)] at j;injection j with i1 j;injection j with i2 i3;subst i1 i2 i3;go_wp2_with (go_at_call 91;refine(CR.out _ ja.out).mono ?_;rintro e w' ⟨rfl,rfl⟩)
     go_meet
     case rel=>
      have h5:=bB B.out (by have:=C.out;omega) 2 (U O 0) (by simp;have:=C.out;omega) (by simp);exact⟨p0+5,0,rfl,rfl,by have:=G.out;omega,by have:=G.out;omega,Z (λh=>by cases h),Z h5⟩
    ·rw[if_neg (by simpa using gJ)] at j
     injection j with i1 j;injection j with i2 i3;subst i1 i2 i3;have e0:((x:Int)==0)=false:=(by rw[beq_eq_false_iff_ne];omega);clear gJ;go_wp2_with (go_at_call 91;refine(CR.out _ ja.out).mono ?_;rintro e w' ⟨rfl,rfl⟩)
     go_meet
     case rel=>
      have h5:=bB B.out (by have:=C.out;omega) 2 (U O (x:Int)) (by simp;have:=C.out;omega) (by simp);exact⟨p0+5,(x:Int),rfl,rfl,by have:=G.out;omega,by have:=G.out;omega,Z (λ_=>⟨rfl,rfl,by have:=KE.out;omega⟩),Z h5⟩
 obtain⟨p1,qv,rfl,rfl,dt,K3,KG,Kr⟩:=hcut;clear q1 K8 K9 B HQ;go_step
 exact If A n c l i ad la lx ly kd p1 qv er qq qp lh R w K wc HA HN D T kz hU C HR dt K3 KG Kr _ _ _ _ _ _ _ _ _ _ _ _ _ _ _ _ _ _ _ _ _ _ _ _ _ _ _ _ _ _ _ _ _ _ _ _ _ _ _ _ _ _ _ _ _ _ _ _ _ _ _ _ _ _ _ _ _ _ _ _ _ _ _ _ _ _ _ _ _ _ _ _ _ _ _ _ _ _ _ _ _ _ _ _ _ _ _ _ _ _ _ _ _ _ _ _ _ _ _ _ _ _ _ _ _ _ _ _ _ _ _ _ _ _ _ _ _ _ _ _ _ _ _ _ _ _ _ _ _ _ _ _ _ _ _ _ _ _ _ _ _ _ _ _ _ _ _ _ _ _ _ _ _ _ _ _ _ _ _ _ _ _ _ _ _ _ _ _ _ (by kernel_rfl)
theorem EZ (A:Option Addr)(n c:Nat)(l:List UInt8)(i ad:Int)(x:bi)(w:World)(j:Sl w A (l.map af))(C:OC l=n)(hsz:n<=2 ^ 47)(B: -9223372036854775808<=i/\i<=9223372036854775807):
  Calls OG 150 #[Y A n c,U O i,U O ad,dK x] w (kx w (b9 l i ad x)):=by
 by_cases h:0<=i/\1<=ad/\ad<=33/\cu x ad=true/\i<=8*(n:Int)/\(ac ay aG l i).2.2=0
 ·exact Dp A n c l i ad x w j C hsz B h
 ·exact Do A n c l i ad x w j C hsz B h
end Go.Proofs.YthhijgcfbjcgiaaGreatDoor
