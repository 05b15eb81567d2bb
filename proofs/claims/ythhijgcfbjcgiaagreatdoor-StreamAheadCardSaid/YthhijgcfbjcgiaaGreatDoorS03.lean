/- StrB, StrA, StrG, StrM, StrC, StrV, StrL -/
import Derived.Test.YthhijgcfbjcgiaaGreatDoorS02
namespace Go.Proofs.YthhijgcfbjcgiaaGreatDoor
open Go Go.RowKit
open List renaming length_append→zAA,isPrefixOf_iff_prefix→zAC,length_cons→zAD,append_assoc→zAF,prefix_or_prefix_of_prefix→zAI,mem_cons_of_mem→zAJ,replicate→zAL,getD→zAN,nil_prefix→zAO,map_congr_left→zAR,getElem?_append_left→zAU,getElem_replicate→zAV,cons_prefix_cons→zAW,getElem?_eq_none→zAX,getElem_of_mem→zAZ,getElem_range→zA0,any_eq_true→zA3,getElem_map→zA4,prefix_refl→zA5,append_nil→zA7,length_nil→zA8,nil_append→zA9,mem_range→zAa
open Bool renaming and_eq_true→zAB,false_eq_true→zAH,not_eq_true→zAQ,eq_false_iff→zA2,eq_iff_iff→zA6,true_and→zAb
open Nat renaming lt_or_ge→zAE,le_refl→zAG,zero_le→zAK,add_assoc→zAM,eq_or_lt_of_le→zAT,zero_add→zA1,mul_comm→zAc,pow_succ→zAd
open Int renaming toNat_natCast→zAP,le_refl→zAS,toNat_of_nonneg→zAY
theorem Ap {l:List UInt8} {p:Nat} {c:UInt8} {t:List UInt8} (h:At l p (c::t)):p+1≤8*l.length∧cW l p=c∧At l (p+1) t:=by
 have h1:=At.app (s:=[c]) (t:=t) h
 refine ⟨h1.1.1,?_,h1.2⟩
 have:=h1.1.2
 simpa [aC] using this
theorem qi {l:List UInt8} {p:Nat} (h:cW l p=49):aP l p≠0:=fun h0=>by unfold cW at h;rw [if_pos h0] at h;cases h
theorem wz {l:List UInt8} {p:Nat} (h:cW l p=48):aP l p=0:=by
 by_cases h0:aP l p=0
 ·exact h0
 ·unfold cW at h;rw [if_neg h0] at h;cases h
theorem mP (b:UInt8) (sp:List UInt8):dw (b::sp)=49::(ax b.toNat 8++dw sp):=by simp [dw]
theorem yd {l:List UInt8}:∀(sp:List UInt8) (k p:Nat),sp.length≤k→At l p (dw sp)→cB l k p=(sp,p+(dw sp).length,0)
 |[],k,p,_,h=>by
  obtain ⟨h1,h2,_⟩:=Ap (c:=48) (t:=[]) h
  rw [cB.eq_def]
  simp only [wz h2,if_true]
  rw [if_neg (by omega)]
  rfl
 |b::sp,k,p,hk,h=>by
  rw [mP] at h
  obtain ⟨h1,h2,h3⟩:=Ap h
  obtain ⟨h4,h5⟩:=h3.app
  rw [aJ] at h5
  cases k with
  |zero=>simp at hk
  |succ k=>
   have ih:=yd sp k (p+9) (by simpa using hk) (by rw [show p+9=p+1+8 by omega];exact h5)
   rw [cB.eq_def]
   dsimp only
   rw [if_neg (by omega),if_neg (qi h2),if_neg (by have:=h4.1;rw [aJ] at this;omega),ih,pE h4 (by have:=b.toNat_lt;omega),mP]
   have e1:UInt8.ofNat b.toNat=b:=by simp
   rw [e1]
   simp [aJ]
   omega
theorem rL {l:List UInt8}:∀(k p:Nat),(∀j,p≤j→j<p+k→aP l j=0)→fo l k p=k
 |0,_,_=>rfl
 |k+1,p,h=>by
  rw [fo,if_pos (h p (by omega) (by omega)),rL k (p+1) (fun j h1 h2=>h j (by omega) (by omega))]
theorem rM {l:List UInt8}:∀(z k p:Nat),z<k→(∀j,p≤j→j<p+z→aP l j=0)→aP l (p+z)≠0→fo l k p=z
 |0,k+1,p,_,_,h=>by rw [fo,if_neg (by simpa using h)]
 |z+1,k+1,p,hk,h0,h=>by
  rw [fo,if_pos (h0 p (by omega) (by omega)),rM z k (p+1) (by omega) (fun j h1 h2=>h0 j (by omega) (by omega)) (by rw [show p+1+z=p+(z+1) by omega];exact h)]
theorem rO {l:List UInt8} {p:Nat} {s:List UInt8} (h:At l p s) (j:Nat) (hj:j<s.length):cW l (p+j)=s[j]:=by
 have h1:=h.2
 have h2:(aC l p s.length)[j]'(by rw [bi];exact hj)=s[j]:=by simp only [h1]
 unfold aC at h2
 rw [zA4,zA0] at h2
 exact h2
theorem BH:ax 1 16=a8++[49]:=by decide
theorem Cy {l:List UInt8} {p:Nat} {n:Int} {t:List UInt8} (h:At l p (dA n++t)):At l p a8:=by
 have h1:=h.app.1
 unfold dA at h1
 have h2:=h1.app.1
 rw [BH] at h2
 exact h2.app.1
theorem Gd {l:List UInt8} {p:Nat} {n:Int} (h0:0≤n) (h1:n≤15) (h:At l p (dA n)):cu l p=(n,p+20,0):=by
 unfold dA at h
 obtain ⟨h2,h3⟩:=h.app
 have hl:=h3.1
 rw [aJ,aJ] at hl
 rw [aJ] at h3
 rw [BH] at h2
 have hz:fo l (8*l.length - p) p=15:=by
  refine rM 15 _ p (by omega) (fun j a b=>?_) ?_
  ·obtain ⟨k,rfl⟩:∃k,j=p+k:=⟨j - p,by omega⟩
   refine wz ?_
   have hk:k<15:=by omega
   have hn:a8.length=15:=rfl
   rw [rO h2 k (by rw [zAA,hn];omega),List.getElem_append_left (by rw [hn];omega)]
   exact zAV ..
  ·refine qi ?_
   rw [rO h2 15 (by decide)]
   rfl
 unfold cu
 rw [hz]
 dsimp only
 rw [if_neg (by omega),if_neg (by omega),if_neg (by omega),show p+15+1=p+16 by omega,pE h3 (by omega)]
 rw [zAY h0]
theorem Bm {l:List UInt8} {p:Nat} {n:Int} (h0:0≤n) (h1:n≤15) (h:At l p (dA n)):cL l p n=(p+20,0):=by
 unfold cL
 rw [Gd h0 h1 h]
 simp
theorem cP (n:Int):(dA n).length=20:=by simp [dA,aJ]
theorem tx {l:List UInt8} {p m:Nat} {n:Int} (h0:0≤n) (h1:n.toNat<2 ^ m) (h:At l p (ax n.toNat m)):(aF l p m:Int)=n:=by
 rw [pE h h1,zAY h0]
theorem GV {l:List UInt8} {p:Nat} {x:nH} (hx:qJ x=true) (h:At l p (jE x)):eo l p=(x,p+(jE x).length,0):=by
 unfold qJ at hx
 simp only [zAB,decide_eq_true_eq] at hx
 obtain ⟨⟨⟨⟨a,b⟩,c⟩,d⟩,e⟩:=hx
 unfold jE at h
 obtain ⟨h1,h2⟩:=h.app
 obtain ⟨h3,h4⟩:=h2.app
 rw [aJ] at h3 h4
 rw [aJ] at h4
 have hl:=h4.1
 have hs:1≤(dw x.sp).length:=by simp [dw]
 have h5:=yd x.sp 32 (p+11) (by omega) (by rw [show p+11=p+5+6 by omega];exact h4)
 unfold eo
 rw [if_neg (by omega),h5]
 dsimp only
 rw [if_pos rfl,tx a (by omega) h1,tx c (by omega) h3]
 unfold jE
 simp [aJ]
 omega
theorem GR {l:List UInt8} {p:Nat} {qu:Int} {sp:List UInt8} (a:1≤qu) (b:qu≤31) (e:sp.length≤32) (h:At l p (ax qu.toNat 5++dw sp)):dH l p=((qu,sp),p+(ax qu.toNat 5++dw sp).length,0):=by
 obtain ⟨h1,h2⟩:=h.app
 rw [aJ] at h2
 have hl:=h2.1
 have h5:=yd sp 32 (p+5) e h2
 have hn:=tx (by omega) (by omega) h1
 unfold dH
 rw [if_neg (by omega),if_neg (by omega),h5]
 dsimp only
 rw [if_pos rfl,hn]
 simp [aJ]
 omega
def oQ (l:List UInt8) (p:Nat):Prop:=p≤8*l.length∧∀j,p≤j→j<8*l.length→aP l j=0
theorem xx {l:List UInt8} {p:Nat} (h:oQ l p):cA l p=true:=by
 unfold cA
 rw [rL _ p (fun j a b=>h.2 j a (by omega))]
 simp
theorem xw {l:List UInt8} {p k:Nat} (h:oQ l p) (hk:p+k≤8*l.length):aC l p k=zAL k 48:=by
 apply List.ext_getElem (by simp [bi])
 intro j h1 h2
 rw [bi] at h1
 have e:(aC l p k)[j]'(by rw [bi];exact h1)=cW l (p+j):=by
  unfold aC
  rw [zA4,zA0]
 rw [e,zAV]
 unfold cW
 rw [if_pos (h.2 _ (by omega) (by omega))]
def nK (l:List UInt8) (p:Nat):Prop:=At l p a8∨oQ l p
theorem Ez {l:List UInt8} {p:Nat} (h:nK l p) (f g:Int) (k:Nat) (x:bD):ba l f g (k+1) p x=([],p,0):=by
 have hs:At l p a8→ba l f g (k+1) p x=([],p,0):=fun h=>by
  rw [ba,Bt h]
  rfl
 rcases h with h|h
 ·exact hs h
 ·by_cases hc:p+15≤8*l.length
  ·exact hs ⟨by simpa [a8] using hc,by rw [show a8.length=15 from rfl,xw h hc];rfl⟩
  ·have hcut:o5 l p a8:=⟨h.1,by simp [a8];omega,by
    rw [xw h (by have:=h.1;omega)]
    unfold a8
    rw [List.take_replicate]
    congr 1
    omega⟩
   rw [ba,ET hcut]
   simp only [xx h]
   rfl
theorem tX {m:aU} (hm:rN m) {ad:Int} (h:m.ad<ad):dm (ez m) ad=true:=by
 unfold dm ez
 have h1:=hm.a1
 cases hv:pV m.kd with
 |true=>
  simp only [if_true,zAB,decide_eq_true_eq,Bool.true_or,and_true]
  exact ⟨⟨⟨by omega,h⟩,hm.px⟩,hm.py⟩
 |false=>
  simp only [zAH,if_false,zAB,decide_eq_true_eq]
  exact ⟨⟨⟨⟨by omega,h⟩,rfl⟩,rfl⟩,rfl⟩
theorem gL (m:aU):(ez m).ad=m.ad:=by unfold ez;split<;>rfl
theorem qA {ad:Int} (h:0<ad):dm b9 ad=true:=by
 unfold dm b9
 simp only [zAB,decide_eq_true_eq]
 exact ⟨⟨⟨⟨zAS _,h⟩,rfl⟩,rfl⟩,rfl⟩
theorem mE (d:Nat) (hd:d<34):1≤(aN.getD d []).length:=by
 have h:=nu lT d (by show d<35;omega)
 rw [nr d hd] at h
 exact h.1
theorem AK {l:List UInt8} {f g:Int}:∀(ms:List aU) (k p:Nat) (x:bD),ms.length<k→0≤x.ad→(∀ad,x.ad<ad→dm x ad=true)→dU f g x.ad ms=true→At l p (bN x ms)→nK l (p+(bN x ms).length)→
  ba l f g k p x=(ms,p+(bN x ms).length,0)
 |[],k+1,p,x,_,_,_,_,_,hs=>Ez hs f g k x
 |m::ms,k+1,p,x,hk,hx0,hx,hr,h,hs=>by
  rw [dU] at hr
  simp only [zAB,decide_eq_true_eq] at hr
  obtain ⟨⟨⟨r1,r2⟩,r3⟩,r4⟩:=hr
  have hm:=(iH m).1 r1
  have ha2:=hm.a2
  rw [bN] at h hs⊢
  obtain ⟨h1,h2⟩:=h.app
  obtain ⟨h3,h4⟩:=h2.app
  obtain ⟨d,hd⟩:∃d:Nat,(m.ad - x.ad).toNat=d:=⟨_,rfl⟩
  have hd':m.ad=x.ad+(d:Int):=by omega
  rw [hd] at h1 h2 h3 h4 hs⊢
  have hd34:d<34:=by omega
  have hg:=Dc hd34 h1
  have hmg:=G7 hm (hx m.ad r2) h3
  have ih:=AK ms k (p+(aN.getD d []).length+(dI m x).length) (ez m) (by simpa using hk) (by rw [gL];have:=hm.a1;omega) (fun ad h=>tX hm (by rwa [gL] at h)) (by rw [gL];exact r4) h4 (by
   rw [zAA,zAA] at hs
   rw [show p+(aN.getD d []).length+(dI m x).length+(bN (ez m) ms).length=p+((aN.getD d []).length+((dI m x).length+(bN (ez m) ms).length)) by omega]
   exact hs)
  rw [ba,hg]
  simp only [if_true,zAP]
  rw [if_neg (by omega),if_neg (by omega),if_neg (by omega),←hd',hmg]
  simp only [if_true,r3,zAP]
  rw [ih]
  simp only [zAA]
  refine Prod.ext rfl (Prod.ext ?_ rfl)
  dsimp only
  omega
def rb (T:List UInt8):Prop:=T=[]∨∃n T',T=dA n++T'
theorem DY {l:List UInt8} {p:Nat} {T:List UInt8} (hT:rb T) (h:At l p T) (hz:oQ l (p+T.length)):nK l p:=by
 rcases hT with rfl|⟨n,T',rfl⟩
 ·exact .inr (by simpa using hz)
 ·exact .inl (Cy h)
theorem xt {f g:Int}:∀(ms:List aU) (x:bD),dU f g x.ad ms=true→0≤x.ad→ms.length≤(bN x ms).length
 |[],_,_,_=>zAK _
 |m::ms,x,hr,h0=>by
  rw [dU] at hr
  simp only [zAB,decide_eq_true_eq] at hr
  obtain ⟨⟨⟨r1,r2⟩,r3⟩,r4⟩:=hr
  have hm:=(iH m).1 r1
  have:=xt ms (ez m) (by rw [gL];exact r4) (by rw [gL];have:=hm.a1;omega)
  have:=mE (m.ad - x.ad).toNat (by have:=hm.a2;omega)
  rw [bN,zAA,zAA,zAD]
  omega
theorem rC {f g:Int}:∀(ms:List aU) (last:Int),dU f g last ms=true→last≤33→(ms.length:Int)≤33 - last
 |[],last,_,h=>by simp;omega
 |m::ms,last,hr,h=>by
  rw [dU] at hr
  simp only [zAB,decide_eq_true_eq] at hr
  have ha:=((iH m).1 hr.1.1.1).a2
  have:=rC ms m.ad hr.2 ha
  have:=hr.1.1.2
  simp only [zAD]
  omega
theorem IZ {l:List UInt8} {f n:Int} {p:Nat} {g:fK} {T:List UInt8} (hn0:0≤n) (hn1:n≤15) (hg:jq f n g=true) (hT:rb T) (h:At l p (ic g++T)) (hz:oQ l (p+(ic g++T).length)):
  ed l f n p=(g,p+(ic g).length,0):=by
 unfold jq at hg
 simp only [zAB,decide_eq_true_eq,beq_iff_eq] at hg
 obtain ⟨⟨⟨⟨g0,g1⟩,g2⟩,g3⟩,g4⟩:=hg
 obtain ⟨h1,h2⟩:=h.app
 have hz':oQ l (p+(ic g).length+T.length):=by rw [zAA,←zAM] at hz;exact hz
 have hst:=DY hT h2 hz'
 clear hz hz' h2 h
 obtain ⟨num,qu,sp,ms⟩:=g
 dsimp only at g0 g1 g2 g3 g4
 subst g0
 unfold ic at h1 hst⊢
 dsimp only at h1 hst⊢
 obtain ⟨h3,h4⟩:=h1.app
 rw [←zAF] at h4
 obtain ⟨h5,h6⟩:=h4.app
 rw [cP] at h5 h6
 have hw:=Bm hn0 hn1 h3
 have hgg:=GR g1 g2 g3 h5
 have hl:=xt ms b9 g4 (zAS 0)
 have hb6:=h6.1
 have hb:=h5.1
 rw [zAA,aJ] at hb
 have hs1:1≤(dw sp).length:=by simp [dw]
 have hm:=AK ms (8*l.length+1) _ b9 (by omega) (zAS _) (fun ad h=>qA h) g4 h6 (by
  refine cast (congrArg (nK l) ?_) hst
  simp only [zAA,cP,aJ]
  omega)
 unfold ed
 rw [hw]
 dsimp only
 rw [if_pos rfl,hgg]
 dsimp only
 rw [if_pos rfl,hm]
 dsimp only
 rw [if_pos rfl]
 refine Prod.ext rfl (Prod.ext ?_ rfl)
 simp only [zAA,cP,aJ]
 omega
theorem DG {gs:List fK} {T:List UInt8} (hT:rb T):rb (bZ gs++T):=by
 cases gs with
 |nil=>exact hT
 |cons g gs=>exact .inr ⟨g.num,(ax g.qu.toNat 5++(dw g.sp++bN b9 g.ms))++(bZ gs++T),by rw [bZ,ic];simp only [zAF]⟩
theorem AG {l:List UInt8} {f:Int} {T:List UInt8} (hT:rb T):∀(ns:List Int) (gs:List fK) (p:Nat),(∀n∈ns,0≤n∧n≤15)→dT f ns gs=true→At l p (bZ gs++T)→oQ l (p+(bZ gs++T).length)→
  dk l f ns p=(gs,p+(bZ gs).length,0)
 |[],[],p,_,_,_,_=>rfl
 |n::ns,g::gs,p,hn,hb,h,hz=>by
  rw [dT,zAB] at hb
  rw [bZ,zAF] at h hz
  have h1:=IZ (hn n (by simp)).1 (hn n (by simp)).2 hb.1 (DG hT) h hz
  have h2:=h.app.2
  have ih:=AG hT ns gs (p+(ic g).length) (fun k hk=>hn k (zAJ _ hk)) hb.2 h2 (by rw [zAA,←zAM] at hz;exact hz)
  rw [dk,h1]
  dsimp only
  rw [if_pos rfl,ih,bZ,zAA,zAM]
 |[],_::_,_,_,hb,_,_=>by simp [dT] at hb
 |_::_,[],_,_,hb,_,_=>by simp [dT] at hb
theorem Fq (f:Int):∀n∈aQ f,0≤n∧n≤15:=by
 unfold aQ
 split<;>decide
theorem Ia {l:List UInt8} {p:Nat} {s:cS} {T:List UInt8} (hs:bX s=true) (hT:rb T) (h:At l p (dC s++T)) (hz:oQ l (p+(dC s++T).length)):cE l p=(s,p+(dC s).length,0):=by
 unfold bX at hs
 rw [zAB] at hs
 unfold dC at h hz⊢
 rw [zAF] at h hz
 obtain ⟨h1,h2⟩:=h.app
 rw [zAF] at h2 hz
 obtain ⟨h3,h4⟩:=h2.app
 rw [cP] at h3 h4
 have hw:=Bm (zAS 0) (by decide) h1
 have hh:=GV hs.1 h3
 have hg:=AG hT _ s.gs _ (Fq _) hs.2 h4 (cast (congrArg (oQ l) (by simp only [zAA,cP];omega)) hz)
 unfold cE
 rw [hw]
 dsimp only
 rw [if_pos rfl,hh]
 dsimp only
 rw [if_pos rfl,hg]
 dsimp only
 rw [if_pos rfl]
 refine Prod.ext rfl (Prod.ext ?_ rfl)
 simp only [zAA,cP]
 omega
theorem Cw (ss:List cS):rb (bu ss):=by
 cases ss with
 |nil=>exact .inl rfl
 |cons s ss=>exact .inr ⟨0,(jE s.hd++bZ s.gs)++bu ss,by rw [bu,dC,zAF]⟩
theorem Gc {l:List UInt8} {p:Nat} {n:Int} {t:List UInt8} (h:At l p (dA n++t)):cA l p=false:=by
 have h1:=h.app.1
 unfold dA at h1
 have h2:=h1.app.1
 rw [BH] at h2
 have h3:=qi (rO h2 15 (by decide))
 have h4:=h2.1
 have h5:(a8++[49]).length=16:=rfl
 rw [h5] at h4
 unfold cA
 rw [beq_eq_false_iff_ne]
 intro he
 have hz:∀(k q:Nat),fo l k q=k→∀j,q≤j→j<q+k→aP l j=0:=by
  intro k
  induction k with
  |zero=>intro q _ j a b;omega
  |succ k ih=>
   intro q hq j a b
   rw [fo] at hq
   split at hq
   ·rename_i h0
    rcases zAT a with e|e
    ·rw [←e];exact h0
    ·exact ih (q+1) (by omega) j (by omega) (by omega)
   ·cases hq
 exact h3 (hz _ _ he (p+15) (by omega) (by omega))
theorem x7 {l:List UInt8}:∀(ss:List cS) (k p:Nat),ss.length<k→(∀s∈ss,bX s=true)→At l p (bu ss)→oQ l (p+(bu ss).length)→bY l k p=(ss,0)
 |[],k+1,p,_,_,_,hz=>by rw [bY,if_pos (xx (by simpa [bu] using hz))]
 |s::ss,k+1,p,hk,hc,h,hz=>by
  rw [bu] at h hz
  have h1:=Ia (hc s (by simp)) (Cw ss) h hz
  have ih:=x7 ss k _ (by simpa using hk) (fun t ht=>hc t (zAJ _ ht)) h.app.2 (by rw [zAA,←zAM] at hz;exact hz)
  have ho:cA l p=false:=by
   unfold dC at h
   rw [zAF] at h
   exact Gc h
  rw [bY,ho,h1]
  simp only [if_true,zAH,if_false]
  rw [ih]
theorem uY (s:cS):1≤(dC s).length:=by unfold dC;rw [zAA,cP];omega
theorem jz:∀ss:List cS,ss.length≤(bu ss).length
 |[]=>zAK _
 |s::ss=>by rw [bu,zAA,zAD];have:=jz ss;have:=uY s;omega
theorem ro {l:List UInt8} {p:Nat} (h:dx l p=true):∀(k q:Nat),q≤p→p<q+k→(∀j,q≤j→j<p→dx l j=false)→dq l k q=some p
 |0,q,a,b,_=>by omega
 |k+1,q,a,b,hj=>by
  rw [dq]
  rcases zAT a with e|e
  ·rw [e,h,if_pos rfl]
  ·rw [hj q (zAG _) e,if_neg (by simp)]
   exact ro h k (q+1) (by omega) (by omega) (fun j c d=>hj j (by omega) d)
theorem Jg {l:List UInt8} {p:Nat} {t:List UInt8} (h:At l p (dA 0++t)):dx l p=true:=by
 have h1:=h.app.1
 unfold dx
 rw [zAB,decide_eq_true_eq,beq_iff_eq]
 have h2:=h1.2
 rw [cP] at h2
 have h3:=h1.1
 rw [cP] at h3
 exact ⟨h3,h2⟩
theorem xD {l:List UInt8} {p:Nat} {s:cS} {ss:List cS} (hc:∀t∈s::ss,bX t=true) (h:At l p (bu (s::ss))) (hz:oQ l (p+(bu (s::ss)).length)) (hf:∀j,j<p→dx l j=false):aZ l=(s::ss,0):=by
 have h2:dx l p=true:=by
  have h1:=h
  rw [bu] at h1
  unfold dC at h1
  rw [zAF] at h1
  exact Jg h1
 have hlt:p<8*l.length:=by have:=h.1;have:=jz (s::ss);simp only [zAD] at this;omega
 unfold aZ
 rw [ro h2 (8*l.length) 0 (zAK _) (by omega) (fun j _ b=>hf j b)]
 exact x7 (s::ss) _ p (by have:=jz (s::ss);have:=h.1;omega) hc h hz
theorem wD (l:List UInt8):∀(m i:Nat),aC l i m=ax (aF l i m) m
 |0,_=>rfl
 |m+1,i=>by
  have e1:ax (aF l i (m+1)) (m+1)=ax (aF l i (m+1) / 2) m++[if aF l i (m+1) % 2=0 then 48 else 49]:=by
   unfold ax
   rw [List.range_succ,List.map_append]
   congr 1
   ·apply zAR
    intro j hj
    have hj:=zAa.1 hj
    have e:m+1 - 1 - j=(m - 1 - j)+1:=by omega
    rw [e,zAd,zAc,←Nat.div_div_eq_div_mul]
   ·simp
  have h4:=gT l (i+m)
  have e2:aF l i (m+1)=2*aF l i m+aP l (i+m):=rfl
  rw [kW,e1,wD l m i,e2]
  have e3:(2*aF l i m+aP l (i+m)) / 2=aF l i m:=by omega
  rw [e3]
  congr 2
  unfold cW
  have e4:(2*aF l i m+aP l (i+m)) % 2=aP l (i+m):=by omega
  rw [e4]
theorem Bh (l:List UInt8) (p:Nat):dx l p=(decide (p+20≤8*l.length)&&aF l p 20==16):=by
 unfold dx
 congr 1
 rw [zA6,beq_iff_eq,beq_iff_eq]
 have hs:dA 0=ax 16 20:=by decide
 constructor
 ·intro h
  exact pB l 20 p 16 (h.trans hs) (by decide)
 ·intro h
  rw [wD,h,hs]
theorem i9 (a t:List UInt8) (k:Nat) (h:k<8*a.length):aP (a++t) k=aP a k:=by
 unfold aP
 have:(a++t).getD (k / 8) 0=a.getD (k / 8) 0:=by
  rw [zAN,zAN,zAU (by omega)]
 rw [this]
theorem nO (a t:List UInt8) (k:Nat):aP (a++t) (8*a.length+k)=aP t k:=by
 unfold aP
 have h1:(8*a.length+k) / 8=a.length+k / 8:=by omega
 have h2:(8*a.length+k) % 8=k % 8:=by omega
 have:(a++t).getD (a.length+k / 8) 0=t.getD (k / 8) 0:=by
  rw [zAN,zAN,List.getElem?_append_right (by omega),Nat.add_sub_cancel_left]
 rw [h1,h2,this]
theorem nP (a t:List UInt8) (i m:Nat) (h:i+m≤8*a.length):aC (a++t) i m=aC a i m:=by
 unfold aC
 apply zAR
 intro j hj
 have hj:=zAa.1 hj
 unfold cW
 rw [i9 _ _ _ (by omega)]
theorem yO (a t:List UInt8) (i m:Nat):aC (a++t) (8*a.length+i) m=aC t i m:=by
 unfold aC
 apply zAR
 intro j hj
 unfold cW
 rw [zAM,nO]
theorem E2 (k j:Nat):aP (zAL k 0) j=0:=by
 unfold aP
 have:(zAL k (0:UInt8)).getD (j / 8) 0=0:=by
  rw [zAN,List.getElem?_replicate]
  split<;>rfl
 rw [this]
 simp
theorem Aq {a L:List UInt8} (hL:cN L) (k:Nat):At (a++(aO L++zAL k 0)) (8*a.length) L∧oQ (a++(aO L++zAL k 0)) (8*a.length+L.length):=by
 have h0:=GE (X:=[]) (Y:=[]) hL
 rw [zA9,zA7] at h0
 have hl:=h0.1
 simp only [zA8,zA1] at h0 hl
 refine ⟨⟨by simp only [zAA];omega,?_⟩,⟨by simp only [zAA];omega,fun j h1 h2=>?_⟩⟩
 ·have:=yO a (aO L++zAL k 0) 0 L.length
  rw [Nat.add_zero] at this
  rw [this,nP _ _ _ _ (by omega)]
  exact h0.2
 ·obtain ⟨i,rfl⟩:∃i,j=8*a.length+i:=⟨j - 8*a.length,by omega⟩
  rw [nO]
  rcases zAE i (8*(aO L).length) with h3|h3
  ·rw [i9 _ _ _ h3,tZ _ _ (by rw [ct] at h3;exact h3),dN _ _ (by omega)]
  ·obtain ⟨q,rfl⟩:∃q,i=8*(aO L).length+q:=⟨i - 8*(aO L).length,by omega⟩
   rw [nO,E2]
theorem wC (d:Nat):cN (aN.getD d []):=by
 rcases zAE d 34 with h|h
 ·rw [←nr d h];exact ua lT _ _
 ·rw [zAN,zAX (by rw [eO];exact h)];exact eN
theorem lS:∀sp:List UInt8,cN (dw sp)
 |[]=>jJ (by decide)
 |b::sp=>by
  have h:=(jJ (s:=[49]) (by decide)).app ((ec b.toNat 8).app (lS sp))
  rw [mP];exact h
theorem ue:∀(ms:List aU) (x:bD),cN (bN x ms)
 |[],_=>eN
 |m::ms,x=>by rw [bN];exact (wC _).app ((ug m x).app (ue ms _))
theorem nQ (n:Int):cN (dA n):=(ec _ _).app (ec _ _)
theorem E3 (g:fK):cN (ic g):=(nQ _).app ((ec _ _).app ((lS _).app (ue _ _)))
theorem ud:∀gs:List fK,cN (bZ gs)
 |[]=>eN
 |g::gs=>(E3 g).app (ud gs)
theorem Dl (s:cS):cN (dC s):=(nQ _).app (((ec _ _).app ((ec _ _).app (lS _))).app (ud _))
theorem kX:∀ss:List cS,cN (bu ss)
 |[]=>eN
 |s::ss=>(Dl s).app (kX ss)
def fi (ss:List cS):List UInt8:=aO (bu ss)
theorem uK {l:List UInt8} (h:∀j,j<8*l.length→aP l j=0):∀k p,dq l k p=none
 |0,_=>rfl
 |k+1,p=>by
  have hs:dx l p=false:=by
   rw [←zAQ]
   intro hs
   unfold dx at hs
   rw [zAB,decide_eq_true_eq,beq_iff_eq] at hs
   have h1:At l p (dA 0):=⟨by rw [cP];exact hs.1,by rw [cP];exact hs.2⟩
   have h2:=qi (rO h1 15 (by decide))
   exact h2 (h _ (by have:=hs.1;omega))
  rw [dq,hs,if_neg (by simp)]
  exact uK h k (p+1)
theorem qU {ss:List cS} (hc:∀s∈ss,bX s=true) (k:Nat):aZ (fi ss++zAL k 0)=(ss,0):=by
 unfold fi
 have h:=Aq (a:=[]) (kX ss) k
 simp only [zA9,zA8,Nat.mul_zero,zA1] at h
 cases ss with
 |nil=>
  unfold aZ
  rw [uK (fun j hj=>h.2.2 j (zAK _) hj)]
 |cons s ss=>exact xD hc h.1 (by rw [zA1];exact h.2) (fun j hj=>by omega)
theorem yk {s:cS} (hc:bX s=true) (a:List UInt8) (hf:∀j,j<8*a.length→dx (a++fi [s]) j=false):aZ (a++fi [s])=([s],0):=by
 unfold fi at hf⊢
 have h:=Aq (a:=a) (kX [s]) 0
 rw [List.replicate_zero,zA7] at h
 exact xD (fun t ht=>by rw [List.mem_singleton.1 ht];exact hc) h.1 h.2 hf
theorem rg {l:List UInt8} {i:Int} (h0:0≤i) (h1:i≤8*(l.length:Int)) (he:(ca l i).2.2=0) (hn:(ca l i).1≠34):
  ∃d:Nat,d<34∧(ca l i).1=d∧(ca l i).2.1=((aN.getD d []).length:Int)∧i+(ca l i).2.1≤8*(l.length:Int):=by
 unfold ca mG at he hn⊢
 split at he
 ·rename_i h;rw [if_pos h] at hn;exact absurd rfl hn
 ·rename_i h
  rw [if_neg h]
  obtain ⟨j,hj,h2,h3⟩:=oL he
  have h4:=oK h0 h1 he
  have hj35:j<35:=hj
  have h5:=ry j hj35
  rw [h2] at h5
  have h6:(ac fC ot l i).1=(j:Int):=h5
  have hj34:j<34:=by
   rcases zAE j 34 with h7|h7
   ·exact h7
   ·exact absurd (by rw [h6];omega) h
  exact ⟨j,hj34,h6,by rw [h3,nr j hj34],h4⟩
theorem iq:∀sp:List UInt8,(dw sp).length=9*sp.length+1
 |[]=>rfl
 |b::sp=>by rw [mP,zAD,zAA,aJ,iq sp,zAD];omega
theorem tP {l:List UInt8}:∀(k p:Nat),(cB l k p).2.2=0→(cB l k p).1.length≤k∧(cB l k p).2.1=p+(dw (cB l k p).1).length∧(cB l k p).2.1≤8*l.length
 |0,p=>by
  rw [cB.eq_def]
  dsimp only
  split
  ·intro h;cases h
  ·split
   ·intro _;exact ⟨zAG _,rfl,by dsimp only;omega⟩
   ·intro h;cases h
 |k+1,p=>by
  rw [cB.eq_def]
  dsimp only
  split
  ·intro h;cases h
  ·split
   ·intro _;exact ⟨zAK _,rfl,by dsimp only;omega⟩
   ·split
    ·intro h;cases h
    ·intro h
     obtain ⟨h1,h2,h3⟩:=tP k (p+9) h
     refine ⟨by simpa using h1,?_,h3⟩
     dsimp only
     rw [h2,iq,iq,zAD]
     omega
theorem Bp (l:List UInt8):∀k p,fo l k p≤k
 |0,_=>zAG _
 |k+1,p=>by
  rw [fo]
  split
  ·have:=Bp l k (p+1);omega
  ·omega
theorem pW {l:List UInt8} {p:Nat} (h:(cu l p).2.2=0):p+20≤(cu l p).2.1∧(cu l p).2.1≤8*l.length∧0≤(cu l p).1∧(cu l p).1≤15:=by
 unfold cu at h⊢
 dsimp only at h⊢
 split at h
 ·cases h
 rename_i h1
 split at h
 ·cases h
 rename_i h2
 split at h
 ·cases h
 rename_i h3
 rw [if_neg h1,if_neg h2,if_neg h3]
 have:=gm l (p+fo l (8*l.length - p) p+1) 4
 exact ⟨by dsimp only;omega,by dsimp only;omega,by dsimp only;omega,by dsimp only;omega⟩
theorem oN {l:List UInt8} {p:Nat} {n:Int} (h:(cL l p n).2=0):p+20≤(cL l p n).1∧(cL l p n).1≤8*l.length:=by
 unfold cL at h⊢
 dsimp only at h⊢
 by_cases h1:(cu l p).2.2=0
 ·rw [if_pos h1] at h⊢
  split at h
  ·rename_i h2
   rw [if_pos h2]
   exact ⟨(pW h1).1,(pW h1).2.1⟩
  ·cases h
 ·rw [if_neg h1] at h
  unfold jm at h
  split at h
  ·cases h
  ·exact absurd h h1
theorem wY {l:List UInt8} {p:Nat} (h:(eo l p).2.2=0):qJ (eo l p).1=true∧(eo l p).2.1=p+(jE (eo l p).1).length∧(eo l p).2.1≤8*l.length:=by
 unfold eo at h⊢
 dsimp only at h⊢
 split at h
 ·cases h
 rename_i h1
 rw [if_neg h1]
 by_cases h2:(cB l 32 (p+11)).2.2=0
 ·rw [if_pos h2]
  obtain ⟨h3,h4,h5⟩:=tP 32 (p+11) h2
  have a:=gm l p 5
  have b:=gm l (p+5) 6
  refine ⟨?_,?_,h5⟩
  ·unfold qJ
   simp only [zAB,decide_eq_true_eq]
   exact ⟨⟨⟨⟨by omega,by omega⟩,by omega⟩,by omega⟩,h3⟩
  ·unfold jE
   dsimp only
   rw [h4]
   simp only [zAA,aJ]
   omega
 ·rw [if_neg h2] at h
  exact absurd h h2
theorem rq {l:List UInt8} {p:Nat} (h:(dH l p).2.2=0):1≤(dH l p).1.1∧(dH l p).1.1≤31∧(dH l p).1.2.length≤32∧(dH l p).2.1=p+5+(dw (dH l p).1.2).length∧(dH l p).2.1≤8*l.length:=by
 unfold dH at h⊢
 dsimp only at h⊢
 split at h
 ·cases h
 rename_i h1
 split at h
 ·cases h
 rename_i h0
 rw [if_neg h1,if_neg h0]
 by_cases h2:(cB l 32 (p+5)).2.2=0
 ·rw [if_pos h2]
  obtain ⟨h3,h4,h5⟩:=tP 32 (p+5) h2
  have a:=gm l p 5
  exact ⟨by dsimp only;omega,by dsimp only;omega,h3,h4,h5⟩
 ·rw [if_neg h2] at h
  exact absurd h h2
theorem jb {e:Int} (h:e≠0):jm e≠0:=by unfold jm;split<;>omega
theorem oo {l:List UInt8} {f g:Int}:∀(k p:Nat) (x:bD),p≤8*l.length→0≤x.ad→(ba l f g k p x).2.2=0→
  dU f g x.ad (ba l f g k p x).1=true∧p+(bN x (ba l f g k p x).1).length≤(ba l f g k p x).2.1∧(ba l f g k p x).2.1≤8*l.length
 |0,p,x,hp,hx,_=>⟨rfl,zAG _,hp⟩
 |k+1,p,x,hp,hx,he=>by
  have hag:= @rg l (p:Int) (by omega) (by omega)
  rw [ba] at he⊢
  dsimp only at he⊢
  by_cases h1:(ca l p).2.2=0
  ·rw [if_pos h1] at he⊢
   by_cases h2:(ca l p).1=34
   ·rw [if_pos h2]
    exact ⟨rfl,zAG _,hp⟩
   ·rw [if_neg h2] at he⊢
    obtain ⟨d,d1,d2,d3,d4⟩:=hag h1 h2
    rw [d2,d3] at he⊢
    rw [d3] at d4
    rw [zAP] at he⊢
    have hp1:=mE d d1
    by_cases h3:(d:Int)=0
    ·rw [if_pos h3] at he⊢
     obtain ⟨a,b,c⟩:=oo k (p+(aN.getD d []).length) x (by omega) hx he
     exact ⟨a,by omega,c⟩
    ·rw [if_neg h3] at he⊢
     by_cases h4:33<x.ad+(d:Int)
     ·rw [if_pos h4] at he;cases he
     ·rw [if_neg h4] at he⊢
      have hm:= @rx l ((p+(aN.getD d []).length:Nat):Int) (x.ad+d) x (by omega) (by omega)
      generalize bR l ((p+(aN.getD d []).length:Nat):Int) (x.ad+d) x=r at he hm⊢
      by_cases h5:r.2.2=0
      ·rw [if_pos h5] at he⊢
       obtain ⟨m1,m2,m3,m4,m5,m6⟩:=hm h5
       by_cases h6:kf f g r.1=true
       ·rw [if_pos h6] at he⊢
        obtain ⟨a,b,c⟩:=oo k (p+(aN.getD d []).length+r.2.1.toNat) (ez r.1) (by omega) (by rw [gL];have:=m1.a1;omega) he
        rw [gL] at a
        refine ⟨?_,?_,c⟩
        ·rw [dU]
         simp only [zAB,decide_eq_true_eq]
         exact ⟨⟨⟨(iH _).2 m1,by omega⟩,h6⟩,a⟩
        ·rw [bN,m2,show (x.ad+(d:Int) - x.ad).toNat=d by omega,zAA,zAA]
         dsimp only
         omega
       ·rw [if_neg h6] at he;cases he
      ·rw [if_neg h5] at he
       exact absurd he (jb h5)
  ·rw [if_neg h1] at he⊢
   split at he
   ·rename_i h2
    rw [if_pos h2]
    split at he
    ·rename_i h3
     rw [if_pos h3]
     exact ⟨rfl,zAG _,hp⟩
    ·cases he
   ·exact absurd he h1
theorem GT {l:List UInt8} {f n:Int} {p:Nat} (he:(ed l f n p).2.2=0):jq f n (ed l f n p).1=true∧p+(ic (ed l f n p).1).length≤(ed l f n p).2.1∧(ed l f n p).2.1≤8*l.length:=by
 unfold ed at he⊢
 dsimp only at he⊢
 by_cases h1:(cL l p n).2=0
 ·rw [if_pos h1] at he⊢
  obtain ⟨w1,w2⟩:=oN h1
  by_cases h2:(dH l (cL l p n).1).2.2=0
  ·rw [if_pos h2] at he⊢
   obtain ⟨g1,g2,g3,g4,g5⟩:=rq h2
   by_cases h3:(ba l f n (8*l.length+1) (dH l (cL l p n).1).2.1 b9).2.2=0
   ·rw [if_pos h3] at he⊢
    obtain ⟨a,b,c⟩:=oo _ _ b9 g5 (zAS 0) h3
    refine ⟨?_,?_,c⟩
    ·unfold jq
     simp only [zAB,decide_eq_true_eq,beq_self_eq_true]
     exact ⟨⟨⟨⟨trivial,g1⟩,g2⟩,g3⟩,a⟩
    ·unfold ic
     simp only [zAA,cP,aJ]
     omega
   ·rw [if_neg h3] at he;exact absurd he h3
  ·rw [if_neg h2] at he;exact absurd he (jb h2)
 ·rw [if_neg h1] at he;exact absurd he h1
theorem wW {l:List UInt8} {f:Int}:∀(ns:List Int) (p:Nat),p≤8*l.length→(dk l f ns p).2.2=0→
  dT f ns (dk l f ns p).1=true∧p+(bZ (dk l f ns p).1).length≤(dk l f ns p).2.1∧(dk l f ns p).2.1≤8*l.length
 |[],p,hp,_=>⟨rfl,zAG _,hp⟩
 |n::ns,p,hp,he=>by
  rw [dk] at he⊢
  dsimp only at he⊢
  by_cases h1:(ed l f n p).2.2=0
  ·rw [if_pos h1] at he⊢
   obtain ⟨a,b,c⟩:=GT h1
   obtain ⟨a2,b2,c2⟩:=wW ns _ c he
   refine ⟨by rw [dT,a,a2];rfl,?_,c2⟩
   rw [bZ,zAA]
   dsimp only
   omega
  ·rw [if_neg h1] at he;exact absurd he h1
theorem rF {l:List UInt8} {p:Nat} (he:(cE l p).2.2=0):bX (cE l p).1=true∧p+(dC (cE l p).1).length≤(cE l p).2.1∧(cE l p).2.1≤8*l.length:=by
 unfold cE at he⊢
 dsimp only at he⊢
 by_cases h1:(cL l p 0).2=0
 ·rw [if_pos h1] at he⊢
  obtain ⟨w1,w2⟩:=oN h1
  by_cases h2:(eo l (cL l p 0).1).2.2=0
  ·rw [if_pos h2] at he⊢
   obtain ⟨g1,g2,g3⟩:=wY h2
   generalize eo l (cL l p 0).1=r at he g1 g2 g3 h2⊢
   by_cases h3:(dk l (fg r.1.ty) (aQ (fg r.1.ty)) r.2.1).2.2=0
   ·rw [if_pos h3] at he⊢
    obtain ⟨a,b,c⟩:=wW _ _ g3 h3
    refine ⟨by unfold bX;rw [g1,a];rfl,?_,c⟩
    unfold dC
    simp only [zAA,cP]
    omega
   ·rw [if_neg h3] at he;exact absurd he h3
  ·rw [if_neg h2] at he;exact absurd he (jb h2)
 ·rw [if_neg h1] at he;exact absurd he h1
theorem u7 {l:List UInt8}:∀(k p:Nat),p≤8*l.length→(∀s∈(bY l k p).1,bX s=true)∧p+(bu (bY l k p).1).length≤8*l.length
 |0,p,hp=>⟨fun s h=>(by cases h),hp⟩
 |k+1,p,hp=>by
  rw [bY]
  dsimp only
  by_cases h0:cA l p=true
  ·rw [if_pos h0];exact ⟨fun s h=>(by cases h),hp⟩
  ·rw [if_neg h0]
   by_cases h1:(cE l p).2.2=0
   ·rw [if_pos h1]
    obtain ⟨a,b,c⟩:=rF h1
    obtain ⟨a2,b2⟩:=u7 k _ c
    refine ⟨fun s hs=>?_,?_⟩
    ·rcases List.mem_cons.1 hs with rfl|hs
     ·exact a
     ·exact a2 s hs
    ·rw [bu,zAA]
     omega
   ·rw [if_neg h1];exact ⟨fun s h=>(by cases h),hp⟩
theorem n7 {l:List UInt8}:∀(k q p:Nat),dq l k q=some p→p+20≤8*l.length
 |0,_,_,h=>by cases h
 |k+1,q,p,h=>by
  rw [dq] at h
  split at h
  ·rename_i hs
   injection h with h
   subst h
   unfold dx at hs
   rw [zAB,decide_eq_true_eq] at hs
   exact hs.1
  ·exact n7 k _ _ h
theorem it (l:List UInt8):(∀s∈(aZ l).1,bX s=true)∧(bu (aZ l).1).length≤8*l.length:=by
 unfold aZ
 cases h:dq l (8*l.length) 0 with
 |none=>exact ⟨fun s h=>(by cases h),zAK _⟩
 |some p=>
  obtain ⟨a,b⟩:=u7 (l:=l) (8*l.length+1) p (by have:=n7 _ _ _ h;omega)
  exact ⟨a,by dsimp only;omega⟩
theorem yJ (t u:List UInt8) (i n:Nat):aC t i (min n (8*t.length - i))<+:aC (t++u) i (min n (8*(t++u).length - i)):=by
 obtain ⟨m,hm⟩:∃m,min n (8*(t++u).length - i)=min n (8*t.length - i)+m:=⟨min n (8*(t++u).length - i) - min n (8*t.length - i),by rw [zAA];omega⟩
 rw [hm,hZ]
 rcases zAE (8*t.length) i with h|h
 ·have e:min n (8*t.length - i)=0:=by omega
  rw [e];exact ⟨_,rfl⟩
 ·rw [nP _ _ _ _ (by omega)];exact ⟨_,rfl⟩
theorem uu {s:List UInt8}:∀{cs:List (List UInt8)} {ns:List Int} {r:Int×Int},bK s cs ns=some r→∃j,∃hj:j<cs.length,cs[j]<+:s
 |[],ns,r,h=>by rw [bK.eq_def] at h;cases h
 |c::cs,[],r,h=>by rw [bK.eq_def] at h;cases h
 |c::cs,n::ns,r,h=>by
  rw [bK] at h
  split at h
  ·rename_i h1
   exact ⟨0,by simp,zAC.1 h1⟩
  ·obtain ⟨j,hj,h2⟩:=uu h
   exact ⟨j+1,by simpa using hj,by simpa using h2⟩
theorem wN {s:List UInt8}:∀{cs:List (List UInt8)} {ns:List Int},cs.length=ns.length→bK s cs ns=none→∀j (hj:j<cs.length),¬cs[j]<+:s
 |[],ns,_,_,j,hj=>by simp at hj
 |c::cs,[],hl,_,j,hj=>by simp at hl
 |c::cs,n::ns,hl,h,j,hj=>by
  rw [bK] at h
  split at h
  ·cases h
  ·rename_i h1
   cases j with
   |zero=>intro h2;exact h1 (zAC.2 h2)
   |succ j=>
    have:=wN (by simpa using hl) h j (by simpa using hj)
    simpa using this
theorem mW {cs:List (List UInt8)} {ns:List Int} (hf:eU cs=true) (hl:cs.length=ns.length) {t:List UInt8} (u:List UInt8) {i:Int} (he:(ac cs ns t i).2.2≠5):ac cs ns (t++u) i=ac cs ns t i:=by
 unfold ac at he⊢
 split at he
 ·rename_i h;rw [if_pos h,if_pos h]
 rename_i h
 rw [if_neg h,if_neg h]
 have hw:=yJ t u i.toNat 24
 generalize aC t i.toNat (min 24 (8*t.length - i.toNat))=s' at he hw⊢
 generalize aC (t++u) i.toNat (min 24 (8*(t++u).length - i.toNat))=s at hw⊢
 unfold jL at he⊢
 cases h1:bK s' cs ns with
 |some r=>
  obtain ⟨j,hj,h2⟩:=uu h1
  have hu:∀(z:List UInt8),cs[j]<+:z→∀i (hi:i<cs.length),cs[i]<+:z→i=j:=fun z h3 i hi h4=>by
   rcases zAI h3 h4 with h5|h5
   ·exact (iZ hf hi hj h5)
   ·exact (iZ hf hj hi h5).symm
  have e1:=rj s' j hj hl h2 (hu s' h2)
  have e2:=rj s j hj hl (h2.trans hw) (hu s (h2.trans hw))
  rw [h1] at e1
  rw [e2,e1]
 |none=>
  rw [h1] at he
  dsimp only at he
  split at he
  ·exact absurd rfl he
  ·rename_i h2
   have h3:=wN hl h1
   have h4:∀j (hj:j<cs.length),¬s'<+:cs[j]:=fun j hj h5=>h2 (zA3.2 ⟨_,List.getElem_mem hj,zAC.2 h5⟩)
   have e1:bK s cs ns=none:=rZ s (fun j hj h5=>by
    rcases zAI hw h5 with h6|h6
    ·exact h4 j hj h6
    ·exact h3 j hj h6)
   have e2:(cs.any fun c=>s.isPrefixOf c)=false:=by
    rw [←zAQ]
    intro h5
    obtain ⟨c,hc,h6⟩:=zA3.1 h5
    obtain ⟨j,hj,rfl⟩:=zAZ hc
    exact h4 j hj (hw.trans (zAC.1 h6))
   have e3:(cs.any fun c=>s'.isPrefixOf c)=false:=by simpa using h2
   rw [e1]
   simp only [e2,e3]
theorem gv (t u:List UInt8) (i:Nat):∀m,i+m≤8*t.length→aF (t++u) i m=aF t i m
 |0,_=>rfl
 |m+1,h=>by
  rw [aF,aF,gv t u i m (by omega),i9 _ _ _ (by omega)]
theorem li {s:List UInt8}:∀(T:List ((Int×Int)×List UInt8)) (more:Bool),(more=true)→(bL s T more).2.2.2≠5→∃e∈T,e.2<+:s
 |[],more,hm,h=>by subst hm;exact absurd rfl h
 |(p,c)::T,more,hm,h=>by
  cases hs:bW s c with
  |false=>
   rw [kC hs] at h
   obtain ⟨e,he,h2⟩:=li T more hm h
   exact ⟨e,zAJ _ he,h2⟩
  |true=>
   by_cases hl:s.length≤c.length
   ·rw [lZ hs hl] at h
    obtain ⟨e,he,h2⟩:=li T true rfl h
    exact ⟨e,zAJ _ he,h2⟩
   ·refine ⟨(p,c),by simp,?_⟩
    rcases dP.1 hs with h3|h3
    ·have:=h3.length_le;omega
    ·exact h3
theorem pS {s' s c:List UInt8} (hp:s'<+:s) (h:bW s' c=false):bW s c=false:=by
 rw [←zAQ] at h⊢
 intro h2
 refine h (dP.2 ?_)
 rcases dP.1 h2 with h3|h3
 ·exact .inl (hp.trans h3)
 ·exact zAI hp h3
theorem sn {s' s:List UInt8} (hp:s'<+:s):∀(T:List ((Int×Int)×List UInt8)) (more' more:Bool),(more=true→more'=true)→T.Pairwise (fun a b=>¬b.2<+:a.2)→(bL s' T more').2.2.2≠5→bL s T more=bL s' T more'
 |[],more',more,hm,_,h=>by
  cases more' with
  |true=>exact absurd rfl h
  |false=>
   cases more with
   |true=>cases hm rfl
   |false=>rfl
 |(p,c)::T,more',more,hm,hf,h=>by
  rw [List.pairwise_cons] at hf
  cases hs:bW s' c with
  |false=>
   rw [kC hs] at h⊢
   rw [kC (pS hp hs)]
   exact sn hp T more' more hm hf.2 h
  |true=>
   by_cases hl:s'.length≤c.length
   ·rw [lZ hs hl] at h
    obtain ⟨e,he,h2⟩:=li T true rfl h
    have h3:s'<+:c:=by
     rcases dP.1 hs with h3|h3
     ·exact h3
     ·have e:=h3.eq_of_length (by have:=h3.length_le;omega)
      rw [e];exact zA5 _
    exact absurd (h2.trans h3) (hf.1 e he)
   ·have h3:c<+:s':=by
     rcases dP.1 hs with h3|h3
     ·have:=h3.length_le;omega
     ·exact h3
    have hl2:=hp.length_le
    rw [lg hs hl,lg (dP.2 (.inr (h3.trans hp))) (by omega)]
    obtain ⟨r,rfl⟩:=hp
    have e:(s'++r).getD c.length 0=s'.getD c.length 0:=by rw [zAN,zAN,zAU (by omega)]
    rw [e]
theorem Jj (first:Bool):(aX first).Pairwise (fun a b=>¬b.2<+:a.2):=by
 rw [List.pairwise_iff_getElem]
 intro i j hi hj hij h
 have:=(rI first hi).1 j hj (.inl h)
 omega
theorem Ds (t u:List UInt8) {i:Int} {first:Bool} (he:(aL t i first).2.2.2≠5):aL (t++u) i first=aL t i first:=by
 unfold aL at he⊢
 by_cases h0:i<0
 ·rw [if_pos h0,if_pos h0]
 rw [if_neg h0] at he⊢
 rw [if_neg h0]
 by_cases h1:8*(t.length:Int)<i
 ·rw [if_pos h1] at he;exact absurd rfl he
 rw [if_neg h1] at he⊢
 rw [if_neg (by rw [zAA];omega)]
 have hw:=yJ t u i.toNat 20
 have hl:=bi t i.toNat (min 20 (8*t.length - i.toNat))
 have hl2:=bi (t++u) i.toNat (min 20 (8*(t++u).length - i.toNat))
 generalize aC t i.toNat (min 20 (8*t.length - i.toNat))=s' at he hw hl⊢
 generalize aC (t++u) i.toNat (min 20 (8*(t++u).length - i.toNat))=s at hw hl2⊢
 dsimp only at he⊢
 by_cases hf:s'.length=20
 ·have:=hw.length_le
  have e:s'=s:=hw.eq_of_length (by omega)
  rw [e]
 cases h2:bW s' fX with
 |true=>
  rw [h2,if_pos rfl,if_pos (by omega)] at he
  exact absurd rfl he
 |false=>
  simp only [h2,pS hw h2,zAH,if_false] at he⊢
  cases h3:(!first&&bJ.isPrefixOf s') with
  |true=>
   rw [zAB] at h3
   have h4:bJ.isPrefixOf s=true:=zAC.2 ((zAC.1 h3.2).trans hw)
   simp only [h3.1,h4,zAb,if_true]
  |false=>
   simp only [h3,zAH,if_false] at he
   have h5:(!first&&bJ.isPrefixOf s)=false:=by
    rw [←zAQ]
    intro h6
    rw [zAB] at h6
    rw [h6.1,zAb] at h3 he
    have h7:=zAC.1 h6.2
    rcases zAI hw h7 with h8|h8
    ·have h9:s'.length≤1:=by
      have a:=h8.length_le
      rcases zAE s'.length 2 with b|b
      ·omega
      ·have e:=h8.eq_of_length (by have:bJ.length=2:=rfl;omega)
       rw [e] at h3
       exact absurd h3 (by decide)
     rw [dP.2 (.inl h8)] at he
     obtain ⟨e,ee,e2⟩:=li _ _ rfl he
     have h10:=List.all_eq_true.1 (qx first) e ee
     simp only [zAB,decide_eq_true_eq] at h10
     have:=e2.length_le
     have e1:s'.length=1:=by omega
     have:e.2=s':=e2.eq_of_length (by omega)
     obtain ⟨k,hk,rfl⟩:=zAZ ee
     have hfree:=((rI first hk).2.2.2 (by simpa using h6.1)).2
     exact hfree (by rw [this];exact h8)
    ·rw [zAC.2 h8] at h3
     cases h3
   simp only [h5,zAH,if_false]
   exact sn hw _ _ _ (fun h6=>by
    rw [zAB] at h6⊢
    refine ⟨h6.1,?_⟩
    cases h7:bW s' bJ with
    |true=>rfl
    |false=>rw [pS hw h7] at h6;exact absurd h6.2 (by simp)) (Jj first) he
theorem tG (s:List UInt8):∀(T:List ((Int×Int)×List UInt8)) (more:Bool),(bL s T more).2.1=false
 |[],_=>rfl
 |(p,c)::T,more=>by
  rw [bL]
  split
  ·exact tG s T more
  ·split
   ·exact tG s T true
   ·rfl
theorem E8 {l:List UInt8} {i:Int} {first:Bool} (h:(aL l i first).2.2.2=5):(aL l i first).2.1=false:=by
 unfold aL at h⊢
 split
 ·rfl
 split
 ·rfl
 dsimp only
 split
 ·split
  ·rfl
  split<;>rfl
 split
 ·rename_i h0 h1 h2 h3
  rw [if_neg h0,if_neg h1] at h
  dsimp only at h
  rw [if_neg h2,if_pos h3] at h
  cases h
 ·exact tG _ _ _
theorem qE (t u:List UInt8):∀(f:Nat) (i:Int) (first:Bool) (left:Int),(bm t f i first left).2.2≠5→bm (t++u) f i first left=bm t f i first left
 |0,_,_,_,h=>absurd rfl h
 |f+1,i,first,left,h=>by
  rw [iQ] at h⊢
  rw [iQ]
  have hc:(aL t i first).2.2.2≠5:=fun h5=>by
   rw [E8 h5,h5] at h
   exact h rfl
  rw [Ds t u hc]
  split
  ·rfl
  rename_i h1
  rw [if_neg h1] at h
  split
  ·rfl
  rename_i h2
  rw [if_neg h2] at h
  split
  ·rfl
  rename_i h3
  rw [if_neg h3] at h
  rw [qE t u f _ _ _ h]
theorem Dg (t u:List UInt8) {i:Int} {intra:Bool} (h:(bd t i intra).2.2≠5):bd (t++u) i intra=bd t i intra:=by
 unfold bd at h⊢
 by_cases h0:i<0
 ·rw [if_pos h0,if_pos h0]
 rw [if_neg h0] at h⊢
 rw [if_neg h0]
 by_cases h1:8*(t.length:Int)<i
 ·rw [if_pos h1] at h;exact absurd rfl h
 rw [if_neg h1] at h⊢
 rw [if_neg (by rw [zAA];omega)]
 have key:∀(j:Int) (first:Bool) (left:Int) (n:Int),(if (bm t 66 j first left).2.2 !=0 then ((⟨0,[]⟩:bB),(0:Int),(bm t 66 j first left).2.2) else (⟨n,(bm t 66 j first left).1⟩,(bm t 66 j first left).2.1 - i,0)).2.2≠5→bm (t++u) 66 j first left=bm t 66 j first left:=fun j first left n hk=>by
  refine qE t u _ _ _ _ (fun h5=>?_)
  rw [h5] at hk
  exact hk rfl
 cases intra with
 |true=>
  simp only [if_true] at h⊢
  by_cases h2:8*(t.length:Int)<i+8
  ·rw [if_pos h2] at h;exact absurd rfl h
  rw [if_neg h2] at h⊢
  rw [if_neg (by rw [zAA];omega),gv t u _ 8 (by omega)]
  split
  ·rfl
  rename_i h3
  rw [if_neg h3] at h
  rw [key _ _ _ _ h]
 |false=>
  simp only [zAH,if_false] at h⊢
  rw [key _ _ _ _ h]
theorem rP (t u:List UInt8) {intra:Bool}:∀(n:Nat) (i:Int),(bP t intra n i).2.2≠5→bP (t++u) intra n i=bP t intra n i
 |0,_,_=>rfl
 |n+1,i,h=>by
  rw [bP] at h⊢
  rw [bP]
  dsimp only at h⊢
  have hc:(bd t i intra).2.2≠5:=fun h5=>by
   rw [h5] at h
   exact h rfl
  rw [Dg t u hc]
  split
  ·rfl
  rename_i h1
  rw [if_neg h1] at h
  rw [rP t u n _ h]
theorem vt (t u:List UInt8) {i pr:Int} (h:(dW t i pr).2.2≠5):dW (t++u) i pr=dW t i pr:=by
 unfold dW at h⊢
 dsimp only at h⊢
 have hc:(ac aj aq t i).2.2≠5:=fun h5=>by
  rw [h5] at h
  exact h rfl
 rw [mW yG Bk u hc]
theorem Hj (t u:List UInt8) {k i x y:Int} (h:(mv t k i x y).2.2≠5):mv (t++u) k i x y=mv t k i x y:=by
 unfold mv at h⊢
 split
 ·rename_i h0
  rw [if_pos h0] at h
  dsimp only at h⊢
  have hc:(dW t i x).2.2≠5:=fun h5=>by
   rw [h5] at h
   exact h rfl
  rw [vt t u hc]
  split
  ·rfl
  rename_i h1
  rw [if_neg h1] at h
  have hd:(dW t (dW t i x).2.1 y).2.2≠5:=fun h5=>by
   rw [h5] at h
   exact h rfl
  rw [vt t u hd]
 ·rfl
theorem G4 (t u:List UInt8) {k i:Int} (h:(mc t k i).2.2≠5):mc (t++u) k i=mc t k i:=by
 unfold mc at h⊢
 split
 ·rename_i h0
  rw [if_pos h0] at h
  dsimp only at h⊢
  have hc:(ac bH cf t i).2.2≠5:=fun h5=>by
   rw [h5] at h
   exact h rfl
  rw [mW xF AQ u hc]
 ·rfl
theorem G9 (t u:List UInt8) {k i:Int} (h0:0≤i) (h:(mq t k i).2.2≠5):mq (t++u) k i=mq t k i:=by
 unfold mq at h⊢
 split
 ·rename_i h1
  rw [if_pos h1] at h
  by_cases h2:8*(t.length:Int)<i+5
  ·rw [if_pos h2] at h;exact absurd rfl h
  ·rw [if_neg h2,if_neg (by rw [zAA];omega),gv t u _ 5 (by omega)]
 ·rfl
theorem DV (t u:List UInt8) {i ad:Int} {x:bD} (h:(bR t i ad x).2.2≠5):bR (t++u) i ad x=bR t i ad x:=by
 unfold bR at h⊢
 split
 ·rfl
 rename_i g0
 rw [if_neg g0] at h
 split
 ·rfl
 rename_i g1
 rw [if_neg g1] at h
 dsimp only at h⊢
 have h1:(ac aA aM t i).2.2≠5:=fun h5=>by rw [h5] at h;exact h rfl
 rw [mW uD xj u h1]
 split
 ·rfl
 rename_i g2
 rw [if_neg g2] at h
 have hk:=xh (l:=t) (i:=i) (by simpa using g2)
 have h2:(mq t (ac aA aM t i).1 (i+(ac aA aM t i).2.1)).2.2≠5:=fun h5=>by rw [h5] at h;exact h rfl
 rw [G9 t u (by omega) h2]
 split
 ·rfl
 rename_i g3
 rw [if_neg g3] at h
 generalize mq t (ac aA aM t i).1 (i+(ac aA aM t i).2.1)=q at h⊢
 generalize ac aA aM t i=kk at h⊢
 generalize dy ad (ad - x.ad) x.had x.x x.y=pr at h⊢
 have h3:(mv t kk.1 q.2.1 pr.1 pr.2).2.2≠5:=fun h5=>by rw [h5] at h;exact h rfl
 rw [Hj t u h3]
 split
 ·rfl
 rename_i g4
 rw [if_neg g4] at h
 generalize mv t kk.1 q.2.1 pr.1 pr.2=v at h⊢
 have h4:(mc t kk.1 v.2.1).2.2≠5:=fun h5=>by rw [h5] at h;exact h rfl
 rw [G4 t u h4]
 split
 ·rfl
 rename_i g5
 rw [if_neg g5] at h
 generalize mc t kk.1 v.2.1=c at h⊢
 have h6:(bP t (pI kk.1) (cI c.1) c.2.1).2.2≠5:=fun h5=>by rw [h5] at h;exact h rfl
 rw [rP t u _ _ h6]
theorem Dd (t u:List UInt8) {i:Int} (h:(ca t i).2.2≠5):ca (t++u) i=ca t i:=by
 unfold ca at h⊢
 have h1:(ac fC ot t i).2.2≠5:=fun h5=>by
  unfold mG at h
  split at h
  ·exact h h5
  ·exact h h5
 rw [mW nT tq u h1]
theorem qe (t u:List UInt8):∀(k k' p:Nat),fo t k p<k→k≤k'→p+k≤8*t.length→fo (t++u) k' p=fo t k p
 |0,_,_,h,_,_=>by omega
 |k+1,0,_,_,h,_=>by omega
 |k+1,k'+1,p,h,hk,hp=>by
  rw [fo] at h⊢
  rw [fo,i9 _ _ _ (by omega)]
  split
  ·rename_i h0
   rw [if_pos h0] at h
   rw [qe t u k k' (p+1) (by omega) (by omega) (by omega)]
  ·rfl
theorem Cz (t u:List UInt8) {p:Nat} (h:(cu t p).2.2≠5):cu (t++u) p=cu t p:=by
 unfold cu at h⊢
 dsimp only at h⊢
 by_cases h1:8*t.length≤p+fo t (8*t.length - p) p
 ·rw [if_pos h1] at h;exact absurd rfl h
 rw [if_neg h1] at h⊢
 have hz:=qe t u (8*t.length - p) (8*(t++u).length - p) p (by omega) (by rw [zAA];omega) (by omega)
 rw [hz]
 rw [if_neg (by rw [zAA];omega)]
 split
 ·rfl
 rename_i h2
 rw [if_neg h2] at h
 by_cases h3:8*t.length<p+fo t (8*t.length - p) p+5
 ·rw [if_pos h3] at h;exact absurd rfl h
 ·rw [if_neg h3,if_neg (by rw [zAA];omega),gv t u _ 4 (by omega)]
theorem vA (t u:List UInt8) {p:Nat} {n:Int} (h:(cL t p n).2≠6):cL (t++u) p n=cL t p n:=by
 unfold cL at h⊢
 dsimp only at h⊢
 have h1:(cu t p).2.2≠5:=fun h5=>by
  rw [h5,if_neg (by decide)] at h
  exact h rfl
 rw [Cz t u h1]
theorem yg (t u:List UInt8):∀(k p:Nat),(cB t k p).2.2≠5→cB (t++u) k p=cB t k p:=by
 intro k
 induction k with
 |zero=>
  intro p h
  rw [cB.eq_def] at h⊢
  rw [cB.eq_def]
  dsimp only at h⊢
  by_cases h1:8*t.length<p+1
  ·rw [if_pos h1] at h;exact absurd rfl h
  ·rw [if_neg h1,if_neg (by rw [zAA];omega),i9 _ _ _ (by omega)]
 |succ k ih=>
  intro p h
  rw [cB.eq_def] at h⊢
  rw [cB.eq_def]
  dsimp only at h⊢
  by_cases h1:8*t.length<p+1
  ·rw [if_pos h1] at h;exact absurd rfl h
  ·rw [if_neg h1] at h⊢
   rw [if_neg (by rw [zAA];omega),i9 _ _ _ (by omega)]
   split
   ·rfl
   rename_i h2
   rw [if_neg h2] at h
   by_cases h3:8*t.length<p+9
   ·rw [if_pos h3] at h;exact absurd rfl h
   ·rw [if_neg h3] at h⊢
    rw [if_neg (by rw [zAA];omega),gv t u _ 8 (by omega),ih _ h]
theorem DI (t u:List UInt8) {p:Nat} (h:(eo t p).2.2≠5):eo (t++u) p=eo t p:=by
 unfold eo at h⊢
 dsimp only at h⊢
 by_cases h1:8*t.length<p+11
 ·rw [if_pos h1] at h;exact absurd rfl h
 rw [if_neg h1] at h⊢
 have h2:(cB t 32 (p+11)).2.2≠5:=fun h5=>by rw [h5,if_neg (by decide)] at h;exact h rfl
 rw [if_neg (by rw [zAA];omega),yg t u _ _ h2,gv t u _ 5 (by omega),gv t u _ 6 (by omega)]
theorem DD (t u:List UInt8) {p:Nat} (h:(dH t p).2.2≠5):dH (t++u) p=dH t p:=by
 unfold dH at h⊢
 dsimp only at h⊢
 by_cases h1:8*t.length<p+5
 ·rw [if_pos h1] at h;exact absurd rfl h
 rw [if_neg h1] at h⊢
 rw [if_neg (by rw [zAA];omega),gv t u _ 5 (by omega)]
 split
 ·rfl
 rename_i h3
 rw [if_neg h3] at h
 have h2:(cB t 32 (p+5)).2.2≠5:=fun h5=>by rw [h5,if_neg (by decide)] at h;exact h rfl
 rw [yg t u _ _ h2]
theorem pq {l:List UInt8} {f g:Int}:∀(k k' p:Nat) (x:bD),p≤8*l.length→8*l.length<p+k→8*l.length<p+k'→ba l f g k p x=ba l f g k' p x
 |0,_,p,x,hp,h,_=>by omega
 |k+1,0,p,x,hp,_,h=>by omega
 |k+1,k'+1,p,x,hp,h1,h2=>by
  have hag:= @rg l (p:Int) (by omega) (by omega)
  rw [ba,ba]
  dsimp only
  by_cases a1:(ca l p).2.2=0
  ·rw [if_pos a1,if_pos a1]
   by_cases a2:(ca l p).1=34
   ·rw [if_pos a2,if_pos a2]
   ·rw [if_neg a2,if_neg a2]
    obtain ⟨d,d1,d2,d3,d4⟩:=hag a1 a2
    rw [d3] at d4
    have hp1:=mE d d1
    rw [d2,d3,zAP]
    rw [pq k k' (p+(aN.getD d []).length) x (by omega) (by omega) (by omega)]
    split
    ·rfl
    split
    ·rfl
    have hm:= @rx l ((p+(aN.getD d []).length:Nat):Int) (x.ad+d) x (by omega) (by omega)
    generalize bR l ((p+(aN.getD d []).length:Nat):Int) (x.ad+d) x=r at hm⊢
    by_cases a3:r.2.2=0
    ·rw [if_pos a3,if_pos a3]
     obtain ⟨m1,m2,m3,m4,m5,m6⟩:=hm a3
     rw [pq k k' (p+(aN.getD d []).length+r.2.1.toNat) (ez r.1) (by omega) (by omega) (by omega)]
    ·rw [if_neg a3,if_neg a3]
  ·rw [if_neg a1,if_neg a1]
theorem pu (t u:List UInt8) {f g:Int}:∀(k p:Nat) (x:bD),(ba t f g k p x).2.2≠6→ba (t++u) f g k p x=ba t f g k p x∨((ba t f g k p x).2.2=0∧cA t (ba t f g k p x).2.1=true)
 |0,_,_,_=> .inl rfl
 |k+1,p,x,h=>by
  by_cases h5:(ca t p).2.2=5
  ·have e:ba t f g (k+1) p x=if cA t p then ([],p,0) else ([],0,6):=by
    rw [ba]
    dsimp only
    rw [h5,if_neg (by decide),if_pos rfl]
   rw [e] at h⊢
   split at h
   ·rename_i ho;rw [if_pos ho];exact .inr ⟨rfl,ho⟩
   ·exact absurd rfl h
  rw [ba] at h⊢
  rw [ba]
  dsimp only at h⊢
  rw [Dd t u h5]
  by_cases h0:(ca t p).2.2=0
  ·rw [if_pos h0] at h⊢
   rw [if_pos h0]
   split
   ·exact .inl rfl
   rename_i g1
   rw [if_neg g1] at h
   split
   ·rename_i g2
    rw [if_pos g2] at h
    exact pu t u k _ x h
   rename_i g2
   rw [if_neg g2] at h
   split
   ·exact .inl rfl
   rename_i g3
   rw [if_neg g3] at h
   generalize ca t p=d at h⊢
   by_cases h6:(bR t ((p+d.2.1.toNat:Nat):Int) (x.ad+d.1) x).2.2=5
   ·rw [h6,if_neg (by decide)] at h
    exact absurd rfl h
   rw [DV t u h6]
   split
   ·rename_i g4
    rw [if_pos g4] at h
    split
    ·rename_i g5
     rw [if_pos g5] at h
     rcases pu t u k _ _ h with h7|h7
     ·rw [h7];exact .inl rfl
     ·exact .inr h7
    ·exact .inl rfl
   ·exact .inl rfl
  ·rw [if_neg h0,if_neg h5,if_neg h0,if_neg h5]
   exact .inl rfl
theorem Fo (t u:List UInt8) {f n:Int} {p:Nat} (h:(ed t f n p).2.2≠6):ed (t++u) f n p=ed t f n p∨((ed t f n p).2.2=0∧cA t (ed t f n p).2.1=true):=by
 unfold ed at h⊢
 dsimp only at h⊢
 have h1:(cL t p n).2≠6:=fun h6=>by rw [h6,if_neg (by decide)] at h;exact h rfl
 rw [vA t u h1]
 split
 ·rename_i g1
  rw [if_pos g1] at h
  have h2:(dH t (cL t p n).1).2.2≠5:=fun h6=>by rw [h6,if_neg (by decide)] at h;exact h rfl
  rw [DD t u h2]
  split
  ·rename_i g2
   rw [if_pos g2] at h
   have hgg:=(rq g2).2.2.2.2
   generalize dH t (cL t p n).1=r at h hgg⊢
   have h3:(ba t f n (8*t.length+1) r.2.1 b9).2.2≠6:=fun h6=>by rw [h6,if_neg (by decide)] at h;exact h rfl
   rw [pq (l:=t) (8*t.length+1) (8*(t++u).length+1) r.2.1 b9 hgg (by omega) (by rw [zAA];omega)] at h3⊢
   rcases pu t u _ _ _ h3 with h4|h4
   ·rw [h4];exact .inl rfl
   ·rw [if_pos h4.1];exact .inr ⟨rfl,h4.2⟩
  ·exact .inl rfl
 ·exact .inl rfl
theorem sE {t:List UInt8} {p:Nat} (h:cA t p=true):cu t p=(0,0,5):=by
 unfold cA at h
 rw [beq_iff_eq] at h
 unfold cu
 rw [h]
 dsimp only
 rw [if_pos (by omega)]
theorem FG {t:List UInt8} {f n:Int} {p:Nat} (h:cA t p=true):(ed t f n p).2.2=6:=by
 unfold ed cL
 rw [sE h]
 rfl
theorem uA (t u:List UInt8) {f:Int}:∀(ns:List Int) (p:Nat),(dk t f ns p).2.2≠6→dk (t++u) f ns p=dk t f ns p∨((dk t f ns p).2.2=0∧cA t (dk t f ns p).2.1=true)
 |[],_,_=> .inl rfl
 |n::ns,p,h=>by
  rw [dk] at h⊢
  rw [dk]
  dsimp only at h⊢
  have h1:(ed t f n p).2.2≠6:=fun h6=>by rw [h6,if_neg (by decide)] at h;exact h rfl
  rcases Fo t u h1 with h2|h2
  ·rw [h2]
   split
   ·rename_i g1
    rw [if_pos g1] at h
    rcases uA t u ns _ h with h3|h3
    ·rw [h3];exact .inl rfl
    ·exact .inr h3
   ·exact .inl rfl
  ·rw [if_pos h2.1] at h⊢
   cases ns with
   |nil=>exact .inr ⟨rfl,h2.2⟩
   |cons n2 ns=>
    rw [dk] at h
    dsimp only at h
    rw [FG h2.2,if_neg (by decide)] at h
    exact absurd rfl h
theorem uZ (t u:List UInt8) {p:Nat} (h:(cE t p).2.2≠6):cE (t++u) p=cE t p∨((cE t p).2.2=0∧cA t (cE t p).2.1=true):=by
 unfold cE at h⊢
 dsimp only at h⊢
 have h1:(cL t p 0).2≠6:=fun h6=>by rw [h6,if_neg (by decide)] at h;exact h rfl
 rw [vA t u h1]
 split
 ·rename_i g1
  rw [if_pos g1] at h
  have h2:(eo t (cL t p 0).1).2.2≠5:=fun h6=>by rw [h6,if_neg (by decide)] at h;exact h rfl
  rw [DI t u h2]
  split
  ·rename_i g2
   rw [if_pos g2] at h
   generalize eo t (cL t p 0).1=r at h⊢
   have h3:(dk t (fg r.1.ty) (aQ (fg r.1.ty)) r.2.1).2.2≠6:=fun h6=>by rw [h6,if_neg (by decide)] at h;exact h rfl
   rcases uA t u _ _ h3 with h4|h4
   ·rw [h4];exact .inl rfl
   ·rw [if_pos h4.1];exact .inr ⟨rfl,h4.2⟩
  ·exact .inl rfl
 ·exact .inl rfl
theorem Ga {l:List UInt8} {p:Nat} (h:(cE l p).2.2=0):p<(cE l p).2.1∧(cE l p).2.1≤8*l.length:=by
 obtain ⟨_,b,c⟩:=rF h
 have:=uY (cE l p).1
 exact ⟨by omega,c⟩
theorem sM {l:List UInt8}:∀(k k' p:Nat),p≤8*l.length→8*l.length<p+k→8*l.length<p+k'→bY l k p=bY l k' p
 |0,_,p,hp,h,_=>by omega
 |k+1,0,p,hp,_,h=>by omega
 |k+1,k'+1,p,hp,h1,h2=>by
  rw [bY,bY]
  dsimp only
  split
  ·rfl
  split
  ·rename_i g
   have:=Ga g
   rw [sM k k' _ (by omega) (by omega) (by omega)]
  ·rfl
theorem D7 {t u:List UInt8} {p:Nat} (h:cA t p=false):cA (t++u) p=false:=by
 unfold cA at h⊢
 rw [beq_eq_false_iff_ne] at h⊢
 have h1:=Bp t (8*t.length - p) p
 rw [qe t u (8*t.length - p) (8*(t++u).length - p) p (by omega) (by rw [zAA];omega) (by omega)]
 rw [zAA]
 omega
theorem sO (t u:List UInt8):∀(k p:Nat),((bY t k p).2≠0→(bY t k p).2≠6→bY (t++u) k p=bY t k p)∧((bY t k p).2=6→(bY t k p).1<+:(bY (t++u) k p).1)∧((bY t k p).2=0→(bY t k p).1.dropLast<+:(bY (t++u) k p).1)
 |0,_=>⟨fun h=>absurd rfl h,fun h=>(by cases h),fun _=>zA5 _⟩
 |k+1,p=>by
  rw [bY,bY]
  dsimp only
  cases ho:cA t p with
  |true=>
   rw [if_pos rfl]
   exact ⟨fun h=>absurd rfl h,fun h=>(by cases h),fun _=>zAO⟩
  |false=>
   rw [D7 ho]
   simp only [zAH,if_false]
   by_cases h0:(cE t p).2.2=0
   ·rw [if_pos h0]
    rcases uZ t u (by rw [h0];decide) with h1|h1
    ·rw [h1,if_pos h0]
     obtain ⟨a,b,c⟩:=sO t u k (cE t p).2.1
     refine ⟨fun h2 h3=>by rw [a h2 h3],fun h2=>zAW.2 ⟨rfl,b h2⟩,fun h2=>?_⟩
     have c:=c h2
     dsimp only
     cases hm:(bY t k (cE t p).2.1).1 with
     |nil=>exact zAO
     |cons s ss=>
      rw [hm] at c
      rw [List.dropLast_cons_of_ne_nil (by simp)]
      exact zAW.2 ⟨rfl,c⟩
    ·have e:bY t k (cE t p).2.1=([],0):=by
      cases k with
      |zero=>rfl
      |succ k=>rw [bY,if_pos h1.2]
     rw [e]
     exact ⟨fun h=>absurd rfl h,fun h=>(by cases h),fun _=>zAO⟩
   ·rw [if_neg h0]
    refine ⟨fun _ h2=>?_,fun _=>zAO,fun h=>absurd h h0⟩
    rcases uZ t u h2 with h1|h1
    ·rw [h1,if_neg h0]
    ·exact absurd h1.1 h0
theorem yj {t u:List UInt8} {p:Nat} (h:p+20≤8*t.length):dx (t++u) p=dx t p:=by
 unfold dx
 rw [nP _ _ _ _ h,decide_eq_true h,decide_eq_true (by rw [zAA];omega)]
theorem r7 {t u:List UInt8}:∀(k k' q p:Nat),dq t k q=some p→k≤k'→dq (t++u) k' q=some p
 |0,_,_,_,h,_=>by cases h
 |k+1,0,_,_,_,hk=>by omega
 |k+1,k'+1,q,p,h,hk=>by
  have hp:=n7 _ _ _ h
  rw [dq] at h⊢
  split at h
  ·rename_i hs
   injection h with h
   subst h
   rw [yj hp,hs,if_pos rfl]
  ·rename_i hs
   have hq:∀(k q:Nat),dq t k q=some p→q≤p:=by
    intro k
    induction k with
    |zero=>intro q h;cases h
    |succ k ih=>
     intro q h
     rw [dq] at h
     split at h
     ·injection h with h;omega
     ·have:=ih _ h;omega
   have:=hq _ _ h
   rw [yj (by omega),if_neg hs]
   exact r7 k k' _ _ h (by omega)
theorem CI (t u:List UInt8):((aZ t).2≠0→(aZ t).2≠6→aZ (t++u)=aZ t)∧((aZ t).2=6→(aZ t).1<+:(aZ (t++u)).1)∧((aZ t).2=0→(aZ t).1.dropLast<+:(aZ (t++u)).1):=by
 unfold aZ
 cases h:dq t (8*t.length) 0 with
 |none=>exact ⟨fun h=>absurd rfl h,fun h=>(by cases h),fun _=>zAO⟩
 |some p=>
  have hp:=n7 _ _ _ h
  rw [r7 _ (8*(t++u).length) _ _ h (by rw [zAA];omega)]
  dsimp only
  rw [sM (l:=t) (8*t.length+1) (8*(t++u).length+1) p (by omega) (by omega) (by rw [zAA];omega)]
  exact sO t u _ p
theorem jP (l:List UInt8) (p:Nat):∀n,aF l p n=0↔∀j,j<n→aP l (p+j)=0
 |0=>by simp [aF]
 |n+1=>by
  rw [aF]
  constructor
  ·intro h j hj
   rcases zAE j n with h1|h1
   ·exact (jP l p n).1 (by omega) j h1
   ·obtain rfl:j=n:=by omega
    omega
  ·intro h
   have h1:=(jP l p n).2 (fun j hj=>h j (by omega))
   have h2:=h n (by omega)
   omega
theorem AP (l:List UInt8) (p a:Nat):∀b,aF l p (a+b)=aF l p a*2 ^ b+aF l (p+a) b
 |0=>by simp [aF]
 |b+1=>by
  rw [←zAM,aF,AP l p a b,aF,zAd,zAM p a b]
  have:aF l p a*(2 ^ b*2)=2*(aF l p a*2 ^ b):=by rw [←Nat.mul_assoc,zAc]
  omega
theorem vB (l:List UInt8):∀k p,fo l k p=k→∀j,p≤j→j<p+k→aP l j=0
 |0,p,_,j,h1,h2=>by omega
 |k+1,p,h,j,h1,h2=>by
  rw [fo] at h
  split at h
  ·rcases zAT h1 with e|e
   ·subst e;assumption
   ·exact vB l k (p+1) (by omega) j (by omega) (by omega)
  ·omega
theorem l6 {l:List UInt8} {p:Nat}:cA l p=true↔∀j,p≤j→j<8*l.length→aP l j=0:=by
 unfold cA
 rw [beq_iff_eq]
 exact ⟨fun h j h1 h2=>vB l _ _ h j h1 (by omega),fun h=>rL _ _ (fun j h1 h2=>h j h1 (by omega))⟩
theorem D8 {l:List UInt8} {p n:Nat} (h:aF l p n=0):cA l (p+n)=cA l p:=by
 rw [zA6,l6,l6]
 constructor
 ·intro h1 j h2 h3
  rcases zAE j (p+n) with h4|h4
  ·have:=(jP l p n).1 h (j - p) (by omega)
   rwa [show p+(j - p)=j by omega] at this
  ·exact h1 j h4 h3
 ·exact fun h1 j h2 h3=>h1 j (by omega) h3
theorem FH {l:List UInt8} {p n:Nat} (hn:p+n≤8*l.length) (h:aF l p n≠0):cA l p=false:=by
 rw [zA2]
 intro h1
 apply h
 rw [jP]
 exact fun j hj=>l6.1 h1 _ (by omega) (by omega)
theorem FF {l:List UInt8} {p:Nat} (h:8*l.length≤p):cA l p=true:=l6.2 (fun j h1 h2=>by omega)
def jl (l:List UInt8) (p:Nat):Prop:=p+16≤8*l.length∧(∀j,p≤j→j<p+15→aP l j=0)∧aP l (p+15)=1
def iN (l:List UInt8) (a:Nat):Nat→Nat
 |0=>0
 |k+1=>if aP l (a+k)=0 then iN l a k+1 else 0
theorem tN (l:List UInt8) (a:Nat):∀k,iN l a k≤k
 |0=>zAG _
 |k+1=>by
  have:=tN l a k
  rw [iN]
  split<;>omega
theorem uW (l:List UInt8) (a:Nat):∀k j,a+k≤j+iN l a k→j<a+k→aP l j=0
 |0,j,h1,h2=>by rw [iN] at h1;omega
 |k+1,j,h1,h2=>by
  rw [iN] at h1
  split at h1
  ·rcases zAE j (a+k) with h3|h3
   ·exact uW l a k j (by omega) h3
   ·obtain rfl:j=a+k:=by omega
    assumption
  ·omega
theorem xX (l:List UInt8) (a:Nat):∀k t,t≤k→(∀j,a+k≤j+t→j<a+k→aP l j=0)→t≤iN l a k
 |0,t,h,_=>by omega
 |k+1,0,_,_=>zAK _
 |k+1,t+1,h,hz=>by
  rw [iN,if_pos (hz (a+k) (by omega) (by omega))]
  have:=xX l a k t (by omega) (fun j h1 h2=>hz j (by omega) (by omega))
  omega
def lO (l:List UInt8) (a k:Nat):Prop:=∀j,a≤j→j+16≤a+k→¬jl l j
theorem zk (l:List UInt8) (a:Nat):lO l a 0:=fun j h1 h2=>by omega
theorem vO {l:List UInt8} {a k:Nat} (h:lO l a k) (hb:aP l (a+k)=0):lO l a (k+1):=fun j h1 h2 hc=>by
 rcases zAE (a+k) (j+16) with h3|h3
 ·have:=hc.2.2
  rw [show j+15=a+k by omega] at this
  omega
 ·exact h j h1 h3 hc
theorem Cc {l:List UInt8} {a k:Nat} (h:lO l a k) (hr:iN l a k<15):lO l a (k+1):=fun j h1 h2 hc=>by
 rcases zAE (a+k) (j+16) with h3|h3
 ·have:=xX l a k 15 (by omega) (fun i h4 h5=>hc.2.1 i (by omega) (by omega))
  omega
 ·exact h j h1 h3 hc
theorem BC {l:List UInt8} {a k:Nat} (h:lO l a k) (hk:a+k<8*l.length) (hr:15≤iN l a k) (hb:aP l (a+k)=1):a+15≤a+k∧jl l (a+k - 15)∧∀j,a≤j→j<a+k - 15→¬jl l j:=by
 have h0:=tN l a k
 refine ⟨by omega,⟨by omega,fun j h1 h2=>uW l a k j (by omega) (by omega),by rw [show a+k - 15+15=a+k by omega];exact hb⟩,fun j h1 h2=>h j h1 (by omega)⟩
theorem rQ (l:List UInt8) (k:Nat) (h:aP l k≠0):aP l k=1:=by have:=gT l k;omega
theorem qw {l:List UInt8} {p:Nat}:dx l p=true↔jl l p∧p+20≤8*l.length∧aF l (p+16) 4=0:=by
 rw [Bh,zAB,decide_eq_true_eq,beq_iff_eq,show 20=16+4 from rfl,AP l p 16 4,show 16=15+1 from rfl,aF,show 15+1=16 from rfl]
 have h4:=gm l (p+16) 4
 have hb:=gT l (p+15)
 constructor
 ·rintro ⟨h1,h2⟩
  have h3:aF l p 15=0:=by omega
  refine ⟨⟨by omega,fun j a b=>?_,by omega⟩,by omega,by omega⟩
  have:=(jP l p 15).1 h3 (j - p) (by omega)
  rwa [show p+(j - p)=j by omega] at this
 ·rintro ⟨⟨h1,h2,h3⟩,h5,h6⟩
  have:aF l p 15=0:=(jP l p 15).2 (fun j hj=>h2 _ (by omega) (by omega))
  exact ⟨h5,by omega⟩
theorem sb {l:List UInt8}:∀(k q:Nat),(∀j,q≤j→j<q+k→dx l j=false)→dq l k q=none
 |0,q,_=>rfl
 |k+1,q,h=>by
  rw [dq,h q (zAG _) (by omega)]
  exact sb k (q+1) (fun j h1 h2=>h j (by omega) (by omega))
def nI (l:List UInt8) (p:Nat):Prop:=∀j,j<p→dx l j=false
theorem xv {l:List UInt8} {p q:Nat} (h:nI l p) (hn:∀j,p≤j→j<q→¬jl l j):nI l q:=fun j hj=>by
 rcases zAE j p with h1|h1
 ·exact h j h1
 ·rw [zA2];intro h2
  exact hn j h1 hj (qw.1 h2).1
theorem sC {l:List UInt8} {p:Nat} (h:nI l p) (hn:dx l p=false):nI l (p+1):=fun j hj=>by
 rcases zAE j p with h1|h1
 ·exact h j h1
 ·obtain rfl:j=p:=by omega
  exact hn
theorem Eo {l:List UInt8} {p:Nat} (h:nI l p) (hn:∀j,p≤j→¬jl l j):dq l (8*l.length) 0=none:=
 sb _ _ (fun j _ _=>xv (q:=j+1) h (fun i h1 _=>hn i h1) j (by omega))
theorem Ep {l:List UInt8} {p:Nat} (h:nI l p) (hs:dx l p=true):dq l (8*l.length) 0=some p:=
 ro hs _ _ (zAK _) (by have:=(qw.1 hs).2.1;omega) (fun j _ hj=>h j hj)
theorem Ew {l:List UInt8} {p:Nat} (h:∀j,p≤j→j<8*l.length→aP l j=0):cu l p=(0,0,5):=sE (l6.2 h)
theorem Ex {l:List UInt8} {p z:Nat} (hz:p+z<8*l.length) (h:∀j,p≤j→j<p+z→aP l j=0) (hb:aP l (p+z)≠0):
  cu l p=if z<15 then ((0:Int),(0:Nat),(7:Int)) else if 8*l.length<p+z+5 then ((0:Int),(0:Nat),(5:Int)) else (((aF l (p+z+1) 4:Nat):Int),p+z+5,(0:Int)):=by
 unfold cu
 rw [rM z (8*l.length - p) p (by omega) h hb]
 dsimp only
 rw [if_neg (by omega)]
theorem Bf {l:List UInt8} {k p:Nat} (h:8*l.length<p+1):cB l k p=([],0,5):=by
 cases k<;>rw [cB,if_pos h]
theorem sP {l:List UInt8} {k p:Nat} (h:p+1≤8*l.length) (hb:aP l p=0):cB l k p=([],p+1,0):=by
 cases k<;>rw [cB,if_neg (by omega),if_pos hb]
theorem ye {l:List UInt8} {p:Nat} (h:p+1≤8*l.length) (hb:aP l p≠0):cB l 0 p=([],0,4):=by
 rw [cB,if_neg (by omega),if_neg hb]
theorem yh {l:List UInt8} {k p:Nat} (h:p+1≤8*l.length) (hb:aP l p≠0) (h2:8*l.length<p+9):cB l (k+1) p=([],0,5):=by
 rw [cB,if_neg (by omega),if_neg hb]
 dsimp only
 rw [if_pos h2]
theorem Ic {l:List UInt8} {k p:Nat} (hb:aP l p≠0) (h2:p+9≤8*l.length):cB l (k+1) p=(UInt8.ofNat (aF l (p+1) 8)::(cB l k (p+9)).1,(cB l k (p+9)).2.1,(cB l k (p+9)).2.2):=by
 rw [cB,if_neg (by omega),if_neg hb]
 dsimp only
 rw [if_neg (by omega)]
theorem BD (d:Nat):(aN.getD d []).length≤11:=by
 rcases zAE d 34 with h|h
 ·have:∀k:Fin 34,(aN.getD k.1 []).length≤11:=by decide
  exact this ⟨d,h⟩
 ·rw [zAN,zAX (by rw [eO];exact h)]
  exact zAK _
theorem mO {f g last:Int} {m:aU} {ms:List aU} (h:dU f g last (m::ms)=true):kQ m=true∧last<m.ad∧kf f g m=true∧dU f g m.ad ms=true:=by
 rw [dU,zAB,zAB,zAB,decide_eq_true_eq] at h
 exact ⟨h.1.1.1,h.1.1.2,h.1.2,h.2⟩
theorem uI {f g:Int}:∀(ms:List aU) (x:bD),dU f g x.ad ms=true→(bN x ms).length≤8011*ms.length
 |[],_,_=>zAG _
 |m::ms,x,h=>by
  obtain ⟨h1,_,_,h4⟩:=mO h
  have h5:=uI ms (ez m) (by rw [gL];exact h4)
  have h6:=DX x ((iH m).1 h1)
  have h7:=BD (m.ad - x.ad).toNat
  rw [bN,zAA,zAA,zAD]
  omega
theorem oa {f n:Int} {g:fK} (h:jq f n g=true):g.num=n∧1≤g.qu∧g.qu≤31∧g.sp.length≤32∧dU f n 0 g.ms=true:=by
 simp only [jq,zAB,decide_eq_true_eq,beq_iff_eq] at h
 exact ⟨h.1.1.1.1,h.1.1.1.2,h.1.1.2,h.1.2,h.2⟩
theorem Fm {f n:Int} {g:fK} (h:jq f n g=true):(ic g).length≤264700:=by
 obtain ⟨_,_,_,h4,h5⟩:=oa h
 have h6:=uI g.ms b9 (f:=f) (g:=n) h5
 have h7:=rC g.ms 0 h5 (by decide)
 rw [ic,zAA,zAA,zAA,cP,aJ,iq]
 omega
theorem mH {f:Int}:∀(ns:List Int) (gs:List fK),dT f ns gs=true→(bZ gs).length≤264700*ns.length∧gs.length=ns.length
 |[],[],_=>⟨zAG _,rfl⟩
 |[],_::_,h=>by cases h
 |_::_,[],h=>by cases h
 |n::ns,g::gs,h=>by
  rw [dT,zAB] at h
  have h1:=Fm h.1
  have h2:=mH ns gs h.2
  rw [bZ,zAA,zAD,zAD]
  omega
theorem ky (f:Int):(aQ f).length≤12:=by unfold aQ;split<;>decide
theorem nU {s:cS} (h:bX s=true):qJ s.hd=true∧dT (fg s.hd.ty) (aQ (fg s.hd.ty)) s.gs=true:=by
 rw [bX,zAB] at h
 exact h
theorem uB {h:nH} (hh:qJ h=true):0≤h.tm∧h.tm≤31∧0≤h.ty∧h.ty≤63∧h.sp.length≤32:=by
 simp only [qJ,zAB,decide_eq_true_eq] at hh
 exact ⟨hh.1.1.1.1,hh.1.1.1.2,hh.1.1.2,hh.1.2,hh.2⟩
theorem Et {s:cS} (h:bX s=true):(dC s).length≤3200000:=by
 obtain ⟨h1,h2⟩:=nU h
 have h3:=(uB h1).2.2.2.2
 have h4:=(mH _ _ h2).1
 have h5:=ky (fg s.hd.ty)
 rw [dC,zAA,zAA,cP,jE,zAA,zAA,aJ,aJ,iq]
 have h6:264700*(aQ (fg s.hd.ty)).length≤264700*12:=Nat.mul_le_mul_left _ h5
 omega
theorem sN:∀ss:List cS,(∀s∈ss,bX s=true)→(bu ss).length≤3200000*ss.length
 |[],_=>zAG _
 |s::ss,h=>by
  have h1:=Et (h s (by simp))
  have h2:=sN ss (fun t ht=>h t (zAJ _ ht))
  rw [bu,zAA,zAD]
  omega
end Go.Proofs.YthhijgcfbjcgiaaGreatDoor
