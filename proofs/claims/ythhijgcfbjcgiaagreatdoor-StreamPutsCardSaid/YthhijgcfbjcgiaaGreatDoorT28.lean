/- Numb, Get -/
import Derived.Test.YthhijgcfbjcgiaaGreatDoorT27
import Derived.Lib.ConvBytes
namespace Go.Proofs.YthhijgcfbjcgiaaGreatDoor
section
open Go Go.RowKit
set_option maxHeartbeats 16000000
set_option maxRecDepth 100000
open List renaming length→O,take_succ_eq_append_getElem→Z,getElem_mem→Y,take_of_length_le→J,take_length→OE,getD→OI
open Go.Lib renaming hid→U,bytesWorld→OA
open Go.Value renaming int→V,string→OF,tuple→OJ
open Tryz renaming prog→X
open Nat renaming pow_le_pow_right→OB,pow_succ→OG
open Go.IntKind renaming i64→OC,u64→OH
open Go.Ending renaming returned→OD
theorem uH (s:List UInt8)(c:UInt8):cz (s++[c])=2*cz s+(c.toNat - 48):=by unfold cz;rw[List.foldl_append];rfl
theorem tE (s:List UInt8)(h:∀c∈s,c=48\/c=49) (k:Nat):cz (s.take k)<2 ^ k:=by
 induction k with
 |zero=>simp[cz]
 |succ k ih=>
  by_cases j:k<O s
  ·rw[Z j,uH]
   have:s[k].toNat - 48<=1:=(by rcases h _ (Y j) with e|e<;>rw[e]<;>decide);rw[OG];omega
  ·rw[J (by omega)]
   rw[J (by omega)] at ih;rw[OG];omega
theorem yY (w:World)(e:TypeId)(t:ByteArray):Below w.heap.size w (OA w e t):=
 have h:=((Below.refl w.heap.size w).drew.alloc (B:=w.heap.size) (by simp) (.cells (Lib.bytesCells w e t) e))
 ⟨h.os,h.tape,h.output,by rw[Lib.bytesWorld_size];omega,λb j=>Lib.bytesWorld_at_old w e t b j⟩
theorem Eh (s:List UInt8)(j:Nat)(B:j<O s)(c:Nat)(C:(s.getD j 0).toNat=48+c):cz (s.take (j+1))=2*cz (s.take j)+c:=by
 rw[Z B,uH];have h2:s.getD j 0=s[j]:=by simp[OI,B]
 rw[h2] at C;omega
theorem Cq (s:List UInt8)(hs:∀c∈s,c=48\/c=49) (h1:1<=O s) (h2:O s<=20) (w:World):Calls X 299 #[OF (bs s),V OC 2,V OC 64] w λe w'=>e=OD (OJ #[V .u64 (cz s:Nat),.nilIface])/\Below w.heap.size w w':=by
 have e1:(s==[])=false:=by rw[beq_eq_false_iff_ne];intro e;rw[e] at h1;simp at h1
 have e2:s.isEmpty=false:=by cases s with
  |nil=>simp at h1
  |cons a s=>rfl
 have hd:∀j,j<O s->s.getD j 0=48\/s.getD j 0=49:= λj I=>by
  have h2:s.getD j 0=s[j]:=(by simp[OI,I]);rw[h2];exact hs _ (Y I)
 have HD:=U hd
 have B:∀j,j<=O s->cz (s.take j)<1048576:= λj I=>by
  have:=tE s hs j;have h3:2 ^ j<=2 ^ 20:=OB (by decide) (by omega);omega
 have HL:=U B;have aJ:=Eh s;have HS:=U aJ;have HE:Hid (cz (s.take (O s))=cz s):=U (by rw[OE]);clear hs hd B aJ;have G:=Lib.run_convert_string_bytes (P:=X) w 9 25 5 (bs s) (u:= .string) (by kernel_rfl) (by kernel_rfl) (by kernel_rfl)
 have hB:∀j,j<O s->(OA w 5 (bs s)).cell? ⟨w.heap.size,j,none⟩=some (V .u8 (s.getD j 0).toNat):= λj I=>by
  rw[Lib.bytesWorld_cell w 5 (bs s) j (by rw[iJ];exact I),eH]
 have HB:=U hB;have D:=yY w 5 (bs s);obtain⟨W1,M⟩:∃W1,W1=OA w 5 (bs s):=⟨_,rfl⟩;rw[<-M] at G HB D;clear M hB;generalize cz s=N at HE⊢;rw[iJ] at G;obtain⟨cp,T⟩:∃cp,cp=grownCap w (O s) 0 5:=⟨_,rfl⟩;rw[<-T] at G;clear T;have cI:OH.wrap (OH.wrap 18446744073709551616 - 1)=18446744073709551615:=by kernel_rfl
 go_enter Tryz.func299,Tryz.ntmps299
 go_wp2_with fail
 go_loop [12,13,101] (λvu vn vi=>∃(j q:Nat)(a:Int),vu=.bool false/\vn=V .u64 a/\vi=V OC (j:Int)/\j<=O s/\Hid (q=cz (s.take j)/\a=(q:Int)))
  (λ_ _ vi=>(O s) - (Go.RowKit.intOf vi).toNat)
 case atStart=>exact⟨0,0,0,rfl,rfl,rfl,by omega,U ⟨rfl,rfl⟩⟩
 case round=>
  obtain⟨j,q,a,rfl,rfl,rfl,I,C⟩:=hrel
  obtain⟨bM,cE⟩:0<=a/\a<1048576:=by
   have:=HL.out j I;rw[<-C.out.1] at this;rw[C.out.2];omega
  by_cases B:j<O s
  ·have hc:=HB.out j B
   rcases HD.out j B with K|K
   ·rw[K] at hc
    have Hn:=U (HS.out j B 0 (by rw[K];rfl));clear K;go_wp2
    exact⟨⟨j+1,2*q+0,a*2,rfl,by congr 1,by congr 1,by omega,U ⟨by rw[Hn.out,<-C.out.1],by have:=C.out.2;omega⟩⟩,by simp[Go.RowKit.intOf];omega⟩
   ·rw[K] at hc
    have Hn:=U (HS.out j B 1 (by rw[K];rfl));clear K;go_wp2
    exact⟨⟨j+1,2*q+1,a*2+1,rfl,by congr 1,by congr 1,by omega,U ⟨by rw[Hn.out,<-C.out.1],by have:=C.out.2;omega⟩⟩,by simp[Go.RowKit.intOf];omega⟩
  ·obtain rfl:j=(O s):=by omega
   obtain⟨av,dv⟩:=C.out;rw[HE.out] at av;clear C;subst av;go_wp2
   go_ret2;exact⟨rfl,D⟩
theorem xn (s:List UInt8)(B:∀c∈s,c=48\/c=49) (j:1<=O s) (h2:O s<=20) (w:World):Calls X 297 #[OF (bs s),V OC 2,V OC 64] w λe w'=>e=OD (OJ #[V OC (cz s:Nat),.nilIface])/\Below w.heap.size w w':=by
 have N:(s==[])=false:=by rw[beq_eq_false_iff_ne];intro e;rw[e] at j;simp at j
 have T:s.isEmpty=false:=by cases s with
  |nil=>simp at j
  |cons a s=>rfl
 have hd:s[0]=48\/s[0]=49:=B _ (Y j)
 have G:cz s<1048576:=by
  have:=tE s B (O s);rw[OE] at this;have h3:2 ^ (O s)<=2 ^ 20:=OB (by decide) (by omega);omega
 have hC:= λw=>Cq s B j h2 w;have C:=U hC;clear B hC;obtain⟨a,I⟩:∃a:Int,a=(cz s:Nat):=⟨_,rfl⟩;rw[<-I] at C⊢;have K:0<=a:=by omega
 have M:a<1048576:=by omega
 clear I G
 go_enter Tryz.func297,Tryz.ntmps297
 rcases hd with hd|hd
 ·go_wp2_with (go_at_call 299;refine(C.out _).mono ?_;rintro e w' ⟨rfl,D⟩)
  go_ret2;exact⟨rfl,D⟩
 ·go_wp2_with (go_at_call 299;refine(C.out _).mono ?_;rintro e w' ⟨rfl,D⟩)
  go_ret2;exact⟨rfl,D⟩
theorem rC (s:List UInt8)(j:∀c∈s,c=48\/c=49) (C:1<=O s) (h2:O s<=20) (w:World):Calls X 296 #[OF (bs s),V OC 2,V OC 64] w λe w'=>e=OD (OJ #[V OC (cz s:Nat),.nilIface])/\Below w.heap.size w w':=by
 have B:=U (λw=>xn s j C h2 w);clear j;generalize cz s=n at*
 go_enter Tryz.func296,Tryz.ntmps296
 go_wp2_with (go_at_call 297;refine(B.out _).mono ?_;rintro e w' ⟨rfl,D⟩)
 go_ret2;exact⟨rfl,D⟩
theorem pd (s:List UInt8)(j:∀c∈s,c=48\/c=49) (C:1<=O s) (h2:O s<=20) (w:World):Calls X 295 #[OF (bs s)] w λe w'=>e=OD (V OC (cz s:Nat))/\Below w.heap.size w w':=by
 have B:=U (λw=>rC s j C h2 w);clear j;generalize cz s=n at*
 go_enter Tryz.func295,Tryz.ntmps295
 go_wp2_with (go_at_call 296;refine(B.out _).mono ?_;rintro e w' ⟨rfl,D⟩)
 go_ret;exact⟨rfl,D⟩
end
open Go Go.RowKit
attribute [local go_sem] Oper.semAt_some
open Go.Lib renaming hid→O,hasPrefix→OX
open List renaming length→U,singleton_append→X,append_assoc→OA,append_nil→OD,mem_of_mem_drop→OE,append_toArray→OF,push_toArray→OG,size_toArray→OH,cons_append→OI,length_cons→OJ,length_nil→OL,nil_append→OM,take_of_length_le→ON,mem_nil_iff→OV,IsPrefix→OY,mem_cons→OZ
open Go.IntKind renaming i64→Z,i8→Ob
open Go.Value renaming int→V,bool→Y,pointer→OB,string→OQ
open Go.Obj renaming cells→J
open Nat renaming reduceAdd→OC,le_refl→OO,add_assoc→OR,reduceSub→OS
open Go.World renaming size_alloc→OK
open Tryz renaming strings_HasPrefix→OP,ntmps289→OT,func289→OU,func270→Oa,prog→Oc
open Bool renaming false_or→OW
def kF (r:(Int×Int)×Bool×Int×Int):Value:=.tuple #[.agg #[V Z r.1.1,V Z r.1.2],Y r.2.1,V Z r.2.2.1,V Z r.2.2.2]
def fh (h:Nat) (r:(Int×Int)×Bool×Int×Int):List aM:=[(h,189,#[V Z r.1.1,V Z r.1.2]),(h+1,4,#[Y r.2.1]),(h+2,3,#[V Z r.2.2.1]),(h+3,26,#[V Z r.2.2.2])]
def i5 (h j b:Nat) (first more:Bool) (s:List UInt8):List aM:=(j+1,4,#[Y first])::(j,4,#[Y more])::(b,9,#[OQ (bs s)])::fh h ((0,0),false,0,0)
theorem rq {s c:List UInt8}{p:Int×Int}{T:List ((Int×Int)×List UInt8)}{more:Bool}(h:bJ s c=false):bZ s ((p,c)::T) more=bZ s T more:=by
 show (if !bJ s c then _ else _)=_;rw[h];rfl
theorem nk {s c:List UInt8}{p:Int×Int}{T:List ((Int×Int)×List UInt8)}{more:Bool}(h:bJ s c=true)(hl:U s<=U c):bZ s ((p,c)::T) more=bZ s T true:=by
 show (if !bJ s c then _ else if (U s)<=(U c) then _ else _)=_;rw[h,if_neg (by decide),if_pos hl]
theorem pl {s c:List UInt8}{p:Int×Int}{T:List ((Int×Int)×List UInt8)}{more:Bool}(h:bJ s c=true)(hl:¬(U s)<=U c):bZ s ((p,c)::T) more=((p.1,if s.getD (U c) 0==49 then -p.2 else p.2),false,(U c:Int)+1,0):=by
 show (if !bJ s c then _ else if (U s)<=(U c) then _ else _)=_;rw[h,if_neg (by decide),if_neg hl]
theorem fd (h:Nat)(r:(Int×Int)×Bool×Int×Int)(tmps:Array Value)(W:World)(j:aa (fh h r) W)(t6:tmps.getD 6 undef=OB (some ⟨h,0,none⟩))(t7:tmps.getD 7 undef=OB (some ⟨h+1,0,none⟩))
  (t8:tmps.getD 8 undef=OB (some ⟨h+2,0,none⟩)) (t9:tmps.getD 9 undef=OB (some ⟨h+3,0,none⟩)):(results Tryz.f289 tmps).run Oc W= .ok (kF r) W:=by
 unfold fh at j;have K:W.cell? ⟨h,0,none⟩=some (V Z r.1.1):=j.head.cell 0;have B:W.cell? ⟨h,1,none⟩=some (V Z r.1.2):=j.head.cell 1;have M:W.cell? ⟨h+1,0,none⟩=some (Y r.2.1):=j.tail.head.cell 0;have N:W.cell? ⟨h+2,0,none⟩=some (V Z r.2.2.1):=j.tail.tail.head.cell 0;have T:W.cell? ⟨h+3,0,none⟩=some (V Z r.2.2.2):=j.tail.tail.tail.head.cell 0;have C:tmps[6]?.getD undef=OB (some ⟨h,0,none⟩):=by simpa using t6
 have D:tmps[7]?.getD undef=OB (some ⟨h+1,0,none⟩):=by simpa using t7
 have G:tmps[8]?.getD undef=OB (some ⟨h+2,0,none⟩):=by simpa using t8
 have I:tmps[9]?.getD undef=OB (some ⟨h+3,0,none⟩):=by simpa using t9
 unfold kF;simp[results,Tryz.results289,C,D,G,I,asAddr,K,B,M,N,T,go_sem]
theorem GP (n:Int):Ob.wrap n=(n+128) % 256 - 128:=by
 simp[IntKind.wrap,IntKind.bits,IntKind.signed]
 split<;>omega
theorem rs (s:List UInt8)(n:Nat)(B:U s=n)(h:∀c∈s,c=48\/c=49):cz s<2 ^ n:=by
 have j:=tE s h n
 rwa [ON (by omega)] at j
theorem Jk {w B:World}(s:ByteArray)(j:Below ((((w.alloc (J #[V Z 0,V Z 0] 189)).alloc (J #[Y false] 4)).alloc (J #[V Z 0] 3)).alloc (J #[V Z 0] 26)).heap.size ((((w.alloc (J #[V Z 0,V Z 0] 189)).alloc (J #[Y false] 4)).alloc (J #[V Z 0] 3)).alloc (J #[V Z 0] 26)) B):
  ay w ((B.heap.size,9,#[OQ s])::fh w.heap.size ((0,0),false,0,0)) [] (B.alloc (J #[OQ s] 9))/\w.heap.size+4<=B.heap.size:=by
 refine⟨⟨?_,aa.cons (ab.new _ _ _) (aa.alloc ?_ _),aF _⟩,by have:=j.size;simp at this;omega⟩
 ·exact((((((Below.refl _ _).alloc (OO _) _).alloc (by simp) _).alloc (by simp;omega) _).alloc (by simp;omega) _).trans (j.mono (by simp;omega))).alloc (by have:=j.size;simp at this;omega) _
 ·refine aa.below ?_ j
  unfold fh;refine aa.cons ?_ (aa.cons ?_ (aa.cons ?_ (aa.cons ?_ (ai _))))
  all_goals (repeat (first|(refine aE (ab.new _ _ _) ?_;simp[OK];done)|refine ab.alloc ?_ _))
theorem fe {w W:World}{K:(Int×Int)×Bool×Int×Int}(r:(Int×Int)×Bool×Int×Int)(B:ay w (fh w.heap.size K) [] W):aa (fh w.heap.size r) (((((W.setCell ⟨w.heap.size,0,none⟩ (V Z r.1.1)).setCell ⟨w.heap.size,1,none⟩ (V Z r.1.2)).setCell ⟨w.heap.size+1,0,none⟩ (Y r.2.1)).setCell ⟨w.heap.size+2,0,none⟩ (V Z r.2.2.1)).setCell ⟨w.heap.size+3,0,none⟩ (V Z r.2.2.2))/\
  Below w.heap.size w (((((W.setCell ⟨w.heap.size,0,none⟩ (V Z r.1.1)).setCell ⟨w.heap.size,1,none⟩ (V Z r.1.2)).setCell ⟨w.heap.size+1,0,none⟩ (Y r.2.1)).setCell ⟨w.heap.size+2,0,none⟩ (V Z r.2.2.1)).setCell ⟨w.heap.size+3,0,none⟩ (V Z r.2.2.2)):=by
 unfold fh at B⊢;have j:=B.2.1;have C:=j.head;have D:=j.tail.head;have G:=j.tail.tail.head;have I:=j.tail.tail.tail.head;dsimp only at C D G I;refine⟨aa.cons ?_ (aa.cons ?_ (aa.cons ?_ (aa.cons ?_ (ai _)))),?_⟩
 ·exact((((C.set_ 0 (V Z r.1.1)).set_ 1 (V Z r.1.2)).far (by simp) _).far (by simp) _).far (by simp) _
 ·exact(((((D.far (p:=⟨w.heap.size,0,none⟩) (by simp) (V Z r.1.1)).far (p:=⟨w.heap.size,1,none⟩) (by simp) (V Z r.1.2)).set_ 0 (Y r.2.1)).far (by simp) _).far (by simp) _)
 ·exact(((((G.far (p:=⟨w.heap.size,0,none⟩) (by simp) (V Z r.1.1)).far (p:=⟨w.heap.size,1,none⟩) (by simp) (V Z r.1.2)).far (p:=⟨w.heap.size+1,0,none⟩) (by simp) (Y r.2.1)).set_ 0 (V Z r.2.2.1)).far (by simp) _)
 ·exact(((((I.far (p:=⟨w.heap.size,0,none⟩) (by simp) (V Z r.1.1)).far (p:=⟨w.heap.size,1,none⟩) (by simp) (V Z r.1.2)).far (p:=⟨w.heap.size+1,0,none⟩) (by simp) (Y r.2.1)).far (p:=⟨w.heap.size+2,0,none⟩) (by simp) (V Z r.2.2.1)).set_ 0 (V Z r.2.2.2))
 ·exact((((B.1.setCell (by simp) _).setCell (by simp) _).setCell (by simp) _).setCell (by simp) _).setCell (by simp) _
theorem GW (c:UInt8):(c==49)=(((c.toNat:Nat):Int)==49):=by
 rw[Bool.eq_iff_iff,beq_iff_eq,beq_iff_eq];constructor
 ·rintro rfl;rfl
 ·intro h;exact UInt8.toNat_inj.1 (by have:c.toNat=49:=(by omega);rw[this];rfl)
theorem GB (first:Bool):(aL first).all (λx=>decide (0<=x.1.2)&&decide (x.1.2<=127))=true:=by cases first<;>kernel_rfl
theorem yy {first:Bool}{x:(Int×Int)×List UInt8}(h:x∈aL first):0<=x.1.2/\x.1.2<=127:=by
 have j:=List.all_eq_true.1 (GB first) x h
 simpa using j
theorem xa {w W:World}{g j b:Nat}{s:List UInt8}{first more:Bool}{q1 D:Int}(h:ay w ((g,189,#[V Z q1,V Z D])::i5 w.heap.size j b first more s) [] W)(G:b<j)(I:w.heap.size+4<=b):ay w (i5 w.heap.size j b first true s) [] (W.setCell ⟨j,0,none⟩ (Y true)):=by
 have B:=h.2.1.tail;unfold i5 at B⊢;refine⟨h.1.setCell (by show w.heap.size<=j;omega) _,aa.cons (B.head.far (by show j+1≠j;omega) _) (aa.cons (B.tail.head.set_ 0 _) (aa.far B.tail.tail ?_ _)),aF _⟩;intro q C;unfold fh at C;simp only[OZ,OV,or_false] at C;rcases C with rfl|rfl|rfl|rfl|rfl<;>simp<;>omega
theorem AY {w W:World}{r:(Int×Int)×Bool×Int×Int}{u:Value}(h:ay w (fh w.heap.size r) [] W){g:Nat}(i:Nat)(B:w.heap.size+4<=g):ay w (fh w.heap.size r) [] (W.setCell ⟨g,i,none⟩ u):=by
 refine⟨h.1.setCell (by show w.heap.size<=g;omega) _,aa.far h.2.1 ?_ _,aF _⟩;intro q j;unfold fh at j;simp only[OZ,OV,or_false] at j;rcases j with rfl|rfl|rfl|rfl<;>simp<;>omega
theorem qi {h:Nat}{W:World}(r:(Int×Int)×Bool×Int×Int){D:Nat}{o:Obj}(B:h+4<=D)(j:W.heap[D]? =some o):(((((W.setCell ⟨h,0,none⟩ (V Z r.1.1)).setCell ⟨h,1,none⟩ (V Z r.1.2)).setCell ⟨h+1,0,none⟩ (Y r.2.1)).setCell ⟨h+2,0,none⟩ (V Z r.2.2.1)).setCell ⟨h+3,0,none⟩ (V Z r.2.2.2)).heap[D]? =some o:=by
 rw[Below.heap_setCell _ _ _ D (by show D≠h+3;omega),Below.heap_setCell _ _ _ D (by show D≠h+2;omega),Below.heap_setCell _ _ _ D (by show D≠h+1;omega),Below.heap_setCell _ _ _ D (by show D≠h;omega),Below.heap_setCell _ _ _ D (by show D≠h;omega)];exact j
set_option maxRecDepth 100000 in
set_option maxHeartbeats 40000000 in
theorem DS (A:Option Addr)(n c:Nat)(l:List UInt8)(i:Int)(first:Bool)(w:World)(hA:Sl w A (l.map ag))(hn:U l=n)(hsz:n<=2 ^ 47)(hT:Ts w):
  Calls Oc 289 #[.slice A n c,V Z i,Y first] w λe w'=>e=.returned (kF (aS l i first))/\Below w.heap.size w w':=by
 obtain⟨r,hr⟩:∃r,aS l i first=r:=⟨_,rfl⟩;rw[hr];unfold aS at hr;rw[hn] at hr;have HA:=O hA;have HN:=O hn;have HT:=O hT;clear hA hn hT
 by_cases KI:i<0
 ·rw[if_pos KI] at hr
  subst hr;refine(callsIn_wide (n:=5)).1 ?_;refine callsIn_of_wp_marks OU rfl trivial ?_ rfl;simp only[OT,OH,OJ,OL,OC,OS,Array.replicate_succ,Array.replicate_zero,OG,OF,OM,OI];refine wpIn_wide.2 ?_;go_wp2_with fail
  simp only[OR,OC];refine iy (v:=kF ((0,0),false,0,3)) ?_ ⟨rfl,?_⟩
  ·refine fd w.heap.size ((0,0),false,0,3) _ _ ?_ rfl rfl rfl rfl
   unfold fh;refine aa.cons ?_ (aa.cons ?_ (aa.cons ?_ (aa.cons ?_ (ai _))))
   all_goals (repeat (first|(refine aE (ab.new _ _ _) ?_;simp[OK];done)|refine ab.alloc ?_ _))
  ·exact((((Below.refl _ _).alloc (OO _) _).alloc (by simp) _).alloc (by simp;omega) _).alloc (by simp;omega) _
 rw[if_neg KI] at hr
 by_cases KJ:8*(n:Int)<i
 ·rw[if_pos KJ] at hr
  subst hr;refine(callsIn_wide (n:=5)).1 ?_;refine callsIn_of_wp_marks OU rfl trivial ?_ rfl;simp only[OT,OH,OJ,OL,OC,OS,Array.replicate_succ,Array.replicate_zero,OG,OF,OM,OI];refine wpIn_wide.2 ?_;go_wp2_with (go_at_call 84;refine(di A n c _ hsz).mono ?_;rintro e w' ⟨rfl,rfl⟩)
  simp only[OR,OC];refine iy (v:=kF ((0,0),false,0,5)) ?_ ⟨rfl,?_⟩
  ·refine fd w.heap.size ((0,0),false,0,5) _ _ ?_ rfl rfl rfl rfl
   unfold fh;refine aa.cons ?_ (aa.cons ?_ (aa.cons ?_ (aa.cons ?_ (ai _))))
   all_goals (repeat (first|(refine aE (ab.new _ _ _) ?_;simp[OK];done)|refine ab.alloc ?_ _))
  ·exact((((Below.refl _ _).alloc (OO _) _).alloc (by simp) _).alloc (by simp;omega) _).alloc (by simp;omega) _
 rw[if_neg KJ] at hr;obtain⟨k,rfl⟩:∃k:Nat,i=(k:Int):=⟨i.toNat,by omega⟩;rw[Int.toNat_natCast] at hr;dsimp only at hr;have hk:k<=8*n:=by omega
 have KE:=O (λW h=>BK A n c l k W h HN.out hsz hk);have KM:=l7 l k (min 20 (8*n - k));have Kt:(aI l k (min 20 (8*n - k))).length<=20:=by rw[bo];omega
 generalize aI l k (min 20 (8*n - k))=s at*;have Ku:=O KM;clear KM;have SM:=O (λW=>lu s fi W);refine(callsIn_wide (n:=5)).1 ?_;refine callsIn_of_wp_marks OU rfl trivial ?_ rfl;simp only[OT,OH,OJ,OL,OC,OS,Array.replicate_succ,Array.replicate_zero,OG,OF,OM,OI];refine wpIn_wide.2 ?_;go_wp2_with (first|(go_at_call 84;refine(di A n c _ hsz).mono ?_;rintro e w' ⟨rfl,rfl⟩)|(go_at_call 293;refine(KE.out _ (HA.out.below (((((Below.refl _ _).alloc (OO _) _).alloc (by simp) _).alloc (by simp;omega) _).alloc (by simp;omega) _))).mono ?_;rintro e w1 ⟨rfl,KF⟩;have KO:=O KF;clear KF)|fail)
 obtain⟨kA,KH⟩:=Jk (bs s) KO.out;have rG:=O kA;have K:=O KH;clear kA KH;obtain⟨b,hb⟩:∃b,w1.heap.size=b:=⟨_,rfl⟩;rw[hb] at rG K;rw[hb];obtain⟨w2,KC⟩:∃w2,w1.alloc (J #[OQ (bs s)] 9)=w2:=⟨_,rfl⟩;rw[KC] at rG;rw[KC];clear hb KC;refine(SM.out _).mono ?_;rintro e w3 ⟨rfl,KG⟩;have gj:=O (aQ rG.out KG);clear KG;have j:=gj.out.2.1;unfold fh at j;have c0:=j.head.cell 0;have c1:=j.tail.head.cell 0;have C:=j.tail.head.cell 1;have c2:=j.tail.tail.head.cell 0;have c3:=j.tail.tail.tail.head.cell 0;have c4:=j.tail.tail.tail.tail.head.cell 0;have f1:=j.tail.head.frozen 0;have G:=j.tail.head.frozen 1;have f2:=j.tail.tail.head.frozen 0;have f3:=j.tail.tail.tail.head.frozen 0;have f4:=j.tail.tail.tail.tail.head.frozen 0;dsimp only at c0 c1 C c2 c3 c4 f1 G f2 f3 f4;clear j;simp only[OR,OC]
 cases he:bJ s fi with
 |true=>
  rw[he,if_pos rfl] at hr;clear he
  by_cases KN:U s<20
  ·rw[if_pos KN] at hr
   subst hr;go_wp2_with fail
   obtain⟨q1,q2⟩:=fe ((0,0),false,0,5) (aw gj.out);exact iy (v:=kF ((0,0),false,0,5)) (fd w.heap.size ((0,0),false,0,5) _ _ q1 rfl rfl rfl rfl) ⟨rfl,q2⟩
  ·rw[if_neg KN] at hr
   have KX:U s=20:=(by omega);have KQ:cz (s.drop 12)<256:=rs (s.drop 12) 8 (by simp;omega) (λc N=>Ku.out c (OE N));have Kv:s.take 20=s:=ON (by omega);have NA:=O (λW=>pd ((s.take 20).drop 12) (λc N=>Ku.out c (by rw[Kv] at N;exact OE N)) (by simp;omega) (by simp;omega) W);have NB:=O (λW=>pd ((s.take 12).drop 6) (λc N=>Ku.out c (List.mem_of_mem_take (OE N))) (by simp;omega) (by simp;omega) W);obtain⟨na,KA⟩:∃na,cz (s.drop 12)=na:=⟨_,rfl⟩;rw[KA] at hr KQ;have NA:=O (λW=>by have h:=NA.out W;rw[show cz ((s.take 20).drop 12)=na by rw[Kv,KA]] at h;exact h);clear KA Kv;generalize cz ((s.take 12).drop 6)=nb at hr NB;have KT:Ob.wrap (na:Int)=i8 na:=(by rw[GP];unfold i8;split<;>omega);have KB: -128<=i8 na/\i8 na<=127:=(by unfold i8;split<;>omega);obtain⟨v,hv⟩:∃v,i8 na=v:=⟨_,rfl⟩;rw[hv] at hr KT KB;obtain⟨KB,KY⟩:=KB;clear hv
   cases q1:(v==0) with
   |true=>
    rw[q1,Bool.true_or,if_pos rfl] at hr;subst hr;go_wp2_with (go_at_call 295;refine(NA.out _).mono ?_;rintro e w4 ⟨rfl,eE⟩;have dv:=O (aQ gj.out eE);clear eE;clear c0 c1 C c2 c3 c4 f1 G f2 f3 f4;have j:=dv.out.2.1;unfold fh at j;have c0:=j.head.cell 0;have c1:=j.tail.head.cell 0;have C:=j.tail.head.cell 1;have c2:=j.tail.tail.head.cell 0;have c3:=j.tail.tail.tail.head.cell 0;have c4:=j.tail.tail.tail.tail.head.cell 0;have f1:=j.tail.head.frozen 0;have G:=j.tail.head.frozen 1;have f2:=j.tail.tail.head.frozen 0;have f3:=j.tail.tail.tail.head.frozen 0;have f4:=j.tail.tail.tail.tail.head.frozen 0;dsimp only at c0 c1 C c2 c3 c4 f1 G f2 f3 f4;clear j)
    obtain⟨q1,q2⟩:=fe ((0,0),false,0,10) (aw dv.out);exact iy (v:=kF ((0,0),false,0,10)) (fd w.heap.size ((0,0),false,0,10) _ _ q1 rfl rfl rfl rfl) ⟨rfl,q2⟩
   |false=>
    cases q2:(v== -128) with
    |true=>
     rw[q1,q2,OW,if_pos rfl] at hr;subst hr;go_wp2_with (go_at_call 295;refine(NA.out _).mono ?_;rintro e w4 ⟨rfl,eE⟩;have dv:=O (aQ gj.out eE);clear eE;clear c0 c1 C c2 c3 c4 f1 G f2 f3 f4;have j:=dv.out.2.1;unfold fh at j;have c0:=j.head.cell 0;have c1:=j.tail.head.cell 0;have C:=j.tail.head.cell 1;have c2:=j.tail.tail.head.cell 0;have c3:=j.tail.tail.tail.head.cell 0;have c4:=j.tail.tail.tail.tail.head.cell 0;have f1:=j.tail.head.frozen 0;have G:=j.tail.head.frozen 1;have f2:=j.tail.tail.head.frozen 0;have f3:=j.tail.tail.tail.head.frozen 0;have f4:=j.tail.tail.tail.tail.head.frozen 0;dsimp only at c0 c1 C c2 c3 c4 f1 G f2 f3 f4;clear j)
     obtain⟨q1,q2⟩:=fe ((0,0),false,0,10) (aw dv.out);exact iy (v:=kF ((0,0),false,0,10)) (fd w.heap.size ((0,0),false,0,10) _ _ q1 rfl rfl rfl rfl) ⟨rfl,q2⟩
    |false=>
     rw[q1,q2,OW,if_neg (by decide)] at hr;subst hr;have KD:=O trivial;go_wp2_with (first|(clear KD;go_at_call 295;refine(NA.out _).mono ?_;rintro e w4 ⟨rfl,eE⟩;have dv:=O (aQ gj.out eE);clear eE;clear c0 c1 C c2 c3 c4 f1 G f2 f3 f4;have j:=dv.out.2.1;unfold fh at j;have c0:=j.head.cell 0;have c1:=j.tail.head.cell 0;have C:=j.tail.head.cell 1;have c2:=j.tail.tail.head.cell 0;have c3:=j.tail.tail.tail.head.cell 0;have c4:=j.tail.tail.tail.tail.head.cell 0;have f1:=j.tail.head.frozen 0;have G:=j.tail.head.frozen 1;have f2:=j.tail.tail.head.frozen 0;have f3:=j.tail.tail.tail.head.frozen 0;have f4:=j.tail.tail.tail.tail.head.frozen 0;dsimp only at c0 c1 C c2 c3 c4 f1 G f2 f3 f4;clear j)|(go_at_call 295;refine(NB.out _).mono ?_;rintro e w5 ⟨rfl,B⟩;have av:=O (aQ dv.out B);clear B;clear c0 c1 C c2 c3 c4 f1 G f2 f3 f4;have j:=av.out.2.1;unfold fh at j;have c0:=j.head.cell 0;have c1:=j.tail.head.cell 0;have C:=j.tail.head.cell 1;have c2:=j.tail.tail.head.cell 0;have c3:=j.tail.tail.tail.head.cell 0;have c4:=j.tail.tail.tail.tail.head.cell 0;have f1:=j.tail.head.frozen 0;have G:=j.tail.head.frozen 1;have f2:=j.tail.tail.head.frozen 0;have f3:=j.tail.tail.tail.head.frozen 0;have f4:=j.tail.tail.tail.tail.head.frozen 0;dsimp only at c0 c1 C c2 c3 c4 f1 G f2 f3 f4;clear j))
     obtain⟨q1,q2⟩:=fe (((nb:Nat),v),false,20,0) (aw av.out);exact iy (v:=kF (((nb:Nat),v),false,20,0)) (fd w.heap.size (((nb:Nat),v),false,20,0) _ _ q1 rfl rfl rfl rfl) ⟨rfl,q2⟩
 |false=>
  rw[he,if_neg (by decide)] at hr
  cases first with
  |false=>
   cases hp:bz.isPrefixOf s with
   |true=>
    rw[hp,if_pos (show (!false&&true)=true by decide)] at hr;subst hr;have K9:OX (bs s).data.toList (bs bz).data.toList=true:=(by rw[eH,eH];exact hp);have HP:=O (λW=>OP (bs s) (bs bz) W);rw[K9] at HP;go_wp2_with (go_at_call 187;refine(HP.out _).mono ?_;rintro e w4 ⟨rfl,rfl⟩)
    obtain⟨q1,q2⟩:=fe ((0,0),true,2,0) (aw gj.out);exact iy (v:=kF ((0,0),true,2,0)) (fd w.heap.size ((0,0),true,2,0) _ _ q1 rfl rfl rfl rfl) ⟨rfl,q2⟩
   |false=>
    rw[hp,if_neg (show ¬((!false&&false)=true) by decide)] at hr;have K9:OX (bs s).data.toList (bs bz).data.toList=false:=(by rw[eH,eH];exact hp);have HP:=O (λW=>OP (bs s) (bs bz) W);rw[K9] at HP;obtain⟨m0,KL⟩:∃m0,bJ s bz=m0:=⟨_,rfl⟩;have SE:=O (λW=>lu s bz W);rw[KL] at hr SE;rw[show (!false&&m0)=m0 by simp] at hr;have HR:=O hr;clear hr hp K9 KL he;go_wp2_with (first|(go_at_call 187;refine(HP.out _).mono ?_;rintro e w4 ⟨rfl,rfl⟩)|(go_at_call 294;refine(SE.out _).mono ?_;rintro e w4 ⟨rfl,eE⟩;have dv:=O (aQ gj.out eE);clear eE)|(go_at_call 245;refine(ng false _).mono ?_;rintro e w' ⟨rfl,rfl⟩))
    obtain⟨iP,kU⟩:ay w ((w4.heap.size+1,4,#[Y false])::(w4.heap.size,4,#[Y m0])::(b,9,#[OQ (bs s)])::fh w.heap.size ((0,0),false,0,0)) [] ((w4.alloc (J #[Y m0] 4)).alloc (J #[Y false] 4))/\b<w4.heap.size:=by
     refine⟨dQ (ap (dQ (ap dv.out _) (ab.new _ _ _)) _) (aE (ab.new _ _ _) (by simp)),dv.out.2.1.head.lt⟩
    obtain⟨g1,Hl⟩:∃g1,w4.heap.size=g1:=⟨_,rfl⟩;rw[Hl] at iP kU⊢;obtain⟨W,hW⟩:∃W,(w4.alloc (J #[Y m0] 4)).alloc (J #[Y false] 4)=W:=⟨_,rfl⟩;have K4:W.heap.size=g1+2:=(by rw[<-hW];simp;omega);rw[hW] at iP⊢;clear hW Hl;have dy:=O iP;have cE:=O K4;clear iP K4;refine(wpIn_wide (n:=5)).1 ?_
    refine Du (α:=(Int×Int)×List UInt8) (enc:=mi) (I:=cS w (λpre (more:Bool)=>∀T,bZ s (pre++T) m0=bZ s T more) (λ_ more=>i5 w.heap.size g1 b false more s) (λ_ _=>[])) (I2:=cS w (λpre (more:Bool)=>∀T,bZ s (pre++T) m0=bZ s T more) (λ_ more=>i5 w.heap.size g1 b false more s) (λ_ _=>[])) (S:= λxs=>xs=aL false) (Sp:= λpre=>pre<+:aL false)
     rfl (by decide) (gf:=270) (lb:= #[OB (some ⟨g1+1,0,none⟩)]) rfl trivial (enters_of Oa (by kernel_rfl) rfl)
     (pY 4 (by decide) (g1+1) false _ gP ?hIs) (λ_=>rfl)
     (λcd _ W=>m9 w (fh w.heap.size r) cd W)
     (λpre x g W=>cS w (λpre (more:Bool)=>(∀T,bZ s (pre++T) m0=bZ s T more)/\b<g) (λ_ more=>(g,189,#[V Z x.1.1,V Z x.1.2])::i5 w.heap.size g1 b false more s) (λ_ _=>[]) pre W)
     (bq dy.out.1.size _ _ _) (bq dy.out.1.size _ _ _) (λcd=>iu dy.out.1.size _ _) (λx g=>bq dy.out.1.size _ _ _) ?start ?round ?done ?stop
    case hIs=>
     rintro pre W' ⟨⟨_,_,N⟩⟩;exact⟨N.2.1.head,HT.out.below N.1⟩
    case start=>exact⟨⟨m0,λT=>rfl,dy.out⟩⟩
    case round=>
     apply Exists.intro;refine And.intro ?_ ?_
     ·rintro lp pre x W' ⟨⟨u,hu,N⟩⟩ cI
      have HU:=O hu;have HC:=O N;clear hu N cI;unfold mi;gi_wp2
      obtain⟨g0,jg⟩:∃g0,W'.heap.size=g0:=⟨_,rfl⟩;have Kx:=dQ (ap HC.out (J #[V Z x.1.1,V Z x.1.2] 189)) (aE (ab.new W' 189 #[V Z x.1.1,V Z x.1.2]) jg);rw[jg];exact⟨⟨g0,rfl,⟨u,⟨HU.out,jg▸HC.out.2.1.tail.tail.head.lt⟩,Kx⟩⟩,co (KeepsFrom.refl _ _) _,(bT.refl _ _).alloc _⟩
     ·rintro lp pre x g W' ⟨⟨more,⟨hu,KR⟩,N⟩⟩ cI
      obtain⟨⟨q1,q2⟩,cc⟩:=x;dsimp only at N;have hs:=N.2.1;unfold i5 at hs;have s0:=hs.tail.tail.tail.head.cell 0;dsimp only at s0;have bM:=O (λW=>lu s cc W);have HC:=O N;have HU:=O hu;have K3:=O cI;clear N hu cI hs
      cases e1:bJ s cc with
      |false=>
       have HM:=O (λT=>rq (p:=(q1,q2)) (T:=T) (more:=more) e1);rw[e1] at bM;clear e1;gi_wp2_with (refine⟨trivial,?_⟩;gi_at_call 294;refine(callsIn_wide.2 (bM.out _)).mono ?_;rintro e w5 ⟨rfl,B⟩;have M:=O B;clear B)
       refine⟨fW M.out,(bT.refl _ _).below M.out,⟨⟨more,λT=>?_,aQ (aw HC.out) M.out⟩⟩⟩;rw[OA,X,HU.out,HM.out]
      |true=>
       by_cases hl:U s<=U cc
       ·have HM:=O (λT=>nk (p:=(q1,q2)) (T:=T) (more:=more) e1 hl)
        rw[e1] at bM;have Ky:((U s:Nat):Int)<=((U cc:Nat):Int):=(by omega);clear e1 hl;gi_wp2_with (refine⟨trivial,?_⟩;gi_at_call 294;refine(callsIn_wide.2 (bM.out _)).mono ?_;rintro e w5 ⟨rfl,B⟩;have av:=O (aQ HC.out B);have M:=O B;clear B;have j:=av.out.2.1;unfold i5 at j;have s5:=j.tail.tail.tail.head.cell 0;have m5:=j.tail.tail.head.cell 0;have f5:=j.tail.tail.head.frozen 0;dsimp only at s5 m5 f5;clear j)
        refine⟨aq (fW M.out) _ _,((bT.refl _ _).below M.out).set _ (by rw[cE.out];show g1<_;omega) _,⟨⟨true,λT=>?_,?_⟩⟩⟩
        ·rw[OA,X,HU.out,HM.out]
        ·exact xa av.out kU K.out
       ·have HM:=O (λT=>pl (p:=(q1,q2)) (T:=T) (more:=more) e1 hl)
        rw[e1] at bM;have Ky:¬((U s:Nat):Int)<=((U cc:Nat):Int):=(by omega);clear e1;have Kz:U cc<(U s):=(by omega);have KK:((U cc:Nat):Int)<=20:=(by omega);have K6:=yy (x:=((q1,q2),cc)) (OY.mem (by simp) K3.out);dsimp only at K6;have KW:wrap64 (-q2)= -q2:=(by unfold wrap64;omega);have jg:¬w.heap.size=g:=(by have:=K.out;omega);have Hl:¬w.heap.size+1=g:=(by have:=K.out;omega);have KU:¬w.heap.size+2=g:=(by have:=K.out;omega);have KV:¬w.heap.size+3=g:=(by have:=K.out;omega);have K5:s.getD (U cc) 0=s[U cc]:=by simp[Kz]
        have aJ:=O (show r=((q1,if s[U cc]==49 then -q2 else q2),false,(U cc:Int)+1,0) by
         obtain⟨t,ht⟩:=K3.out;rw[<-HR.out,<-ht,OA,HU.out,X,HM.out,K5])
        have K8:(s[U cc]==49)=(((s[U cc].toNat:Nat):Int)==49):=GW _;rw[K8] at aJ;clear HM K5 hl Kt K8 K6
        cases e2:(((s[U cc].toNat:Nat):Int)==49) with
        |true=>
         rw[e2,if_pos rfl] at aJ;gi_wp2_with (refine⟨trivial,?_⟩;gi_at_call 294;refine(callsIn_wide.2 (bM.out _)).mono ?_;rintro e w5 ⟨rfl,B⟩;have av:=O (aQ HC.out B);have M:=O B;clear B;have j:=av.out.2.1;unfold i5 at j;have Ht:=j.head.cell 0;have Hu:=j.head.cell 1;have s5:=j.tail.tail.tail.head.cell 0;have JT:=j.head.frozen 1;unfold fh at j;have c1:=j.tail.tail.tail.tail.head.cell 0;have C:=j.tail.tail.tail.tail.head.cell 1;have c2:=j.tail.tail.tail.tail.tail.head.cell 0;have c3:=j.tail.tail.tail.tail.tail.tail.head.cell 0;have c4:=j.tail.tail.tail.tail.tail.tail.tail.head.cell 0;have f1:=j.tail.tail.tail.tail.head.frozen 0;have G:=j.tail.tail.tail.tail.head.frozen 1;have f2:=j.tail.tail.tail.tail.tail.head.frozen 0;have f3:=j.tail.tail.tail.tail.tail.tail.head.frozen 0;have f4:=j.tail.tail.tail.tail.tail.tail.tail.head.frozen 0;dsimp only at Ht Hu s5 JT c1 C c2 c3 c4 f1 G f2 f3 f4;clear j)
         have Kw:=AY (u:=V Z (-q2)) (aw (aw (aw (aw av.out)))) (g:=g) 1 (by have:=K.out;omega);obtain⟨k1,k2⟩:=fe ((q1, -q2),false,(U cc:Int)+1,0) Kw;rw[aJ.out];exact⟨aq (aq (aq (aq (aq (aq (fW M.out) _ _) _ _) _ _) _ _) _ _) _ _,rfl,k2,k1,aF _⟩
        |false=>
         rw[e2,if_neg (by decide)] at aJ;gi_wp2_with (refine⟨trivial,?_⟩;gi_at_call 294;refine(callsIn_wide.2 (bM.out _)).mono ?_;rintro e w5 ⟨rfl,B⟩;have av:=O (aQ HC.out B);have M:=O B;clear B;have j:=av.out.2.1;unfold i5 at j;have Ht:=j.head.cell 0;have Hu:=j.head.cell 1;have s5:=j.tail.tail.tail.head.cell 0;have JT:=j.head.frozen 1;unfold fh at j;have c1:=j.tail.tail.tail.tail.head.cell 0;have C:=j.tail.tail.tail.tail.head.cell 1;have c2:=j.tail.tail.tail.tail.tail.head.cell 0;have c3:=j.tail.tail.tail.tail.tail.tail.head.cell 0;have c4:=j.tail.tail.tail.tail.tail.tail.tail.head.cell 0;have f1:=j.tail.tail.tail.tail.head.frozen 0;have G:=j.tail.tail.tail.tail.head.frozen 1;have f2:=j.tail.tail.tail.tail.tail.head.frozen 0;have f3:=j.tail.tail.tail.tail.tail.tail.head.frozen 0;have f4:=j.tail.tail.tail.tail.tail.tail.tail.head.frozen 0;dsimp only at Ht Hu s5 JT c1 C c2 c3 c4 f1 G f2 f3 f4;clear j)
         obtain⟨k1,k2⟩:=fe ((q1,q2),false,(U cc:Int)+1,0) (aw (aw (aw (aw av.out))));rw[aJ.out];exact⟨aq (aq (aq (aq (aq (fW M.out) _ _) _ _) _ _) _ _) _ _,rfl,k2,k1,aF _⟩
    case done=>
     rintro D xs W2 hD rfl ⟨⟨more,hu,N⟩⟩ hK
     cases more with
     |true=>
      have fJ:r=((0,0),false,0,5):=by
       have h:=hu [];rw[OD] at h;rw[<-HR.out,h];rfl
      have HC:=O N;have HK:=O hK;have aJ:=O fJ;have j:=N.2.1;clear N hK fJ hu;unfold i5 fh at j;have m5:=j.tail.head.cell 0;have c1:=j.tail.tail.tail.head.cell 0;have C:=j.tail.tail.tail.head.cell 1;have c2:=j.tail.tail.tail.tail.head.cell 0;have c3:=j.tail.tail.tail.tail.tail.head.cell 0;have c4:=j.tail.tail.tail.tail.tail.tail.head.cell 0;have f1:=j.tail.tail.tail.head.frozen 0;have G:=j.tail.tail.tail.head.frozen 1;have f2:=j.tail.tail.tail.tail.head.frozen 0;have f3:=j.tail.tail.tail.tail.tail.head.frozen 0;have f4:=j.tail.tail.tail.tail.tail.tail.head.frozen 0;dsimp only at m5 c1 C c2 c3 c4 f1 G f2 f3 f4;clear j;gi_wp2_with fail
      go_wp2_with fail
      obtain⟨k1,k2⟩:=fe ((0,0),false,0,5) (aw (aw (aw HC.out)));have dO:=qi (h:=w.heap.size) ((0,0),false,0,5) (by rw[cE.out] at hD;have:=K.out;omega) HK.out;rw[aJ.out];exact eo dO (v:=kF ((0,0),false,0,5)) (fd w.heap.size ((0,0),false,0,5) _ _ (cL (o':= .deferred none) k1 dO rfl) rfl rfl rfl rfl) ⟨rfl,cu k2 (by rw[cE.out] at hD;have:=K.out;omega)⟩
     |false=>
      have fJ:r=((0,0),false,0,7):=by
       have h:=hu [];rw[OD] at h;rw[<-HR.out,h];rfl
      have HC:=O N;have HK:=O hK;have aJ:=O fJ;have j:=N.2.1;clear N hK fJ hu;unfold i5 fh at j;have m5:=j.tail.head.cell 0;have c1:=j.tail.tail.tail.head.cell 0;have C:=j.tail.tail.tail.head.cell 1;have c2:=j.tail.tail.tail.tail.head.cell 0;have c3:=j.tail.tail.tail.tail.tail.head.cell 0;have c4:=j.tail.tail.tail.tail.tail.tail.head.cell 0;have f1:=j.tail.tail.tail.head.frozen 0;have G:=j.tail.tail.tail.head.frozen 1;have f2:=j.tail.tail.tail.tail.head.frozen 0;have f3:=j.tail.tail.tail.tail.tail.head.frozen 0;have f4:=j.tail.tail.tail.tail.tail.tail.head.frozen 0;dsimp only at m5 c1 C c2 c3 c4 f1 G f2 f3 f4;clear j;gi_wp2_with fail
      go_wp2_with fail
      obtain⟨k1,k2⟩:=fe ((0,0),false,0,7) (aw (aw (aw HC.out)));have dO:=qi (h:=w.heap.size) ((0,0),false,0,7) (by rw[cE.out] at hD;have:=K.out;omega) HK.out;rw[aJ.out];exact eo dO (v:=kF ((0,0),false,0,7)) (fd w.heap.size ((0,0),false,0,7) _ _ (cL (o':= .deferred none) k1 dO rfl) rfl rfl rfl rfl) ⟨rfl,cu k2 (by rw[cE.out] at hD;have:=K.out;omega)⟩
    case stop=>
     rintro D cd pre W2 hD cI ⟨rfl,jY,kA,_⟩ hK;have K0:=O jY;have rG:=O kA;have HK:=O hK;clear jY kA hK cI;gi_wp2_with fail
     exact eo HK.out (v:=kF r) (fd w.heap.size r _ _ (cL (o':= .deferred none) rG.out HK.out rfl) rfl rfl rfl rfl) ⟨rfl,cu K0.out (by rw[cE.out] at hD;have:=K.out;omega)⟩
  |true=>
   rw[if_neg (show ¬((!true&&bz.isPrefixOf s)=true) by simp),show (!true&&bJ s bz)=false from rfl] at hr;have HR:=O hr;clear hr he;go_wp2_with (first|(go_at_call 245;refine(ng true _).mono ?_;rintro e w' ⟨rfl,rfl⟩)|fail)
   obtain⟨iP,kU⟩:ay w ((w3.heap.size+1,4,#[Y true])::(w3.heap.size,4,#[Y false])::(b,9,#[OQ (bs s)])::fh w.heap.size ((0,0),false,0,0)) [] ((w3.alloc (J #[Y false] 4)).alloc (J #[Y true] 4))/\b<w3.heap.size:=by
    refine⟨dQ (ap (dQ (ap gj.out _) (ab.new _ _ _)) _) (aE (ab.new _ _ _) (by simp)),gj.out.2.1.head.lt⟩
   obtain⟨g1,Hl⟩:∃g1,w3.heap.size=g1:=⟨_,rfl⟩;rw[Hl] at iP kU⊢;obtain⟨W,hW⟩:∃W,(w3.alloc (J #[Y false] 4)).alloc (J #[Y true] 4)=W:=⟨_,rfl⟩;have K4:W.heap.size=g1+2:=(by rw[<-hW];simp;omega);rw[hW] at iP⊢;clear hW Hl;have dy:=O iP;have cE:=O K4;clear iP K4;refine(wpIn_wide (n:=5)).1 ?_
   refine Du (α:=(Int×Int)×List UInt8) (enc:=mi) (I:=cS w (λpre (more:Bool)=>∀T,bZ s (pre++T) false=bZ s T more) (λ_ more=>i5 w.heap.size g1 b true more s) (λ_ _=>[])) (I2:=cS w (λpre (more:Bool)=>∀T,bZ s (pre++T) false=bZ s T more) (λ_ more=>i5 w.heap.size g1 b true more s) (λ_ _=>[])) (S:= λxs=>xs=aL true) (Sp:= λpre=>pre<+:aL true)
    rfl (by decide) (gf:=270) (lb:= #[OB (some ⟨g1+1,0,none⟩)]) rfl trivial (enters_of Oa (by kernel_rfl) rfl)
    (pY 4 (by decide) (g1+1) true _ gP ?hIs) (λ_=>rfl)
    (λcd _ W=>m9 w (fh w.heap.size r) cd W)
    (λpre x g W=>cS w (λpre (more:Bool)=>(∀T,bZ s (pre++T) false=bZ s T more)/\b<g) (λ_ more=>(g,189,#[V Z x.1.1,V Z x.1.2])::i5 w.heap.size g1 b true more s) (λ_ _=>[]) pre W)
    (bq dy.out.1.size _ _ _) (bq dy.out.1.size _ _ _) (λcd=>iu dy.out.1.size _ _) (λx g=>bq dy.out.1.size _ _ _) ?start ?round ?done ?stop
   case hIs=>
    rintro pre W' ⟨⟨_,_,N⟩⟩;exact⟨N.2.1.head,HT.out.below N.1⟩
   case start=>exact⟨⟨false,λT=>rfl,dy.out⟩⟩
   case round=>
    apply Exists.intro;refine And.intro ?_ ?_
    ·rintro lp pre x W' ⟨⟨u,hu,N⟩⟩ cI
     have HU:=O hu;have HC:=O N;clear hu N cI;unfold mi;gi_wp2
     obtain⟨g0,jg⟩:∃g0,W'.heap.size=g0:=⟨_,rfl⟩;have Kx:=dQ (ap HC.out (J #[V Z x.1.1,V Z x.1.2] 189)) (aE (ab.new W' 189 #[V Z x.1.1,V Z x.1.2]) jg);rw[jg];exact⟨⟨g0,rfl,⟨u,⟨HU.out,jg▸HC.out.2.1.tail.tail.head.lt⟩,Kx⟩⟩,co (KeepsFrom.refl _ _) _,(bT.refl _ _).alloc _⟩
    ·rintro lp pre x g W' ⟨⟨more,⟨hu,KR⟩,N⟩⟩ cI
     obtain⟨⟨q1,q2⟩,cc⟩:=x;dsimp only at N;have hs:=N.2.1;unfold i5 at hs;have s0:=hs.tail.tail.tail.head.cell 0;dsimp only at s0;have bM:=O (λW=>lu s cc W);have HC:=O N;have HU:=O hu;have K3:=O cI;clear N hu cI hs
     cases e1:bJ s cc with
     |false=>
      have HM:=O (λT=>rq (p:=(q1,q2)) (T:=T) (more:=more) e1);rw[e1] at bM;clear e1;gi_wp2_with (refine⟨trivial,?_⟩;gi_at_call 294;refine(callsIn_wide.2 (bM.out _)).mono ?_;rintro e w5 ⟨rfl,B⟩;have M:=O B;clear B)
      refine⟨fW M.out,(bT.refl _ _).below M.out,⟨⟨more,λT=>?_,aQ (aw HC.out) M.out⟩⟩⟩;rw[OA,X,HU.out,HM.out]
     |true=>
      by_cases hl:U s<=U cc
      ·have HM:=O (λT=>nk (p:=(q1,q2)) (T:=T) (more:=more) e1 hl)
       rw[e1] at bM;have Ky:((U s:Nat):Int)<=((U cc:Nat):Int):=(by omega);clear e1 hl;gi_wp2_with (refine⟨trivial,?_⟩;gi_at_call 294;refine(callsIn_wide.2 (bM.out _)).mono ?_;rintro e w5 ⟨rfl,B⟩;have av:=O (aQ HC.out B);have M:=O B;clear B;have j:=av.out.2.1;unfold i5 at j;have s5:=j.tail.tail.tail.head.cell 0;have m5:=j.tail.tail.head.cell 0;have f5:=j.tail.tail.head.frozen 0;dsimp only at s5 m5 f5;clear j)
       refine⟨aq (fW M.out) _ _,((bT.refl _ _).below M.out).set _ (by rw[cE.out];show g1<_;omega) _,⟨⟨true,λT=>?_,?_⟩⟩⟩
       ·rw[OA,X,HU.out,HM.out]
       ·exact xa av.out kU K.out
      ·have HM:=O (λT=>pl (p:=(q1,q2)) (T:=T) (more:=more) e1 hl)
       rw[e1] at bM;have Ky:¬((U s:Nat):Int)<=((U cc:Nat):Int):=(by omega);clear e1;have Kz:U cc<(U s):=(by omega);have KK:((U cc:Nat):Int)<=20:=(by omega);have K6:=yy (x:=((q1,q2),cc)) (OY.mem (by simp) K3.out);dsimp only at K6;have KW:wrap64 (-q2)= -q2:=(by unfold wrap64;omega);have jg:¬w.heap.size=g:=(by have:=K.out;omega);have Hl:¬w.heap.size+1=g:=(by have:=K.out;omega);have KU:¬w.heap.size+2=g:=(by have:=K.out;omega);have KV:¬w.heap.size+3=g:=(by have:=K.out;omega);have K5:s.getD (U cc) 0=s[U cc]:=by simp[Kz]
       have aJ:=O (show r=((q1,if s[U cc]==49 then -q2 else q2),false,(U cc:Int)+1,0) by
        obtain⟨t,ht⟩:=K3.out;rw[<-HR.out,<-ht,OA,HU.out,X,HM.out,K5])
       have K8:(s[U cc]==49)=(((s[U cc].toNat:Nat):Int)==49):=GW _;rw[K8] at aJ;clear HM K5 hl Kt K8 K6
       cases e2:(((s[U cc].toNat:Nat):Int)==49) with
       |true=>
        rw[e2,if_pos rfl] at aJ;gi_wp2_with (refine⟨trivial,?_⟩;gi_at_call 294;refine(callsIn_wide.2 (bM.out _)).mono ?_;rintro e w5 ⟨rfl,B⟩;have av:=O (aQ HC.out B);have M:=O B;clear B;have j:=av.out.2.1;unfold i5 at j;have Ht:=j.head.cell 0;have Hu:=j.head.cell 1;have s5:=j.tail.tail.tail.head.cell 0;have JT:=j.head.frozen 1;unfold fh at j;have c1:=j.tail.tail.tail.tail.head.cell 0;have C:=j.tail.tail.tail.tail.head.cell 1;have c2:=j.tail.tail.tail.tail.tail.head.cell 0;have c3:=j.tail.tail.tail.tail.tail.tail.head.cell 0;have c4:=j.tail.tail.tail.tail.tail.tail.tail.head.cell 0;have f1:=j.tail.tail.tail.tail.head.frozen 0;have G:=j.tail.tail.tail.tail.head.frozen 1;have f2:=j.tail.tail.tail.tail.tail.head.frozen 0;have f3:=j.tail.tail.tail.tail.tail.tail.head.frozen 0;have f4:=j.tail.tail.tail.tail.tail.tail.tail.head.frozen 0;dsimp only at Ht Hu s5 JT c1 C c2 c3 c4 f1 G f2 f3 f4;clear j)
        have Kw:=AY (u:=V Z (-q2)) (aw (aw (aw (aw av.out)))) (g:=g) 1 (by have:=K.out;omega);obtain⟨k1,k2⟩:=fe ((q1, -q2),false,(U cc:Int)+1,0) Kw;rw[aJ.out];exact⟨aq (aq (aq (aq (aq (aq (fW M.out) _ _) _ _) _ _) _ _) _ _) _ _,rfl,k2,k1,aF _⟩
       |false=>
        rw[e2,if_neg (by decide)] at aJ;gi_wp2_with (refine⟨trivial,?_⟩;gi_at_call 294;refine(callsIn_wide.2 (bM.out _)).mono ?_;rintro e w5 ⟨rfl,B⟩;have av:=O (aQ HC.out B);have M:=O B;clear B;have j:=av.out.2.1;unfold i5 at j;have Ht:=j.head.cell 0;have Hu:=j.head.cell 1;have s5:=j.tail.tail.tail.head.cell 0;have JT:=j.head.frozen 1;unfold fh at j;have c1:=j.tail.tail.tail.tail.head.cell 0;have C:=j.tail.tail.tail.tail.head.cell 1;have c2:=j.tail.tail.tail.tail.tail.head.cell 0;have c3:=j.tail.tail.tail.tail.tail.tail.head.cell 0;have c4:=j.tail.tail.tail.tail.tail.tail.tail.head.cell 0;have f1:=j.tail.tail.tail.tail.head.frozen 0;have G:=j.tail.tail.tail.tail.head.frozen 1;have f2:=j.tail.tail.tail.tail.tail.head.frozen 0;have f3:=j.tail.tail.tail.tail.tail.tail.head.frozen 0;have f4:=j.tail.tail.tail.tail.tail.tail.tail.head.frozen 0;dsimp only at Ht Hu s5 JT c1 C c2 c3 c4 f1 G f2 f3 f4;clear j)
        obtain⟨k1,k2⟩:=fe ((q1,q2),false,(U cc:Int)+1,0) (aw (aw (aw (aw av.out))));rw[aJ.out];exact⟨aq (aq (aq (aq (aq (fW M.out) _ _) _ _) _ _) _ _) _ _,rfl,k2,k1,aF _⟩
   case done=>
    rintro D xs W2 hD rfl ⟨⟨more,hu,N⟩⟩ hK
    cases more with
    |true=>
     have fJ:r=((0,0),false,0,5):=by
      have h:=hu [];rw[OD] at h;rw[<-HR.out,h];rfl
     have HC:=O N;have HK:=O hK;have aJ:=O fJ;have j:=N.2.1;clear N hK fJ hu;unfold i5 fh at j;have m5:=j.tail.head.cell 0;have c1:=j.tail.tail.tail.head.cell 0;have C:=j.tail.tail.tail.head.cell 1;have c2:=j.tail.tail.tail.tail.head.cell 0;have c3:=j.tail.tail.tail.tail.tail.head.cell 0;have c4:=j.tail.tail.tail.tail.tail.tail.head.cell 0;have f1:=j.tail.tail.tail.head.frozen 0;have G:=j.tail.tail.tail.head.frozen 1;have f2:=j.tail.tail.tail.tail.head.frozen 0;have f3:=j.tail.tail.tail.tail.tail.head.frozen 0;have f4:=j.tail.tail.tail.tail.tail.tail.head.frozen 0;dsimp only at m5 c1 C c2 c3 c4 f1 G f2 f3 f4;clear j;gi_wp2_with fail
     go_wp2_with fail
     obtain⟨k1,k2⟩:=fe ((0,0),false,0,5) (aw (aw (aw HC.out)));have dO:=qi (h:=w.heap.size) ((0,0),false,0,5) (by rw[cE.out] at hD;have:=K.out;omega) HK.out;rw[aJ.out];exact eo dO (v:=kF ((0,0),false,0,5)) (fd w.heap.size ((0,0),false,0,5) _ _ (cL (o':= .deferred none) k1 dO rfl) rfl rfl rfl rfl) ⟨rfl,cu k2 (by rw[cE.out] at hD;have:=K.out;omega)⟩
    |false=>
     have fJ:r=((0,0),false,0,7):=by
      have h:=hu [];rw[OD] at h;rw[<-HR.out,h];rfl
     have HC:=O N;have HK:=O hK;have aJ:=O fJ;have j:=N.2.1;clear N hK fJ hu;unfold i5 fh at j;have m5:=j.tail.head.cell 0;have c1:=j.tail.tail.tail.head.cell 0;have C:=j.tail.tail.tail.head.cell 1;have c2:=j.tail.tail.tail.tail.head.cell 0;have c3:=j.tail.tail.tail.tail.tail.head.cell 0;have c4:=j.tail.tail.tail.tail.tail.tail.head.cell 0;have f1:=j.tail.tail.tail.head.frozen 0;have G:=j.tail.tail.tail.head.frozen 1;have f2:=j.tail.tail.tail.tail.head.frozen 0;have f3:=j.tail.tail.tail.tail.tail.head.frozen 0;have f4:=j.tail.tail.tail.tail.tail.tail.head.frozen 0;dsimp only at m5 c1 C c2 c3 c4 f1 G f2 f3 f4;clear j;gi_wp2_with fail
     go_wp2_with fail
     obtain⟨k1,k2⟩:=fe ((0,0),false,0,7) (aw (aw (aw HC.out)));have dO:=qi (h:=w.heap.size) ((0,0),false,0,7) (by rw[cE.out] at hD;have:=K.out;omega) HK.out;rw[aJ.out];exact eo dO (v:=kF ((0,0),false,0,7)) (fd w.heap.size ((0,0),false,0,7) _ _ (cL (o':= .deferred none) k1 dO rfl) rfl rfl rfl rfl) ⟨rfl,cu k2 (by rw[cE.out] at hD;have:=K.out;omega)⟩
   case stop=>
    rintro D cd pre W2 hD cI ⟨rfl,jY,kA,_⟩ hK;have K0:=O jY;have rG:=O kA;have HK:=O hK;clear jY kA hK cI;gi_wp2_with fail
    exact eo HK.out (v:=kF r) (fd w.heap.size r _ _ (cL (o':= .deferred none) rG.out HK.out rfl) rfl rfl rfl rfl) ⟨rfl,cu K0.out (by rw[cE.out] at hD;have:=K.out;omega)⟩
end Go.Proofs.YthhijgcfbjcgiaaGreatDoor
