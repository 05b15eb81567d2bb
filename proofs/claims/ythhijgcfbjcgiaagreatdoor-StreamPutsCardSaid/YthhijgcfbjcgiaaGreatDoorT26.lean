/- Bld -/
import Derived.Test.YthhijgcfbjcgiaaGreatDoorT18
import Derived.Test.YthhijgcfbjcgiaaGreatDoorShelf
import Derived.Lib.AppendIntMem
namespace Go.Proofs.YthhijgcfbjcgiaaGreatDoor
open Go Go.RowKit
set_option maxHeartbeats 16000000
set_option maxRecDepth 100000
open Go.Lib renaming cell_of_heap→O,IsBuilder→Z,BuilderAt→OB,frozen_of_heap→OC,hid→OE
open Go.Value renaming pointer→U,int→OI,tuple→OJ
open Tryz renaming prog→V,underlying172→Y,underlying255→OD,ntmps197→OF,func197→OH
open Go.Ending renaming returned→X
open Option renaming map_eq_some_iff→J
open List renaming length→OA
open Nat renaming lt_or_ge→OG
open Go.Obj renaming cells→OK
theorem Fs (b:Nat)(w:World)(C:w.cell? ⟨b,0,none⟩=some (U (some ⟨b,0,none⟩))):
  Calls V 197 #[U (some ⟨b,0,none⟩)] w λe w'=>e=X (OJ #[])/\w'=w:=by
 obtain⟨j,B,_⟩:=J.1 (show (V.info? 174).map (·.size)=some 2 by kernel_rfl)
 go_enter OH,OF
 go_wp2_with fail
 rw[Lib.run_neq_ptr_same w _ Y B];go_wp2_with fail
 go_end0
 exact⟨rfl,rfl⟩
theorem DI (b:Nat)(w:World)(I:w.cell? ⟨b,0,none⟩=some (U none))(B:w.shape? b=some (174,2))(G:w.frozen? ⟨b,0,none⟩=false):
  Calls V 197 #[U (some ⟨b,0,none⟩)] w λe w'=>e=X (OJ #[])/\w'=w.setCell ⟨b,0,none⟩ (U (some ⟨b,0,none⟩)):=by
 obtain⟨j,D,C⟩:=J.1 (show (V.info? 174).map (·.size)=some 2 by kernel_rfl)
 go_enter OH,OF
 go_wp2
 rw[Lib.run_to_unsafe w ⟨b,0,none⟩ Y OD D (by rw[C];decide) B (Nat.zero_lt_succ 1)];simp only[Result.andThen];rw[Oper.upon_value];go_wp2
 rw[run_callFunc_extern Tryz.func234 (by kernel_rfl) (by kernel_rfl) (by kernel_rfl) (e:=Extern.AbiNoEscape.same) (by kernel_rfl)];rw[Lib.run_noEscape];simp only[Result.andThen];rw[Oper.upon_value];go_wp2
 rw[Lib.run_from_unsafe w ⟨b,0,none⟩ OD Y D B (by kernel_rfl)];simp only[Result.andThen];rw[Oper.upon_value];go_wp2
 go_end0
 exact⟨rfl,rfl⟩
theorem ue (B b:Nat)(bs:List Value)(w:World)(h:Z 174 5 B b bs w):
  Calls V 197 #[U (some ⟨b,0,none⟩)] w λe w'=>e=X (OJ #[])/\(OB 174 5 B b (U (some ⟨b,0,none⟩)) bs w'/\Below B w w'):=by
 rcases h with h|h
 ·refine(DI b w h.cell0 h.shape h.frozen0).mono ?_
  rintro e w' ⟨rfl,rfl⟩;exact⟨rfl,h.used _,(Below.refl B w).setCell (p:=⟨b,0,none⟩) h.1 _⟩
 ·refine(Fs b w h.cell0).mono ?_
  rintro e w' ⟨rfl,rfl⟩;exact⟨rfl,h,Below.refl B _⟩
def GX (B b:Nat) (bs:List Value) (w:World) (e:Ending) (w':World):Prop:=e=X .nilIface/\Z 174 5 B b bs w'/\Below B w w'
theorem kE (B b:Nat)(bs:List Value)(c:Int)(w:World)(h:Z 174 5 B b bs w)(bM:OA bs+1<=140737488355328)(cI:B<=w.heap.size):
  Calls V 152 #[U (some ⟨b,0,none⟩),OI .u8 c] w (GX B b (bs++[OI .u8 c]) w):=by
 go_enter Tryz.func152,Tryz.ntmps152
 go_wp2_with (go_at_call 197;refine(ue B b bs _ h).mono ?_)
 rintro e N ⟨rfl,h1,G⟩;obtain⟨hB,v,K,M,aJ⟩:=h1;have c0:N.cell? ⟨b,0,none⟩=some (U (some ⟨b,0,none⟩)):=by rw[O K];rfl
 have c1:N.cell? ⟨b,1,none⟩=some v:=by rw[O K];rfl
 go_wp2_with (at_builtin;refine dA nC rfl rfl rfl (M.alloc _) rfl (m:=1) (news:=[OI .u8 c]) rfl (ab.sl (ab.new N 5 _) 0) ?c2 ?c4 ?c5 ?_)
 case c2=>intro u hu;simp at hu;subst hu;rfl
 case c4=>omega
 case c5=>have:=G.size;simp;omega
 intro v' w2 C j _
 have av:b<N.heap.size:=by
  rcases OG b N.heap.size with h'|h'
  ·exact h'
  ·simp[Array.getElem?_eq_none h'] at K
 have I:w2.heap[b]? =some (OK #[U (some ⟨b,0,none⟩),v] 174 (0,0)):=by
  rw[j.block b (by simp;omega) (λe=>aJ e.symm),Lib.alloc_old N _ b av];exact K
 have d0:w2.cell? ⟨b,0,none⟩=some (U (some ⟨b,0,none⟩)):=by rw[O I];rfl
 have d1:w2.cell? ⟨b,1,none⟩=some v:=by rw[O I];rfl
 have f1:w2.frozen? ⟨b,1,none⟩=false:=OC I 1
 obtain⟨g,D,rfl⟩:∃g D,v'=.slice (some ⟨g,0,none⟩) (OA bs+1) D:=by
  rcases C.2 with⟨_,h0⟩|⟨g,D,cE,hv,_⟩
  ·omega
  ·exact⟨g,D,hv⟩
 go_wp2_with fail
 go_ret;refine⟨rfl,.inr ?_,?_⟩
 ·exact OB.put (T:=174) (e:=5) hB I (bs':=bs++[OI .u8 c]) (by simpa using C) (by decide)
 ·exact((G.alloc (by have:=G.size;omega) _).grown j (by have:=G.size;simp;omega) (λk hk=>(M.lt k hk).1)).setCell (p:=⟨b,1,none⟩) hB _
theorem qf (w:World):Z 174 5 w.heap.size w.heap.size [] (w.alloc (OK #[U none,.slice none 0 0] 174)):=
 .inl ⟨Nat.le_refl _,_,heap_alloc_new w _,World.ownsRow_nil _ _ _ _,by simp[Value.ownBlock]⟩
def Fc (B b:Nat) (l:List UInt8) (bs:List Value) (w:World) (e:Ending) (w':World):Prop:=e=X (OJ #[OI .i64 (OA l:Int),.nilIface])/\Z 174 5 B b (bs++l.map ag) w'/\Below B w w'
theorem iI (B b:Nat)(cs:List Value)(l:List UInt8)(w:World)(h:Z 174 5 B b cs w)(dy:OA cs+OA l<=140737488355328)(eE:B<=w.heap.size):
  Calls V 165 #[U (some ⟨b,0,none⟩),.string (bs l)] w (Fc B b l cs w):=by
 obtain⟨i0,hi,M,N,av⟩:=info_parts (show (V.info? 5).map (λi=>(i.zero,i.size,i.bytes))=some (some (OI .u8 0),1,1) by kernel_rfl);have HI:=OE hi;have aJ:=OE M;have bM:=OE N;have cE:=OE av;clear hi M N av
 go_enter Tryz.func165,Tryz.ntmps165
 go_wp2_with (go_at_call 197;refine(ue B b cs _ h).mono ?_)
 rintro e w1 ⟨rfl,h1,K⟩;obtain⟨hB,v,G,I,dv⟩:=h1;have c0:w1.cell? ⟨b,0,none⟩=some (U (some ⟨b,0,none⟩)):=by rw[O G];rfl
 have c1:w1.cell? ⟨b,1,none⟩=some v:=by rw[O G];rfl
 go_wp2_with (at_builtin;refine Lib.wpList_append_own_string w1 rfl _ _ 25 9 rfl B 5 i0 (by kernel_rfl) (by kernel_rfl) HI.out aJ.out bM.out cE.out v (OA cs) cs rfl I (bs l) rfl ?c1 ?c2 ?c3 ?_)
 case c1=>rw[iJ];unfold maxLen;omega
 case c2=>rw[iJ];omega
 case c3=>have:=K.size;omega
 intro v' w2 C j hq;clear hq
 have cI:b<w1.heap.size:=by
  rcases OG b w1.heap.size with h'|h'
  ·exact h'
  ·simp[Array.getElem?_eq_none h'] at G
 have D:w2.heap[b]? =some (OK #[U (some ⟨b,0,none⟩),v] 174 (0,0)):=by
  rw[j.block b cI (λe=>dv e.symm)];exact G
 have d0:w2.cell? ⟨b,0,none⟩=some (U (some ⟨b,0,none⟩)):=by rw[O D];rfl
 have d1:w2.cell? ⟨b,1,none⟩=some v:=by rw[O D];rfl
 have f1:w2.frozen? ⟨b,1,none⟩=false:=OC D 1;obtain⟨A,dO,rfl,_⟩:=cO C;go_wp2_with fail
 go_ret2;refine⟨rfl,.inr ?_,?_⟩
 ·exact OB.put (T:=174) (e:=5) hB D (bs':=cs++l.map ag) (by have h3:=C;rw[show Lib.strCells (bs l)=l.map ag from Lib.strCells_toArray l] at h3;simpa using h3) (by decide)
 ·exact(K.grown j (by have:=K.size;omega) (λk hk=>(I.lt k hk).1)).setCell (p:=⟨b,1,none⟩) hB _
end Go.Proofs.YthhijgcfbjcgiaaGreatDoor
