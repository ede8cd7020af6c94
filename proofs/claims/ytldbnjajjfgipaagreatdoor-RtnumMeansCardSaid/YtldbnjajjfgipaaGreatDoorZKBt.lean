/- Parts. -/
import Derived.Test.YtldbnjajjfgipaaGreatDoorZKLy
import Derived.Laws.ResultCell
set_option linter.all false
set_option maxHeartbeats 4000000
open Go.Lib renaming hid->Ya,cell_of_heap->Yc,frozen_of_heap->Yao
open Nat renaming le_refl->Yb,le_trans->Ym,zero_le->Yae,le_of_lt->Ya3
open List renaming getD_eq_getElem?_getD->Ye,getElem?_eq_getElem->Yf,getElem?_eq_some_iff->Yg,getElem?_append_left->Yn,replicate->Yt,getElem?_map->Y9,length_map->Yaa,take_length->Yam,map_append->Yay,take_add_one->Ya8,range->Ycb
open Go.RowKit.Below renaming refl->Yh
open Go.IntWalk renaming i64_in->Yi
open Go.Value renaming int->Ys,slice->Ybb,string->Ydy
open Array renaming getElem?_eq_some_iff->Yw
open Int renaming toNat_natCast->Yaj,eq_ofNat_of_zero_le->Ya0
namespace Go.Proofs.YtldbnjajjfgipaaGreatDoor
open S Go.Proofs.Tryz Go.RowKit
set_option maxRecDepth 100000
namespace S
def readV (m:Mach)(v:Int):Option (List Int) :=
 if v%4=0 then some [v] else
 if v%4=1/\m.memB (v/4)=true/\m.memV (v/4)%32=31/\m.memV (v/4)/32<=300 then
  some (m.memV (v/4)::(Ycb (m.memV (v/4)/32).toNat).map λ k:Nat=>m.memV (v/4+((k:Int)+1)))
 else none
end S
def Zdr (w:World)(lo:Nat)(m:S.Mach)(v:Int)(e:Ending)(w':World):Prop :=
 ∃(A:Option Addr)(n c:Nat),e=.returned (.tuple #[.slice A n c,.bool (S.readV m v).isSome])/\n=((S.readV m v).getD []).length/\n<=301/\Reads w' w'.heap.size A (((S.readV m v).getD []).map (Ys .u32))/\Below w.heap.size w w'/\∀k o s,A=some ⟨k,o,s⟩->w.heap.size<=k
theorem Zvq {m:S.Mach}(h:m.Ok)(i:Int):0<=m.memV i/\m.memV i<=4294967295:=by
 unfold S.Mach.memV
 split
 .exact h.memw _
 .decide
theorem Z1e {w:World}{lo b p:Nat}{F:Nat->Prop}{first t after next:Int}{m:S.Mach}(v:Int)(hv:0<=v/\v<4294967296)(C:NAt w lo b p F first t after next m) :
 Calls prog 29 #[.pointer (some ⟨b,0,none⟩),.int .u32 v] w (Zdr w lo m v):=by
 have HW:=Ya C;have f1:bits .and .u32 v 3=v%4:=Zah 2 v 4 3 (by decide) (by decide) (by decide) hv.1 hv.2;obtain⟨e0,e1,A,e3,Y⟩:=C.cells;have J:=C.blt;have z:=C.ok;have D:=Zvq z (v/4);have Q:=Ya (λ i=>Zvq z i);clear C z;go_enter func29,ntmps29
 by_cases c0:v%4=0
 .have j:=Ya (show S.readV m v=some [v] by unfold S.readV;rw[if_pos c0])
  have d0:(v%4==0)=true:=by simp[c0]
  clear c0;go_wp2_with fail
  refine bodyPost_ret (v:=.tuple #[.slice (some ⟨w.heap.size,0,none⟩) 1 1,.bool true]) (by simp[results,results29,go_sem]) rfl ?_;unfold Zdr;rw[j.out];exact⟨some ⟨w.heap.size,0,none⟩,1,1,rfl,rfl,by decide,Za8 (World.ownsRow_lit (size:=1) (base:=w.heap.size) (e:=31) w #[.int .u32 v] 1 (Yb _) (by decide) rfl),(Yh _ _).alloc (Yb _) _,λ k o s e=>by cases e;exact Yb _⟩
 .have d0:(v%4==0)=false:=by simp[c0]
  obtain⟨c,l⟩:∃h,h=m.memV (v/4):=⟨_,rfl⟩
  rw[<- l] at D;have f:=Ya l;have f2:bits .and .u32 c 31=c%32:=Zah 5 c 32 31 (by decide) (by decide) (by decide) D.1 (by omega);obtain⟨mb,d⟩:∃x,x=m.memB (v/4):=⟨_,rfl⟩
  have r:=Ya d;have a:=λ w' (hk:NAt w' lo b p F first t after next m)=>Zzr (v/4) hk
  rw[<- l,<- d] at a;have HC:=Ya a;clear a l d;go_wp2_with fail
  refine(HC.out _ HW.out).mono ?_;rintro e w2 ⟨rfl,n2,rfl⟩;by_cases c1:v%4=1
  rotate_left
  .have j:=Ya (show S.readV m v=none by unfold S.readV;rw[if_neg c0,if_neg (λ h=>c1 h.1)])
   have d1:(v%4 != 1)=true:=by simp[c1]
   clear c0 c1;go_wp2_with fail
   refine bodyPost_ret (v:=.tuple #[.slice none 0 0,.bool false]) (by simp[results,results29,go_sem]) rfl ?_;unfold Zdr;rw[j.out];exact⟨none,0,0,rfl,rfl,by decide,λ h=>absurd h (by decide),by repeat (first|exact Yh _ _|refine below_drewN ?_ _),λ k o s e=>by cases e⟩
  have d1:(v%4 != 1)=false:=by simp[c1]
  cases mb with
  | false =>
   have j:=Ya (show S.readV m v=none by unfold S.readV;rw[if_neg c0,if_neg (λ h=>by rw[<- r.out] at h;exact absurd h.2.1 (by decide))]);clear c0 c1;go_wp2_with fail
   refine bodyPost_ret (v:=.tuple #[.slice none 0 0,.bool false]) (by simp[results,results29,go_sem]) rfl ?_;unfold Zdr;rw[j.out];exact⟨none,0,0,rfl,rfl,by decide,λ h=>absurd h (by decide),by repeat (first|exact Yh _ _|refine below_drewN ?_ _),λ k o s e=>by cases e⟩
  | true =>
  by_cases c2:c%32=31
  rotate_left
  .have j:=Ya (show S.readV m v=none by unfold S.readV;rw[if_neg c0,if_neg (λ h=>by rw[<- f.out] at h;exact c2 h.2.2.1)])
   have d2:(c%32 != 31)=true:=by simp[c2]
   clear c0 c1 c2;go_wp2_with fail
   refine bodyPost_ret (v:=.tuple #[.slice none 0 0,.bool false]) (by simp[results,results29,go_sem]) rfl ?_;unfold Zdr;rw[j.out];exact⟨none,0,0,rfl,rfl,by decide,λ h=>absurd h (by decide),by repeat (first|exact Yh _ _|refine below_drewN ?_ _),λ k o s e=>by cases e⟩
  have d2:(c%32 != 31)=false:=by simp[c2]
  by_cases c3:c/32<=300
  rotate_left
  .have j:=Ya (show S.readV m v=none by unfold S.readV;rw[if_neg c0,if_neg (λ h=>by rw[<- f.out] at h;exact c3 h.2.2.2)])
   have d3:decide (c/32>300)=true:=decide_eq_true (by omega);have N:decide (300<c/32)=true:=decide_eq_true (by omega);clear c0 c1 c2 c3;go_wp2_with fail
   refine bodyPost_ret (v:=.tuple #[.slice none 0 0,.bool false]) (by simp[results,results29,go_sem]) rfl ?_;unfold Zdr;rw[j.out];exact⟨none,0,0,rfl,rfl,by decide,λ h=>absurd h (by decide),by repeat (first|exact Yh _ _|refine below_drewN ?_ _),λ k o s e=>by cases e⟩
  have d3:decide (c/32>300)=false:=decide_eq_false (by omega);have N:decide (300<c/32)=false:=decide_eq_false (by omega);obtain⟨K,hK⟩:∃K:Nat,c/32=K:=⟨(c/32).toNat,by omega⟩
  have a3:K<=300:=by omega
  have j:=Ya (show S.readV m v=some (c::(Ycb K).map λ k:Nat=>m.memV (v/4+((k:Int)+1))) by
   unfold S.readV;rw[if_neg c0,if_pos ⟨c1,r.out.symm,by rw[<- f.out];exact c2,by rw[<- f.out];exact c3⟩,<- f.out,hK,Yaj])
  have a1:0<=v/4/\v/4<=1073741824:=by omega
  clear c0 c1 c2 c3;go_wp2_with fail
  have H:=(Yh w.heap.size (w.drewN n2)).alloc (Yb _) (.cells #[.int .u32 c] 31);have O:=Ya (show Below w.heap.size w _ from(below_drewN (Yh w.heap.size w) n2).trans H);have E:=Ya (World.ownsRow_lit (size:=1) (base:=w.heap.size) (e:=31) (w.drewN n2) #[.int .u32 c] 1 (Yb _) (by decide) rfl);clear H;go_loopw [8,9,10,11] (λ v8 R _ _ wr=>∃(q:Nat)(I:Option Addr)(c3:Nat),q<=K/\R=.int .i64 (q+1:Nat)/\v8=.slice I (q+1:Nat) c3/\Hid (wr.ownsRow w.heap.size 31 1 (.slice I (q+1) c3) (q+1) ((c::(Ycb q).map λ k:Nat=>m.memV (v/4+((k:Int)+1))).map (Ys .u32)))/\Hid (Below w.heap.size w wr)) (λ _ R _ _ _=>K+1-(intOf R).toNat)
  case atStart=>exact⟨0,some ⟨w.heap.size,0,none⟩,1,Yae _,rfl,rfl,E,O⟩
  case round =>
   obtain⟨q,I,c3,hq,rfl,rfl,B,n⟩:=hrel;have u:=Ya (HW.out.below n.out);have T:=n.out.size;by_cases V:q<K
   .obtain⟨x,hx⟩:=Yx (m.memV (v/4+((q:Int)+1)))
    have W:=Q.out (v/4+((q:Int)+1));rw[<- hx] at W;have Hx:=Ya hx;obtain⟨mb,d⟩:∃y,y=m.memB (v/4+((q:Int)+1)):=⟨_,rfl⟩
    have a:=Zzr (v/4+((q:Int)+1)) u.out;rw[<- hx,<- d] at a;have X:=Ya a;obtain⟨g0,g1,g2,g3,g4⟩:=u.out.cells;have a0:=u.out.blt;have d5:decide (((q+1:Nat):Int)<=(K:Int))=true:=decide_eq_true (by omega);have d6:decide (q+1<=K)=true:=decide_eq_true (by omega);have p1:IntKind.i64.wrap (v/4+((q+1:Nat):Int))=v/4+((q:Int)+1):=by rw[Yi _ ⟨by omega,by omega⟩];omega
    have p3:IntKind.i64.wrap (((q+1:Nat):Int)+1)=((q+1+1:Nat):Int):=by rw[Yi _ ⟨by omega,by omega⟩];omega
    clear hx d a e0 e1 A e3 Y J;go_wp2_with fail
    refine X.out.mono ?_;rintro e w6 ⟨rfl,n6,rfl⟩;have M:=Ya (Zll B.out n6);have L:=Ya (below_drewN n.out n6);have p4:IntKind.i64.wrap ((q:Int)+1+1)=(q:Int)+1+1:=by rw[Yi _ ⟨by omega,by omega⟩]
    go_wp2_with (at_builtin;refine Zm rfl (.tmp 67) (.tmp 69) _ rfl w.heap.size 31 Zjc underlying28 rfl (by decide) #[.int .u32 x] _ _ _ rfl M.out rfl rfl rfl (by simp[Value.oneCell']) (by simp only[maxLen];omega) (by omega) T ?_;intro v' w7 G a2 U Z;obtain⟨A8,c8,rfl⟩:=Zc G)
    go_roundw
    case rel =>
     refine⟨q+1,A8,c8,V,by go_num,?_,Ya ?_,Ya (L.out.trans U)⟩
     .first|rfl | (congr 1;omega)
     .have A:List.map (Ys .u32) (c::(Ycb (q+1)).map λ k:Nat=>m.memV (v/4+((k:Int)+1)))=List.map (Ys .u32) (c::(Ycb q).map λ k:Nat=>m.memV (v/4+((k:Int)+1)))++#[Ys .u32 x].toList:=by
       rw[List.range_succ,Yay,Hx.out];simp
      rw[A];exact G
    case measure=>simp[intOf] <;> omega
   .have hqe:q=K:=by omega
    subst hqe;have d5:decide (((q+1:Nat):Int)<=(q:Int))=false:=decide_eq_false (by omega);have d6:decide (q+1<=q)=false:=decide_eq_false (by omega);have d7:decide ((q:Int)+1<=(q:Int))=false:=decide_eq_false (by omega);clear e0 e1 A e3 Y J;go_wp2_with fail
    refine bodyPost_ret (v:=.tuple #[.slice I (q+1) c3,.bool true]) (by simp[results,results29,go_sem]) rfl ?_;unfold Zdr;rw[j.out];refine⟨I,q+1,c3,rfl,by simp,by omega,Za8 B.out,n.out,λ k o s e=>?_⟩;obtain⟨g,A,h1,_⟩:=Z9 B.out (by omega);rw[e] at A
    cases A
    exact h1
def S.b9 (l:List Int)(code:Int)(ws:List Int):Bool:=decide (code=-1) && decide (l=ws)
theorem Zs8 {l ws:List Int}{i:Nat}(hi:i<l.length)(hj:i<ws.length)(h:l[i]≠ws[i]):l≠ws:=λ e=>by
 subst e;exact h rfl
theorem Z8r (A J:Option Addr)(N c j O:Nat)(code:Int)(l ws:List Int)(B:N=l.length)(r:j=ws.length)(w:World)(h:Reads w w.heap.size A (l.map (Ys .u32)))(E:Reads w w.heap.size J (ws.map (Ys .u32)))(hl:N<=1000000)(R:j<=1000000) :
 Calls prog 47 #[.slice A N c,.int .i64 code,.slice J j O] w λ e w'=>e=.returned (.bool (b9 l code ws))/\Below w.heap.size w w':=by
 have s:=Ya B;have d:=Ya r;have H:=Ya h;have U:=Ya E;clear B r h E;go_enter func47,ntmps47
 by_cases c0:code=-1
 rotate_left
 .have d0:(code != -1)=true:=by simp[c0]
  have f:=Ya (show b9 l code ws=false by unfold b9;rw[decide_eq_false c0];rfl);clear c0;go_wp2_with fail
  go_ret
  exact⟨by rw[f.out];rfl,Yh _ _⟩
 have d0:(code != -1)=false:=by simp[c0]
 by_cases c1:N=j
 rotate_left
 .have d1:((N:Int) != (j:Int))=true:=by simp;omega
  have f:=Ya (show b9 l code ws=false by
   unfold b9;rw[decide_eq_false (show ¬l=ws from λ e=>c1 (by rw[s.out,d.out,e])),Bool.and_false])
  clear c0 c1;go_wp2_with fail
  go_ret
  exact⟨by rw[f.out];rfl,Yh _ _⟩
 have d1:((N:Int) != (j:Int))=false:=by simp;omega
 have t:=Ya c0;subst c1;clear c0;go_wp2_with fail
 go_loopw [7] (λ i wr=>∃k:Nat,k<=N/\i=.int .i64 k/\Hid (l.take k=ws.take k)/\∃n,wr=w.drewN n) (λ i _=>N-(intOf i).toNat)
 case atStart=>exact⟨0,Yae _,rfl,Ya rfl,0,rfl⟩
 case round =>
  obtain⟨k,hk,rfl,D,n,rfl⟩:=hrel;by_cases a:k<N
  .have h1:k<l.length:=by rw[<- s.out];exact a
   have h2:k<ws.length:=by rw[<- d.out];exact a
   obtain⟨b,off,hA,hb,I⟩:=H.out (by rw[Yaa];omega);obtain⟨b',K,z,Q,q⟩:=U.out (by rw[Yaa];omega);have V:=I k (.int .u32 l[k]) (by rw[Y9,Yf h1];rfl);have L:=q k (.int .u32 ws[k]) (by rw[Y9,Yf h2];rfl);have t1:=Ya (show l.take (k+1)=l.take k++[l[k]] from by rw[Ya8,Yf h1];rfl);have t2:=Ya (show ws.take (k+1)=ws.take k++[ws[k]] from by rw[Ya8,Yf h2];rfl);have g:=Ya (λ h=>Zs8 h1 h2 h);obtain⟨u,C⟩:∃x,x=l[k]:=⟨_,rfl⟩
   obtain⟨v,G⟩:∃x,x=ws[k]:=⟨_,rfl⟩
   rw[<- C] at V t1 g;rw[<- G] at L t2 g;have p2:IntKind.i64.wrap (k:Int)=(k:Int):=Yi _ ⟨by omega,by omega⟩;have p3:IntKind.i64.wrap ((k:Int)+1)=(k:Int)+1:=Yi _ ⟨by omega,by omega⟩;have M:(k:Int)<(N:Int):=by omega
   have i4:(0:Int)<=(k:Int):=by omega
   have d2:decide ((k:Int)<(N:Int))=true:=decide_eq_true M;have d3:decide (k<N)=true:=decide_eq_true a;subst hA z;clear I q C G;by_cases o:u=v
   .have en:(u != v)=false:=by simp[o]
    have T:=Ya o;clear o;go_wp2_with fail
    go_quiet (fail)
    go_wp2_with fail
    go_roundw
    case rel=>exact⟨k+1,a,by go_num,Ya (by rw[t1.out,t2.out,D.out,T.out]),_,rfl⟩
    case measure=>simp[intOf] <;> omega
   .have en:(u != v)=true:=by simp[o]
    have f:=Ya (show b9 l code ws=false by
     unfold b9;rw[decide_eq_false (g.out o),Bool.and_false])
    clear o;go_wp2_with fail
    go_quiet (fail)
    go_wp2_with fail
    go_ret
    exact⟨by rw[f.out];rfl,by repeat (first|exact Yh _ _|refine below_drewN ?_ _)⟩
  .have hke:k=N:=by omega
   subst hke;have d2:decide ((k:Int)<(k:Int))=false:=by simp
   have f:=Ya (show b9 l code ws=true by
    have h1:=D.out;rw[s.out,Yam,<- s.out,d.out,Yam] at h1;unfold b9;rw[decide_eq_true t.out,decide_eq_true h1];rfl)
   go_wp2_with fail
   go_ret
   exact⟨by rw[f.out];rfl,by repeat (first|exact Yh _ _|refine below_drewN ?_ _)⟩
theorem Zs9 {w w':World}{A:Option Addr}{l:List Int}{g:Nat}{x:Bool}{r:Option Addr}{q c0:Nat}{t:TypeId}(h:Ints w w.heap.size A l)(j:w.heap[g]?=some (.cells #[.bool x,.slice r q c0] t (0,0)))(o:∀k,k≠g->k<w.heap.size->w'.heap[k]?=w.heap[k]?)(hz:w.heap.size<=w'.heap.size):Ints w' w'.heap.size A l:=λ hp=>by
 obtain⟨b,off,e,f,d⟩:=h hp;have h0:=d 0 _ (Yf hp);have c:b≠g:=by
  rintro rfl;rw[Yc j,Nat.add_zero] at h0
  match off,h0 with
  | 0,h0=>cases h0
  | 1,h0=>cases h0
  | n+2,h0=>simp at h0
 exact⟨b,off,e,by omega,λ i x s=>(World.cell?_of_block (a:=⟨b,off+i,none⟩) (o b c f)).trans (d i x s)⟩
theorem Z64 (s:ByteArray)(p:Nat)(neg:Bool)(l:List Int)(G:Tz s p neg l)(I:s.size<=1000000)(w:World) :
 Calls prog 79 #[.string s] w λ e w'=>∃(neg':Bool)(A:Option Addr)(m c:Nat)(K:List Int),e=.returned (Zx neg' A m c)/\NumW w' w'.heap.size (tz neg l) neg' A m c K/\Below w.heap.size w w':=by
 have L:=Ya G;clear G;go_enter func79,ntmps79
 go_wp2_with fail
 refine(Zqc s p neg l L.out I _).mono ?_;rintro e w1 ⟨a,g,m1,c1,l1,rfl,o,d⟩;have J:=Ya o;have HB:=Ya d;have i:=d.size;have h:(w.alloc (.cells #[.bool false,.slice none 0 0] 56)).heap.size=w.heap.size+1:=by simp
 have b:=(d.block w.heap.size (by rw[h];exact Nat.lt_succ_self _)).trans (heap_alloc_new w _);rw[h] at i;have j:=(Yh w.heap.size w).alloc (Yb _) (.cells #[.bool false,.slice none 0 0] 56);have D:=Ya (Zcc j d (by rw[h];exact Nat.le_succ _));have u:w1.cell? ⟨w.heap.size,0,none⟩=some (.bool false):=by rw[Yc b];rfl
 have r:w1.cell? ⟨w.heap.size,1,none⟩=some (.slice none 0 0):=by rw[Yc b];rfl
 have hf0:w1.frozen? ⟨w.heap.size,0,none⟩=false:=frozen_of_row w1 w.heap.size 0 _ _ b;have M:w1.frozen? ⟨w.heap.size,1,none⟩=false:=frozen_of_row w1 w.heap.size 1 _ _ b;have t:w.heap.size<w1.heap.size:=i;clear o d j;unfold Zx;go_wp2_with fail
 obtain⟨wf,f⟩:∃wf,wf=(((w1.setCell { block:=w.heap.size,off:=0 } (Value.bool a)).setCell { block:=w.heap.size,off:=1 } (Ybb g m1 c1)).alloc (Obj.cells #[Value.bool a,Ybb g m1 c1] 56)):=⟨_,rfl⟩
 have H:wf.heap.size=w1.heap.size+1:=by rw[f];simp
 have C:∀k,k≠w.heap.size->k<w1.heap.size->wf.heap[k]?=w1.heap[k]?:=λ k E N=>by
  rw[f,((Yh w1.heap.size _).alloc (by simp) _).block k N,heap_setCell_other _ ⟨w.heap.size,1,none⟩ k _ E,heap_setCell_other _ ⟨w.heap.size,0,none⟩ k _ E]
 have n:wf.heap[w.heap.size]?=some (.cells #[.bool a,.slice g m1 c1] 56 (0,0)):=by
  rw[f,((Yh w1.heap.size _).alloc (by simp) _).block _ t];have h1:=heap_setCell_same w1 w.heap.size 0 _ _ (.bool a) b;exact heap_setCell_same _ w.heap.size 1 _ _ (.slice g m1 c1) h1
 have B:Below w.heap.size w1 wf:=by
  rw[f];exact(((Yh w.heap.size w1).setCell (p:=⟨w.heap.size,0,none⟩) (Yb _) _).setCell (p:=⟨w.heap.size,1,none⟩) (Yb _) _).alloc (Ym (Ya3 t) (Nat.le_of_eq (by simp))) _
 have u:wf.cell? ⟨w.heap.size,0,none⟩=some (.bool a):=by rw[Yc n];rfl
 have r:wf.cell? ⟨w.heap.size,1,none⟩=some (.slice g m1 c1):=by rw[Yc n];rfl
 rw[<- f];refine bodyPost_ret (v:=Zx a g m1 c1) (by simp[results,results79,go_sem,Zx,u,r]) rfl ?_;have q:=J.out;exact⟨a,g,m1,c1,l1,rfl,⟨q.z,q.len,q.few,Zs9 q.at_ b C (by omega),q.nil,q.cap⟩,D.out.trans B⟩
theorem Zzl (a b:List UInt8):(⟨a.toArray⟩:ByteArray)++⟨b.toArray⟩=⟨(a++b).toArray⟩:=by
 apply ByteArray.ext
 simp
theorem Z20 (op:Int)(s:isOp op)(w:World)(I:LVE w):Calls prog 53 #[.int .i64 op] w λ e w'=>∃A c,e=.returned (.agg #[.string kCall,.slice A 8 c])/\w'.ownsRow w.heap.size 135 8 (.slice A 8 c) 8 ((callItems op).flatMap Zd)/\Below w.heap.size w w':=by
 have O:=Ya I;have U:=Ya s;clear I s;go_enter func53,ntmps53
 go_upto_region 2 with fail
 obtain⟨J,L,K⟩:=Zc7 w #[.string ⟨#[]⟩,.slice none 0 0] 105;generalize w.alloc (.cells #[.string ⟨#[]⟩,.slice none 0 0] 105)=wa at *;obtain⟨g,C,Q⟩:=Zc7 wa #[.int .i64 1,.int .i64 36,.int .i64 0,.int .i64 0,.int .i64 0,.int .i64 0,.string ⟨#[]⟩,.int .u32 0] 135;rw[K] at g Q;have o:=L.trans (C.mono (by omega));have t:=(C.block w.heap.size (by omega)).trans J;generalize wa.alloc (.cells #[.int .i64 1,.int .i64 36,.int .i64 0,.int .i64 0,.int .i64 0,.int .i64 0,.string ⟨#[]⟩,.int .u32 0] 135)=d at *;have l:=Ya o;have G:=Ya t;have c0:d.cell? ⟨w.heap.size+1,0,none⟩=some (.int .i64 1):=by rw[Yc g];rfl
 have c1:d.cell? ⟨w.heap.size+1,1,none⟩=some (.int .i64 36):=by rw[Yc g];rfl
 have c2:d.cell? ⟨w.heap.size+1,2,none⟩=some (.int .i64 0):=by rw[Yc g];rfl
 have c3:d.cell? ⟨w.heap.size+1,3,none⟩=some (.int .i64 0):=by rw[Yc g];rfl
 have c4:d.cell? ⟨w.heap.size+1,4,none⟩=some (.int .i64 0):=by rw[Yc g];rfl
 have c5:d.cell? ⟨w.heap.size+1,5,none⟩=some (.int .i64 0):=by rw[Yc g];rfl
 have c6:d.cell? ⟨w.heap.size+1,6,none⟩=some (.string ⟨#[]⟩):=by rw[Yc g];rfl
 have c7:d.cell? ⟨w.heap.size+1,7,none⟩=some (.int .u32 0):=by rw[Yc g];rfl
 have E:=Ya (λ y:Ext d=>Zt1 op (by have:=U.out;unfold isOp at this;unfold I64;omega) y.val ((O.out.on l.out).on y.property));have N:=Ya (Zzl [114,116] (S.itoa op));have hl:=Zlm op;have T:=Ya (show kRt op=⟨([114,116]++S.itoa op).toArray⟩ from rfl);have M:w.heap.size+1<d.heap.size:=by omega
 have k:w.heap.size<d.heap.size:=by omega
 generalize S.itoa op=lf at *;clear J L K g C o t;refine Zi 12 (by kernel_rfl) (by kernel_rfl) ?_;have R:=Zn d;simp only[List.take_succ_cons,List.take_zero,List.drop_succ_cons,List.drop_zero]
 repeat (first
  | go_big_quiet_step ((go_at_call 120;exact Zc6 (E.out _))))
 refine wpQuiet_nil ?_;rintro a ⟨⟨_,i⟩,rfl⟩;have b:=(i.block w.heap.size k).trans G.out;have z:=Ya b;have B:=Ya (l.out.trans (i.mono (by omega)));have V:=i.size;have o0:a.cell? ⟨w.heap.size,0,none⟩=some (.string ⟨#[]⟩):=by rw[Yc b];rfl
 have o1:a.cell? ⟨w.heap.size,1,none⟩=some (.slice none 0 0):=by rw[Yc b];rfl
 have g0:a.frozen? ⟨w.heap.size,0,none⟩=false:=Yao b 0;have g1:a.frozen? ⟨w.heap.size,1,none⟩=false:=Yao b 1;have f:w.heap.size<a.heap.size:=by omega
 clear i R c0 c1 c2 c3 c4 c5 c6 c7 b;go_wp2_with fail
 simp only[N.out,<- T.out];change bodyPost _ _ _ _ _ (World.alloc _ (.cells ((callItems op).flatMap Zd).toArray 135));obtain⟨wf,j⟩:∃wf,wf=(((a.setCell { block:=w.heap.size,off:=0 } (Ydy ⟨#[99,97,108,108]⟩)).setCell { block:=w.heap.size,off:=1 } (Ybb (some { block:=a.heap.size,off:=0 }) 8 8)).alloc (.cells ((callItems op).flatMap Zd).toArray 135)):=⟨_,rfl⟩
 have r:wf.heap[w.heap.size]?=some (.cells #[.string ⟨#[99,97,108,108]⟩,.slice (some { block:=a.heap.size,off:=0 }) 8 8] 105 (0,0)):=by
  rw[j,((Yh a.heap.size _).alloc (by simp) _).block _ f];have h1:=heap_setCell_same a w.heap.size 0 _ _ (.string ⟨#[99,97,108,108]⟩) z.out;exact heap_setCell_same _ w.heap.size 1 _ _ (.slice (some { block:=a.heap.size,off:=0 }) 8 8) h1
 have u:Below w.heap.size w wf:=by
  rw[j];exact(((B.out.setCell (p:=⟨w.heap.size,0,none⟩) (Yb _) _).setCell (p:=⟨w.heap.size,1,none⟩) (Yb _) _).alloc (Ym (Ya3 f) (Nat.le_of_eq (by simp))) _)
 have H:wf.cell? ⟨w.heap.size,0,none⟩=some (.string ⟨#[99,97,108,108]⟩):=by rw[Yc r];rfl
 have D:wf.cell? ⟨w.heap.size,1,none⟩=some (.slice (some { block:=a.heap.size,off:=0 }) 8 8):=by rw[Yc r];rfl
 have q:wf.ownsRow w.heap.size 135 8 (.slice (some { block:=a.heap.size,off:=0 }) 8 8) 8 ((callItems op).flatMap Zd):=by
  have h:=Zl5 (w:=(a.setCell { block:=w.heap.size,off:=0 } (Ydy ⟨#[99,97,108,108]⟩)).setCell { block:=w.heap.size,off:=1 } (Ybb (some { block:=a.heap.size,off:=0 }) 8 8)) (base:=w.heap.size) (e:=135) (size:=8) (n:=8) (cs:=((callItems op).flatMap Zd).toArray) (xs:=(callItems op).flatMap Zd) (Ym (Ya3 f) (Nat.le_of_eq (by simp))) rfl rfl (by simp[maxLen]);rw[<- j] at h;have e:((a.setCell { block:=w.heap.size,off:=0 } (Ydy ⟨#[99,97,108,108]⟩)).setCell { block:=w.heap.size,off:=1 } (Ybb (some { block:=a.heap.size,off:=0 }) 8 8)).heap.size=a.heap.size:=by simp
  rw[e] at h;exact h
 rw[<- j];exact bodyPost_ret (v:=.agg #[.string ⟨#[99,97,108,108]⟩,.slice (some { block:=a.heap.size,off:=0 }) 8 8]) (by simp[results,results53,go_sem,H,D]) rfl ⟨_,8,rfl,q,u⟩
theorem Z75 (A:Option Addr)(n c B:Nat)(P:List (ByteArray×Int))(l:n=P.length)(hn:n<=1048576)(s:ByteArray)(w:World)(h:ReadsP w B A P):Calls prog 55 #[.slice A n c,.string s] w λ e w'=>e=.returned (.int .i64 ((findP P s).getD (-1)))/\w=w':=by
 have o:=Ya l;have v:=Ya h;clear l h;go_enter func55,ntmps55
 go_wp2_with fail
 go_loopw [5] (λ f wr=>∃i:Nat,i<=n/\f=.int .i64 i/\Hid (findP P s=findP (P.drop i) s)/\w=wr) (λ f _=>n-(intOf f).toNat)
 case atStart=>exact⟨0,Yae _,rfl,Ya rfl,rfl⟩
 case round =>
  obtain⟨i,hi,rfl,hf,rfl⟩:=hrel;by_cases k:i<n
  .have hil:i<P.length:=by rw[<- o.out];exact k
   obtain⟨b1,o1,g,z,b⟩:=v.out (by omega);obtain⟨D,C⟩:=b i P[i] (Yf hil);have d:P.drop i=P[i]::P.drop (i+1):=List.drop_eq_getElem_cons hil;obtain⟨q,r⟩:=Yx P[i];rw[<- r] at D C d;obtain⟨nm,u⟩:=q;have i3:(i:Int)<(n:Int):=by omega
   have d1:decide ((i:Int)<(n:Int))=true:=decide_eq_true (by omega);have p2:IntKind.i64.wrap ((i:Int)+1)=(i:Int)+1:=Yi _ ⟨by omega,by omega⟩;have t:=Ya d;subst g;clear b r d;by_cases a:nm=s
   .have be:=Z5f a
    have j:=Ya a;clear a;go_wp2_with fail
    go_ret
    exact⟨by rw[hf.out,t.out,findP];simp only;rw[if_pos j.out];rfl,rfl⟩
   .have be:=Z5g a
    have j:=Ya a;clear a;go_wp2_with fail
    go_roundw
    case rel=>exact⟨i+1,by omega,by go_num,Ya (by rw[hf.out,t.out,findP];simp only;rw[if_neg j.out]),trivial⟩
    case measure=>simp[intOf] <;> omega
  .have hie:n=i:=by omega
   subst hie;have d1:decide ((n:Int)<(n:Int))=false:=by simp
   go_wp2_with fail
   go_ret
   exact⟨by rw[hf.out,o.out,List.drop_length];rfl,rfl⟩
def S.bz:List ByteArray:=kLow::(nMidO.map S.Obj.name++[kCall])
theorem Zvr:(nodupB bz && nMidO.all (λ o=>!S.badN o))=true:=by kernel_rfl
theorem Z21 (op:Int):NamesRes (nObjs op) 0:=by
 have h:=Zvr;rw[Bool.and_eq_true] at h;have l:(nObjs op).map S.Obj.name=bz:=by
  show(oLow::(nMidO++[oCall op])).map S.Obj.name=_
  rw[List.map_cons,Yay];rfl
 have d:((nObjs op).map S.Obj.name).Nodup:=by rw[l];exact Zl4 h.1
 refine .inr (.inr ⟨?_,λ o e=>?_,rfl⟩)
 .rintro⟨i,j,a,b,hij,hi,hj,hab⟩
  have k:((nObjs op).map S.Obj.name)[i]?=some a.name:=by rw[Y9,hi];rfl
  have g:((nObjs op).map S.Obj.name)[j]?=some b.name:=by rw[Y9,hj];rfl
  obtain⟨l1,c⟩:=Yg.1 k;obtain⟨l2,f⟩:=Yg.1 g;have:=(List.nodup_iff_pairwise_ne.1 d)
  rw[List.pairwise_iff_getElem] at this;exact this j i l2 l1 hij (by rw[c,f,hab])
 .have ho':o∈oLow::(nMidO++[oCall op]):=e
  rcases List.mem_cons.1 ho' with rfl|q
  .show(kLow.data.toList.isEmpty || ownB kLow)=false
   decide
  .rcases List.mem_append.1 q with q|q
   .have:=List.all_eq_true.1 h.2 o q
    simpa using this
   .rw[List.mem_singleton] at q
    subst q
    show(kCall.data.toList.isEmpty || ownB kCall)=false
    decide
theorem Zd2 (op:Int):(joined (nObjs op)).length<=1048576:=by
 have hm:nMid.length<=100000:=by
  have h:decide (nMid.length<=100000)=true:=by kernel_rfl
  exact of_decide_eq_true h
 rw[Zox];omega
theorem Zme {I:Img}(f:I.Ok){j:Nat}{x:S.Item}(i:I.xs[j]?=some x)(k:x.kind=2):findP (placesTo I.xs I.F 0 I.xs.length) x.label=some (I.lab x.label):=by
 have d:∀(L:List (ByteArray×Int)) (s:ByteArray) (v:Int),(∃q:Nat,L[q]?=some (s,v))->(∀(q:Nat)(u:Int),L[q]?=some (s,u)->u=v)->findP L s=some v:=by
  intro L
  induction L with
  | nil=>rintro s v ⟨q,a⟩;cases a
  | cons p r ih =>
   rintro s v ⟨q,a⟩ e;obtain⟨n,u⟩:=p;rw[findP];simp only;by_cases c:n=s
   .subst c
    rw[if_pos rfl,e 0 u rfl]
   .rw[if_neg c]
    refine ih s v ?_ λ q u h=>e (q+1) u h
    cases q with
    | zero=>cases a;exact absurd rfl c
    | succ q=>exact⟨q,a⟩
 have g:=Ziq f i k;have b:I.lab x.label=addr I.xs I.F 0 j:=by
  unfold Img.lab;rw[g];rfl
 have l:=(Yg.1 i).1;refine d _ _ _ ?_ λ q u a=>?_
 .obtain⟨q,a⟩:=Zkq (F:=I.F) (base:=0) g _ l
  exact⟨q,by rw[b];exact a⟩
 .obtain⟨j',h1,h2,_⟩:=Zio (Zuk f) _ q _ u a
  have:j'=j:=by
   have h3:stands I.xs x.label=j':=h1;omega
  subst this;rw[b];exact h2
def S.nL (op:Int)(F:List Int):List Int:=outTo (joined (nObjs op)) F 0 (joined (nObjs op)).length
def S.nP (op:Int)(F:List Int):List (ByteArray×Int):=placesTo (joined (nObjs op)) F 0 (joined (nObjs op)).length
def S.aj (L:List Int)(half:Int):S.Mach :=
 ((((((Zk7 L (L.length+2*half).toNat []).putV 1 (2*half)).putV 2 L.length).putV 3 (L.length+half)).putV 4 half).putV 5 38).setV 28 1056
structure S.au (op:Int)(F:List Int)(half a:Int):Prop where
 ok:∀b,(aa b op F (a+4+2*half)).Ok
 lab:bk (aa true op F (a+4+2*half)) (5+nMid.length) a
 len:((nL op F).length:Int)=a+4
 small:a<=30000
 words:∀x∈nL op F,0<=x/\x<=4294967295
 mok:(aj (nL op F) half).Ok
 run:(aj (nL op F) half).state=0
 mlen:((aj (nL op F) half).mem.length:Int)=a+4+2*half
 code:(aa true op F (a+4+2*half)).In (aj (nL op F) half).mem
 rd:∀j,(aj (nL op F) half).rd j=if j=28 then 1056 else 0
 m1:(aj (nL op F) half).mv 1=2*half
 m2:(aj (nL op F) half).mv 2=a+4
 m3:(aj (nL op F) half).mv 3=a+4+half
 m4:(aj (nL op F) half).mv 4=half
 m5:(aj (nL op F) half).mv 5=38
 low:∀c,5<c->c<1312->(aj (nL op F) half).mv c=0
 zero:∀c,a+4<=c->(aj (nL op F) half).mv c=0
 out:(aj (nL op F) half).out=[]
 steps:(aj (nL op F) half).steps=0
theorem Zk3 {op:Int}{F:List Int}{size a:Int}(hI:(aa true op F size).Ok)(b:bk (aa true op F size) (5+nMid.length) a){c:Int}(h:(aa true op F size).code c):1312<=c/\c<a+4:=by
 obtain⟨h1,h2⟩:=h;have e1:(aa true op F size).adr (aa true op F size).i0=1312:=b.i0;have e2:(aa true op F size).adr (aa true op F size).i1=a+4:=b.top;omega
theorem Z49 {op:Int}{F:List Int}{size:Int}(a:(aa true op F size).Ok)(h0:F.getD 0 0=1){c:Nat}(hc:0<c)(d:c<1312):(nL op F)[c]?=some 0:=by
 have f:(joined (nObjs op))[1]?=some (bSp 1311):=by rw[Zcw];rfl
 have b:(joined (nObjs op))[0]?=some (bJ 0 kStart):=by rw[Zcw];rfl
 have g:wordsAt (joined (nObjs op)) F 0 1=Yt 1311 0:=by
  unfold wordsAt;rw[f];exact Zsz _ _ _ _
 have h:addr (joined (nObjs op)) F 0 1=1:=by
  show 0+sizeAt (joined (nObjs op)) F 0=1
  unfold sizeAt;rw[b]
  show 0+S.size (bJ 0 kStart) (F.getD 0 0)=1
  rw[h0]
  decide
 have:=Zvl (Zay a) (Zcu (Zch a)) a.words (i:=1) (j:=c-1) (w:=0) (by
  show(wordsAt (joined (nObjs op)) F 0 1)[c-1]?=some 0
  rw[g,List.getElem?_replicate,if_pos (by omega)]) (joined (nObjs op)).length (by rw[Zox];omega)
 have e:(addr (aa true op F size).xs (aa true op F size).F 0 1).toNat+(c-1)=c:=by
  show(addr (joined (nObjs op)) F 0 1).toNat+(c-1)=c
  rw[h]
  show 1+(c-1)=c
  omega
 rw[e] at this;exact this
theorem Z22 {op:Int}(N:isOp op){b:Int}(hh:1<=b/\b<=1000000){r:Int}{L:List Int}{P:List (ByteArray×Int)}(h:Zv6 (nObjs op) 0 r L P) :
 r=0/\∃F a,au op F b a/\L=nL op F/\P.length<=1048576/\findP P kEnd=some (a+4)/\findP P kCall=some (a+1)/\findP P kAfter=some (a+3):=by
 have hw:=Zw4 op;rcases h with⟨h1,h2,_⟩|⟨_,F,h1,h2,h3⟩
 .exact absurd (Znt h2 (Z21 op)) h1
 by_cases Z:r=0
 rotate_left
 .exact absurd (Z8a N (e:=r) (F:=F) (size:=100000000) h1 (λ h=>absurd h Z) (by decide)).1 Z
 subst Z;have hF:FormOk (joined (nObjs op)) F:=by
  rcases h1 with⟨h,_⟩|⟨h,_⟩|⟨_,_,h,_⟩
  .exact absurd rfl h
  .omega
  .exact h.1
 have b0:addr (joined (nObjs op)) F 0 (joined (nObjs op)).length<=67108864:=by
  rcases h1 with⟨h,_⟩|⟨h,_⟩|⟨_,_,_,_,h5⟩
  .exact absurd rfl h
  .omega
  .exact h5
 obtain⟨-,d,a7,hf0,a1⟩:=Z8a N (size:=addr (joined (nObjs op)) F 0 (joined (nObjs op)).length+2*b) h1 (λ _=>by omega) (by omega);obtain⟨a,f⟩:=Z5c (d true) hf0 a1;have O:addr (joined (nObjs op)) F 0 (joined (nObjs op)).length=a+4:=f.top;rw[O] at d f a7;have z:((nL op F).length:Int)=a+4:=by
  have h5:((outTo (joined (nObjs op)) F 0 (joined (nObjs op)).length).length:Int)=addr (joined (nObjs op)) F 0 (joined (nObjs op)).length-0:=Zbj (base:=0) (Zay (d true)) (Zcu (Zch (d true))) (d true).words (joined (nObjs op)).length;unfold nL;omega
 have B:∀x∈nL op F,0<=x/\x<=4294967295:=λ x hx=>Zi3 (F:=F) (base:=0) hw (joined (nObjs op)).length x hx
 have a8:=f.a0;obtain⟨I,A⟩:=Yx (aa true op F (a+4+2*b));have hI:I.Ok:=by rw[A];exact d true
 have C:∀c,I.code c->1312<=c/\c<a+4:=λ c s=>Zk3 (d true) f (by rw[A] at s;exact s)
 obtain⟨L0,u⟩:=Yx (nL op F);have G:∀(i j:Nat)(v:Int),i<I.xs.length->(wordsAt I.xs I.F 0 i)[j]?=some v->L0[(I.adr i).toNat+j]?=some v:=λ i j v hi Q=>by
  rw[A] at hi Q⊢;rw[u];exact Zvl (Zay (d true)) (Zcu (Zch (d true))) (d true).words Q _ hi
 have K:∀c:Nat,0<c->c<1312->L0[c]?=some 0:=λ c h0 h1=>by
  rw[u];exact Z49 (d true) hf0 h0 h1
 have a3:findP (nP op F) kEnd=some (a+4)/\findP (nP op F) kCall=some (a+1)/\findP (nP op F) kAfter=some (a+3):=by
  have q7:=Zme (d true) (j:=5+nMid.length+7) (x:=bL kEnd) (Zht op 7) rfl;have q2:=Zme (d true) (j:=5+nMid.length+2) (x:=bL kCall) (Zht op 2) rfl;have q5:=Zme (d true) (j:=5+nMid.length+5) (x:=bL kAfter) (Zht op 5) rfl;have X:(bL kEnd).label=kEnd:=rfl;have e2:(bL kCall).label=kCall:=rfl;have W:(bL kAfter).label=kAfter:=rfl;rw[X,f.end_] at q7;rw[e2,f.call] at q2;rw[W,f.after] at q5;exact⟨q7,q2,q5⟩
 rw[if_pos rfl] at h2 h3;have a6:(nP op F).length<=1048576:=Ym (Zcg (joined (nObjs op)) F 0 (joined (nObjs op)).length) (Zd2 op);have a5:au op F b a:=by
  have e0:aj (nL op F) b=aj L0 b:=by rw[u]
  rw[<- u] at z B;obtain⟨t,l⟩:=Yx (Zk7 L0 (L0.length+2*b).toNat []);have a9:t.mem.length=(L0.length+2*b).toNat:=by
   rw[l]
   show(L0++Yt ((L0.length+2*b).toNat-L0.length) 0).length=_
   rw[List.length_append,List.length_replicate];omega
  have M:t.Ok:=by
   rw[l];exact Zwi (by omega) (by omega) B (λ x hx=>by cases hx)
  have V:∀c:Nat,c<L0.length->t.mv c=L0.getD c 0:=λ c s=>by
   rw[l]
   show(L0++Yt ((L0.length+2*b).toNat-L0.length) 0).getD (c:Int).toNat 0=_
   rw[Yaj,Ye,Yn s,Ye]
  have Y:∀c:Nat,L0.length<=c->t.mv c=0:=λ c s=>by
   rw[l]
   show(L0++Yt ((L0.length+2*b).toNat-L0.length) 0).getD (c:Int).toNat 0=_
   rw[Yaj,Ye,List.getElem?_append_right s,<- Ye];exact Zgb _ _
  have a2:I.In t.mem:=by
   intro i h0 h1 j w Q;have a4:i<I.xs.length:=Nat.lt_of_lt_of_le h1 hI.i1l;have h:=G i j w a4 Q;rw[l]
   show(L0++Yt _ 0).getD _ 0=w
   rw[Ye,Yn (Yg.1 h).1,h];rfl
  have H:∀j,t.rd j=0:=λ j=>by
   rw[l];exact Zgb 32 j.toNat
  have q:∀(m:S.Mach)(i v:Int),(m.Ok/\(m.mem.length:Int)=a+4+2*b/\I.In m.mem/\m.state=0/\m.out=[]/\m.steps=0)->0<=i->i<1312->0<=v->v<=4294967295 ->
   ((m.putV i v).Ok/\((m.putV i v).mem.length:Int)=a+4+2*b/\I.In (m.putV i v).mem/\(m.putV i v).state=0/\(m.putV i v).out=[]/\(m.putV i v).steps=0)/\(∀c,0<=c->(m.putV i v).mv c=if c=i then v else m.mv c)/\∀j,(m.putV i v).rd j=m.rd j:=by
   rintro m i v ⟨R,k2,T,k4,k5,U⟩ h0 h1 h2 h3;obtain⟨e1,e2,e3,e4,W,e6,X⟩:=Zcl m i v;refine⟨⟨Zl9 R ⟨h2,h3⟩,by rw[X];exact k2,?_,W.trans k4,e4.trans k5,e6.trans U⟩,λ c s=>Zi6 h0 (by omega) s,λ j=>Zl7 m i v j⟩;rw[Zi5 h0 (by omega)];exact Zl8 hI T h0 (λ s=>by have:=C i s;omega) v
  have s0:t.Ok/\(t.mem.length:Int)=a+4+2*b/\I.In t.mem/\t.state=0/\t.out=[]/\t.steps=0:=⟨M,by omega,a2,by rw[l];rfl,by rw[l];rfl,by rw[l];rfl⟩
  obtain⟨s1,v1,r1⟩:=q t 1 (2*b) s0 (by decide) (by decide) (by omega) (by omega);obtain⟨s2,v2,r2⟩:=q _ 2 L0.length s1 (by decide) (by decide) (by omega) (by omega);obtain⟨s3,v3,r3⟩:=q _ 3 (L0.length+b) s2 (by decide) (by decide) (by omega) (by omega);obtain⟨s4,v4,r4⟩:=q _ 4 b s3 (by decide) (by decide) (by omega) (by omega);obtain⟨s5,v5,r5⟩:=q _ 5 38 s4 (by decide) (by decide) (by omega) (by omega);obtain⟨m5,J⟩:=Yx (((((t.putV 1 (2*b)).putV 2 L0.length).putV 3 (L0.length+b)).putV 4 b).putV 5 38);rw[<- J] at s5 v5 r5;obtain⟨R,k2,T,k4,k5,U⟩:=s5;have hM:aj L0 b=m5.setV 28 1056:=by
   rw[J,l];rfl
  have o:m5.setV 28 1056={ m5 with reg:=m5.reg.set (28:Int).toNat 1056 }:=Zi7 (by decide) (by decide);have D:∀j,m5.rd j=0:=λ j=>by rw[r5,r4,r3,r2,r1,H]
  have g:∀c,0<=c->m5.mv c=if c=5 then 38 else if c=4 then b else if c=3 then L0.length+b else if c=2 then(L0.length:Int) else if c=1 then 2*b else t.mv c:=λ c s=>by
   rw[v5 c s,v4 c s,v3 c s,v2 c s,v1 c s]
  have k:∀c,(m5.setV 28 1056).mv c=m5.mv c:=λ c=>Zvf (by decide) (by decide)
  have E:(m5.setV 28 1056).Ok:=by
   unfold S.Mach.setV;rw[if_pos ⟨by omega,by omega⟩];exact Zka R (by omega) ⟨by decide,by decide⟩
  rw[A] at T;refine⟨d,f,by rw[<- u];exact z,by omega,by rw[<- u];exact B,?_,?_,?_,?_,?_,?_,?_,?_,?_,?_,?_,?_,?_,?_⟩
  all_goals rw[e0,hM]
  .exact E
  .rw[o];exact k4
  .rw[o];exact k2
  .rw[o];exact T
  .intro j
   rw[Zve R (by decide) (by decide),D]
  .rw[k,g 1 (by decide)];rfl
  .rw[k,g 2 (by decide)];show(L0.length:Int)=_;exact z
  .rw[k,g 3 (by decide)];show(L0.length:Int)+b=_;omega
  .rw[k,g 4 (by decide)];rfl
  .rw[k,g 5 (by decide)];rfl
  .intro c h0 h1
   obtain⟨n,rfl⟩:=Ya0 (show 0<=c from by omega);have h2:=K n (by omega) (by omega);rw[k,g n (by omega),if_neg (by omega),if_neg (by omega),if_neg (by omega),if_neg (by omega),if_neg (by omega),V n (Yg.1 h2).1,Ye,h2];rfl
  .intro c h0
   obtain⟨n,rfl⟩:=Ya0 (show 0<=c from by omega);rw[k,g n (by omega),if_neg (by omega),if_neg (by omega),if_neg (by omega),if_neg (by omega),if_neg (by omega)];exact Y n (by omega)
  .rw[o];exact k5
  .rw[o];exact U
 exact⟨rfl,F,a,a5,h2,by rw[h3];exact a6,by rw[h3];exact a3⟩
section
structure NBt (w:World)(lo p x y:Nat)(F:Nat->Prop)(Aw Ap:Option Addr)(NL cw cp:Nat)(P:List (ByteArray×Int))(m:S.Mach):Prop where
 box:w.heap[x]?=some (.cells #[.pointer (some ⟨p,0,none⟩)] 32 (0,0))
 img:w.heap[y]?=some (.cells #[.slice Aw NL cw,.slice Ap P.length cp] 35 (0,0))
 plc:ReadsP w w.heap.size Ap P
 plb:∀k o s,Ap=some ⟨k,o,s⟩->k<w.heap.size/\¬F k
 mach:∃vm vo A c inp rd,MAt w lo p vm vo A c inp rd m/\(∀k,Za0 p vm vo k->F k)/\(∀k o s,A=some ⟨k,o,s⟩->¬F k)
 nx:¬F x
 ny:¬F y
 lt:∀k,F k->lo<=k/\k<w.heap.size
section
variable {w w':World}{lo p x y:Nat}{F:Nat->Prop}{Aw Ap:Option Addr}{NL cw cp:Nat}{P:List (ByteArray×Int)}{m m':S.Mach}
theorem NBt.xlt (h:NBt w lo p x y F Aw Ap NL cw cp P m):x<w.heap.size:=(Yw.1 h.box).1
theorem NBt.ylt (h:NBt w lo p x y F Aw Ap NL cw cp P m):y<w.heap.size:=(Yw.1 h.img).1
theorem NBt.below (h:NBt w lo p x y F Aw Ap NL cw cp P m)(a:Below w.heap.size w w'):NBt w' lo p x y F Aw Ap NL cw cp P m:=by
 obtain⟨i,j,A,c,inp,rd,d,k2,g⟩:=h.mach;have f:=a.size;exact⟨(a.block x h.xlt).trans h.box,(a.block y h.ylt).trans h.img,h.plc.same f λ k o s e=>a.block k (h.plb k o s e).1,λ k o s e=>⟨by have:=(h.plb k o s e).1;omega,(h.plb k o s e).2⟩,⟨i,j,A,c,inp,rd,d.below a,k2,g⟩,h.nx,h.ny,λ k b=>⟨(h.lt k b).1,by have:=(h.lt k b).2;omega⟩⟩
theorem NBt.wrote (h:NBt w lo p x y F Aw Ap NL cw cp P m)(a:Only F w w')(hm:∃b f A c inp rd,MAt w' lo p b f A c inp rd m'/\(∀k,Za0 p b f k->F k)/\(∀k o s,A=some ⟨k,o,s⟩->¬F k)):NBt w' lo p x y F Aw Ap NL cw cp P m':=by
 have g:=a.size;exact⟨(a.block x h.xlt h.nx).trans h.box,(a.block y h.ylt h.ny).trans h.img,h.plc.same g λ k o s e=>a.block k (h.plb k o s e).1 (h.plb k o s e).2,λ k o s e=>⟨by have:=(h.plb k o s e).1;omega,(h.plb k o s e).2⟩,hm,h.nx,h.ny,λ k d=>⟨(h.lt k d).1,by have:=(h.lt k d).2;omega⟩⟩
theorem NBt.cells (h:NBt w lo p x y F Aw Ap NL cw cp P m):w.cell? ⟨x,0,none⟩=some (.pointer (some ⟨p,0,none⟩))/\w.cell? ⟨y,0,none⟩=some (.slice Aw NL cw)/\w.cell? ⟨y,1,none⟩=some (.slice Ap P.length cp) :=
 ⟨by rw[Yc h.box];rfl,by rw[Yc h.img];rfl,by rw[Yc h.img];rfl⟩
theorem NBt.lobelow (h:NBt w lo p x y F Aw Ap NL cw cp P m)(a:lo<=w.heap.size)(b:Only F w w'):Below lo w w':=b.below a λ k c=>(h.lt k c).1
theorem Zoa (i v:Int)(h:NBt w lo p x y F Aw Ap NL cw cp P m)(z:0<=v/\v<=4294967295):Calls prog 57 #[.int .i64 i,.int .i64 v,.pointer (some ⟨x,0,none⟩)] w λ e w'=>e=.returned (.tuple #[])/\NBt w' lo p x y F Aw Ap NL cw cp P (m.putV i v)/\Only F w w':=by
 obtain⟨a,b,A,c,inp,rd,j,k2,f⟩:=h.mach;obtain⟨e0,t,n⟩:=h.cells;have D:v%4294967296=v:=by omega
 have B:IntKind.u32.wrap v=v:=IntWalk.u32_in _ ⟨by omega,by omega⟩;have l:=Ya (show Calls prog 13 #[.pointer (some ⟨p,0,none⟩),.int .i64 i,.int .u32 v] w λ e w'=>∃r,e=.returned (.int .i64 r)/\MAt w' lo p a b A c inp rd (m.putV i v)/\Only (Za0 p a b) w w' from(Zrk i v j z).mono λ _ _ q=>⟨_,q⟩);have H:=Ya h;have g:=Ya k2;have s:=Ya f;clear h j k2 f t n;go_enter func57,ntmps57
 go_wp2_with fail
 refine l.out.mono ?_;rintro e w1 ⟨rv,rfl,h1,h2⟩;have d:Only F w w1:=h2.weaken λ k _ o=>g.out k o
 have u:=Ya (H.out.wrote d ⟨a,b,A,c,inp,rd,h1,g.out,s.out⟩);have C:=Ya d;clear h1 h2 d;go_wp2_with fail
 exact bodyPost_end (v:=.tuple #[]) (by simp[results,results57,go_sem]) rfl ⟨rfl,u.out,C.out⟩
theorem Z5a (i v:Int)(h:NBt w lo p x y F Aw Ap NL cw cp P m)(g:0<=v/\v<=4294967295):Calls prog 12 #[.pointer (some ⟨p,0,none⟩),.int .i64 i,.int .u32 v] w λ e w'=>∃r,e=.returned (.int .i64 r)/\NBt w' lo p x y F Aw Ap NL cw cp P (m.setV i v)/\Only F w w':=by
 obtain⟨d,j,A,c,inp,rd,l,k2,b⟩:=h.mach;refine(Zrj i v l g).mono ?_;rintro e w' ⟨rfl,h1,h2⟩;have a:Only F w w':=h2.weaken λ k _ f=>k2 k (.inl f)
 exact⟨_,rfl,h.wrote a ⟨d,j,A,c,inp,rd,h1,k2,b⟩,a⟩
theorem Z65 (v:Int)(h:NBt w lo p x y F Aw Ap NL cw cp P m)(g:0<=v/\v<=4294967295):Calls prog 43 #[.pointer (some ⟨p,0,none⟩),.int .u32 v] w λ e w'=>∃r,e=.returned (.int .i64 r)/\NBt w' lo p x y F Aw Ap NL cw cp P (m.goV v)/\Only F w w':=by
 obtain⟨d,i,A,c,inp,rd,j,k2,b⟩:=h.mach;refine(Z29 v j g).mono ?_;rintro e w' ⟨rfl,h1,h2⟩;have a:Only F w w':=h2.weaken λ k _ f=>k2 k (.inl f)
 exact⟨_,rfl,h.wrote a ⟨d,i,A,c,inp,rd,h1,k2,b⟩,a⟩
theorem NBt.nat (h:NBt w lo p x y F Aw Ap NL cw cp P m)(d:lo<=w.heap.size)(first a after next:Int):NAt (w.alloc (.cells #[.pointer (some ⟨p,0,none⟩),.int .i64 first,.int .i64 a,.int .i64 after,.int .i64 next] 64)) lo w.heap.size p F first a after next m:=by
 have f:=(Yh w.heap.size w).alloc (Yb _) (.cells #[.pointer (some ⟨p,0,none⟩),.int .i64 first,.int .i64 a,.int .i64 after,.int .i64 next] 64);obtain⟨j,l,A,c,inp,rd,g,k2,i⟩:=h.mach;refine⟨heap_alloc_new w _,⟨j,l,A,c,inp,rd,g.below f,k2,λ k o s e=>⟨i k o s e,λ e2=>by have:=g.la k o s e;omega⟩⟩,d,λ b=>by have:=(h.lt _ b).2;omega,λ k b=>⟨(h.lt k b).1,by have:=(h.lt k b).2;have:=f.size;omega⟩⟩
theorem Z5b {B:Nat}{f:Value}{A:Option Addr}{c:Nat}{inp:List Int}(hm:MAt w B p f (.slice none 0 0) A c inp 0 m)(hA:∀k o s,A=some ⟨k,o,s⟩->B<=k)(g:lo<=B)(hy:y<B)(hi:w.heap[y]?=some (.cells #[.slice Aw NL cw,.slice Ap P.length cp] 35 (0,0)))(i:ReadsP w w.heap.size Ap P)(b:∀k o s,Ap=some ⟨k,o,s⟩->k<B) :
 NBt (w.alloc (.cells #[.pointer (some ⟨p,0,none⟩)] 32)) lo p w.heap.size y (Za0 p f (.slice none 0 0)) Aw Ap NL cw cp P m:=by
 have d:=(Yh w.heap.size w).alloc (Yb _) (.cells #[.pointer (some ⟨p,0,none⟩)] 32);have h:B<=w.heap.size:=Ym hm.low (Ya3 hm.lt);have j:=d.size;refine⟨heap_alloc_new w _,(d.block y (by omega)).trans hi,i.same j λ k o s e=>d.block k (by have:=b k o s e;omega),λ k o s e=>⟨by have:=b k o s e;omega,λ a=>by have:=(hm.foot_lt a).1;have:=b k o s e;omega⟩,⟨f,_,A,c,inp,0,(hm.base g).below d,λ _ a=>a,λ k o s e a=>?_⟩,λ a=>by have:=(hm.foot_lt a).2;omega,λ a=>by have:=(hm.foot_lt a).1;omega,λ k a=>⟨by have:=(hm.foot_lt a).1;omega,by have:=(hm.foot_lt a).2;omega⟩⟩;obtain⟨d1,d2,d3⟩:=hm.d1 k o s e;rcases a with a|a|a
 .exact d1 a
 .exact d2 a
 .exact d3 a
end
end
