/- Parts. -/
import Derived.Test.YtldbnjajjfgipaaGreatDoorZR5B
set_option linter.all false
set_option maxHeartbeats 4000000
open Go.Lib renaming hid->Ya,cell_of_heap->Yc
open Nat renaming le_refl->Yb,le_trans->Ym,lt_of_lt_of_le->Y3,zero_le->Yae,lt_succ_self->Yaw,le_of_lt->Ya3,add_zero->Ybh,le_succ->Ycm
open List renaming length_append->Yd,getD_eq_getElem?_getD->Ye,getElem?_eq_getElem->Yf,length_cons->Yj,getElem?_append_left->Yn,getElem?_append_right->Yo,length_take->Yr,mem_cons->Yz,getElem?_map->Y9,length_map->Yaa,drop_zero->Yak,take_length->Yam,map_append->Yay,take_add_one->Ya8,getElem_mem->Ybd
open Go.RowKit.Below renaming refl->Yh
open Go.IntWalk renaming i64_in->Yi,u32_in->Ya7
open Go.Value renaming int->Ys,oneCell'->Y1
open Array renaming getElem?_eq_some_iff->Yw
open Go.World renaming ownsRow_nil->Yaf,ownsRow_lit->Ybt
open Int renaming eq_ofNat_of_zero_le->Ya0
namespace Go.Proofs.YtldbnjajjfgipaaGreatDoor
open S Go.Proofs.Tryz Go.RowKit
set_option maxRecDepth 100000
structure S.Tz (s:ByteArray)(p:Nat)(neg:Bool)(l:List Int):Prop where
 len:s.size=p+l.length
 pos:0<l.length
 dig:DgB 10 l
 at_:∀i (hi:i<s.size),p<=i->((s[i]'hi).toNat:Int)=48+l.getD (s.size-1-i) 0
 sgn:(p=0/\neg=false)\/(p=1/\neg=true/\∀h:0<s.size,((s[0]'h).toNat:Int)=45)
def S.tz (neg:Bool)(l:List Int):Int:=if neg=true then -dvB 10 l else dvB 10 l
theorem Ints.set {w:World}{B:Nat}{A:Option Addr}{xs:List Int}(h:Ints w B A xs){g o:Nat}(c:∀b off,A=some ⟨b,off,none⟩->b≠g)(v:Value):Ints (w.setCell ⟨g,o,none⟩ v) B A xs:=λ hp=>by
 obtain⟨b,off,e,d,f⟩:=h hp;exact⟨b,off,e,d,λ i x j=>(World.cell?_of_block (a:=⟨b,off+i,none⟩) (heap_setCell_other w ⟨g,o,none⟩ b v (c b off e))).trans (f i x j)⟩
theorem Zds {w:World}{base:Nat}{e:TypeId}{size n c:Nat}{A:Option Addr}{xs:List Value}(h:w.ownsRow base e size (.slice A n c) n xs):n<=c:=by
 rcases h.2 with⟨_,h1⟩|⟨g,cap,d,f,_,_,a,_⟩
 .omega
 .cases f
  exact a
theorem Zmf {neg:Bool}{l:List Int}{m:Nat}(a:DgB 10 l)(h:Top l m):Nz (neg && decide (0<m)) (l.take m) (tz neg l):=by
 have h1:=Zlj a h;have h2:=Zap (show(0:Int)<=10 by decide) a;have d:(l.take m).length=m:=by rw[Yr];have:=h.1;omega
 cases neg with
 | false =>
  have e:tz false l=dvB 10 l:=if_neg (by decide);rw[e];refine⟨?_,?_⟩
  .rw[if_neg (by omega)];exact h1
  .rw[Bool.false_and,decide_eq_false (show ¬dvB 10 l<0 by omega)]
 | true =>
  have e:tz true l=-dvB 10 l:=if_pos rfl;rw[e];by_cases c:m=0
  .have h0:dvB 10 l=0:=Zx3 h1 (by rw[d];exact c)
   rw[h0] at h1⊢;subst c;exact⟨h1,rfl⟩
  .have h0:1<=dvB 10 l:=Zx2 (by decide) h1 (by omega)
   refine⟨?_,?_⟩
   .rw[if_pos (by omega),Int.neg_neg];exact h1
   .rw[decide_eq_true (show 0<m by omega),decide_eq_true (show -dvB 10 l<0 by omega)];rfl
theorem Zqc (s:ByteArray)(p:Nat)(neg:Bool)(l:List Int)(x:Tz s p neg l)(hs:s.size<=1000000)(w:World) :
 Calls prog 74 #[.string s] w λ e w'=>∃(neg':Bool)(A:Option Addr)(m c:Nat)(l':List Int),e=.returned (.tuple #[Zx neg' A m c,.int .i64 0])/\NumW w' w'.heap.size (tz neg l) neg' A m c l'/\Below w.heap.size w w':=by
 have Q:=x.pos;have P:=x.len;rcases x.sgn with⟨rfl,rfl⟩|⟨rfl,rfl,q3⟩
 .have h0:0<s.size:=by omega
  have V:=Ya (show Tz s 0 false l from x);have M:s.size=0+l.length:=x.len;have C:=Ya M;have a4:=Ya x.pos;have X:=x.pos;have n0:((s.size:Int)==0)=false:=beq_eq_false_iff_ne.2 (by omega);have n1:((s.size:Int)==0)=false:=beq_eq_false_iff_ne.2 (by omega);have d0:decide ((0:Int)<s.size)=true:=decide_eq_true (by omega);have d1:decide (0<s.size)=true:=decide_eq_true (by omega);have b5:IntKind.i64.wrap ((s.size:Int)-1)=(s.size:Int)-1:=by rw[Yi _ (by omega)]
  have hc:=x.at_ 0 h0 (by omega);have H:=Zb8 (by decide) x.dig (s.size-1-0);have b0:(((s[0]'h0).toNat:Int)==45)=false:=by rw[hc];exact beq_eq_false_iff_ne.2 (by omega)
  have b6:(((s[0]'h0).toNat:Int)==43)=false:=by rw[hc];exact beq_eq_false_iff_ne.2 (by omega)
  clear hc H P Q;have a6:(0:Int)<s.size:=by omega
  clear x M X;go_enter func74,ntmps74
  go_wp2_with fail
  go_loopw [6,7] (λ v6 R wr=>∃(k:Int)(r:Option Addr)(q c2:Nat),0-1<=k/\k<s.size/\R=.int .i64 k/\v6=.slice r q c2/\Hid ((q:Int)=s.size-1-k)/\Hid (wr.ownsRow (w.heap.size+1) 3 1 (.slice r q c2) q ((l.take q).map (Ys .i64)))/\Hid (Below w.heap.size w wr)/\wr.heap[w.heap.size]?=some (.cells #[.bool false,.slice none 0 0] 56 (0,0))) (λ _ R _=>(intOf R+1).toNat)
  case atStart =>
   exact⟨(s.size:Int)-1,none,0,0,by omega,by omega,rfl,rfl,Ya (by omega),Ya (Yaf _ _ _ _),Ya ((Yh _ _).alloc (Yb _) _),heap_alloc_new w _⟩
  case round =>
   obtain⟨k,r,q,c2,a5,b4,rfl,rfl,T,f,j,n⟩:=hrel;have G:w.heap.size+1<=wr.heap.size:=(Yw.1 n).1;by_cases c0:0<=k
   .obtain⟨i,rfl⟩:=Ya0 (show 0<=k by omega)
    have hi:i<s.size:=by omega
    have z:=V.out.at_ i hi (by omega);have Y:=T.out;have J:s.size-1-i=q:=by omega
    rw[J] at z;have H:=Zb8 (by decide) V.out.dig q;obtain⟨d,O⟩:=Yx (l.getD q 0);rw[<- O] at z H;have Hd:=Ya O;have g:q<l.length:=by have:=C.out;omega
    have a2:=Ya (show l.take (q+1)=l.take q++[d] by rw[Ya8,Yf g,O,Ye,Yf g];rfl);have e2:IntKind.i64.wrap ((i:Int)-1)=(i:Int)-1:=by rw[Yi _ (by omega)]
    have e3:IntKind.u8.wrap (48+d-48)=d:=by rw[IntWalk.u8_in _ (by omega)];omega
    have b1:decide (48+d<48)=false:=decide_eq_false (by omega);have b2:decide (57<48+d)=false:=decide_eq_false (by omega);have b3:decide (48+d>57)=false:=decide_eq_false (by omega);have i3:(i:Int)<(s.size:Int):=by omega
    have hz:=j.out.size;have D:q<=1000000:=by omega
    clear O Y J g;generalize hch:((s[i]'hi).toNat:Int)=ch at *;subst z;go_wp2_with (at_builtin;refine Zm rfl (.tmp 51) (.tmp 57) _ rfl (w.heap.size+1) 3 Zbb underlying54 rfl (by decide) #[.int .i64 d] _ _ _ rfl f.out rfl rfl rfl (by simp[Y1]) (by simp only[maxLen];omega) (by omega) G ?_;intro v' w7 L a7 K a3;obtain⟨A8,c8,rfl⟩:=Zc L)
    go_roundw
    case rel=>exact⟨(i:Int)-1,A8,q+1,c8,by omega,by omega,by go_num,rfl,Ya (by have:=T.out;omega),Ya (by rw[a2.out,Yay];exact L),Ya (j.out.trans (K.mono (Ycm _))),(K.block w.heap.size (Yaw _)).trans n⟩
    case measure=>simp[intOf] <;> omega
   .have ek:k=0-1:=by omega
    have g:q=l.length:=by have:=T.out;have:=C.out;omega
    have N:=Ya g;have D:q<=1000000:=by have:=C.out;omega
    have HI:=Ya (show Ints wr wr.heap.size r l from by
     have h:=Ints.of_own f.out;rw[g,Yam] at h;exact h)
    have u:=Ya (Zbt f.out);have t:=Ya (Zds f.out);subst ek;clear g;go_wp2_with fail
    refine(Zsd false r q c2 l N.out wr wr.heap.size HI.out (Yb _) D u.out t.out).mono ?_;rintro e y ⟨m,hm,rfl,o⟩;have W:=Ya hm;have I:=Ya o;have Z:=o.size;have a:=(o.block w.heap.size G).trans n;have a1:y.cell? ⟨w.heap.size,0,none⟩=some (.bool false):=by rw[Yc a];rfl
    have a0:y.cell? ⟨w.heap.size,1,none⟩=some (.slice none 0 0):=by rw[Yc a];rfl
    have a9:y.frozen? ⟨w.heap.size,0,none⟩=false:=frozen_of_row y w.heap.size 0 _ _ a;have a8:y.frozen? ⟨w.heap.size,1,none⟩=false:=frozen_of_row y w.heap.size 1 _ _ a;clear hm o;unfold Zx;go_wp2_with fail
    have E:∀b off,r=some ⟨b,off,none⟩->b≠w.heap.size:=λ b off e=>by
     subst e;have:=(f.out.lt b rfl).1;omega
    refine bodyPost_ret (v:=.tuple #[Zx (false && decide (0<m)) r m c2,.int .i64 0]) (by simp[results,results74,go_sem,Zx,a1,a0]) rfl ?_;have U:(l.take m).length=m:=by rw[Yr];have:=W.out.1;omega
    have B:=W.out.1;refine⟨_,r,m,c2,l.take m,rfl,⟨Zmf V.out.dig W.out,U.symm,by rw[<- N.out] at B;omega,?_,λ e=>by have:=u.out e;rw[<- N.out] at B;omega,by have:=t.out;rw[<- N.out] at B;omega⟩,?_⟩
    .exact((((HI.out.take_ m).below I.out).set E _).set E _).more (Ym Z (((Yh 0 y).setCell (Yae _) _).setCell (Yae _) _).size)
    .exact((j.out.trans (I.out.mono j.out.size)).setCell (Yb _) _).setCell (Yb _) _
 .have h0:0<s.size:=by omega
  have V:=Ya (show Tz s 1 true l from x);have M:s.size=1+l.length:=x.len;have C:=Ya M;have a4:=Ya x.pos;have X:=x.pos;have n0:((s.size:Int)==0)=false:=beq_eq_false_iff_ne.2 (by omega);have n1:((s.size:Int)==1)=false:=beq_eq_false_iff_ne.2 (by omega);have d0:decide ((0:Int)<s.size)=true:=decide_eq_true (by omega);have d1:decide (0<s.size)=true:=decide_eq_true (by omega);have b5:IntKind.i64.wrap ((s.size:Int)-1)=(s.size:Int)-1:=by rw[Yi _ (by omega)]
  have b0:(((s[0]'h0).toNat:Int)==45)=true:=by rw[q3 h0];rfl
  clear q3 P Q;have a6:(1:Int)<s.size:=by omega
  clear x M X;go_enter func74,ntmps74
  go_wp2_with fail
  go_loopw [6,7] (λ v6 R wr=>∃(k:Int)(r:Option Addr)(q c2:Nat),1-1<=k/\k<s.size/\R=.int .i64 k/\v6=.slice r q c2/\Hid ((q:Int)=s.size-1-k)/\Hid (wr.ownsRow (w.heap.size+1) 3 1 (.slice r q c2) q ((l.take q).map (Ys .i64)))/\Hid (Below w.heap.size w wr)/\wr.heap[w.heap.size]?=some (.cells #[.bool false,.slice none 0 0] 56 (0,0))) (λ _ R _=>(intOf R+1).toNat)
  case atStart =>
   exact⟨(s.size:Int)-1,none,0,0,by omega,by omega,rfl,rfl,Ya (by omega),Ya (Yaf _ _ _ _),Ya ((Yh _ _).alloc (Yb _) _),heap_alloc_new w _⟩
  case round =>
   obtain⟨k,r,q,c2,a5,b4,rfl,rfl,T,f,j,n⟩:=hrel;have G:w.heap.size+1<=wr.heap.size:=(Yw.1 n).1;by_cases c0:1<=k
   .obtain⟨i,rfl⟩:=Ya0 (show 0<=k by omega)
    have hi:i<s.size:=by omega
    have z:=V.out.at_ i hi (by omega);have Y:=T.out;have J:s.size-1-i=q:=by omega
    rw[J] at z;have H:=Zb8 (by decide) V.out.dig q;obtain⟨d,O⟩:=Yx (l.getD q 0);rw[<- O] at z H;have Hd:=Ya O;have g:q<l.length:=by have:=C.out;omega
    have a2:=Ya (show l.take (q+1)=l.take q++[d] by rw[Ya8,Yf g,O,Ye,Yf g];rfl);have e2:IntKind.i64.wrap ((i:Int)-1)=(i:Int)-1:=by rw[Yi _ (by omega)]
    have e3:IntKind.u8.wrap (48+d-48)=d:=by rw[IntWalk.u8_in _ (by omega)];omega
    have b1:decide (48+d<48)=false:=decide_eq_false (by omega);have b2:decide (57<48+d)=false:=decide_eq_false (by omega);have b3:decide (48+d>57)=false:=decide_eq_false (by omega);have i3:(i:Int)<(s.size:Int):=by omega
    have hz:=j.out.size;have D:q<=1000000:=by omega
    clear O Y J g;generalize hch:((s[i]'hi).toNat:Int)=ch at *;subst z;go_wp2_with (at_builtin;refine Zm rfl (.tmp 51) (.tmp 57) _ rfl (w.heap.size+1) 3 Zbb underlying54 rfl (by decide) #[.int .i64 d] _ _ _ rfl f.out rfl rfl rfl (by simp[Y1]) (by simp only[maxLen];omega) (by omega) G ?_;intro v' w7 L a7 K a3;obtain⟨A8,c8,rfl⟩:=Zc L)
    go_roundw
    case rel=>exact⟨(i:Int)-1,A8,q+1,c8,by omega,by omega,by go_num,rfl,Ya (by have:=T.out;omega),Ya (by rw[a2.out,Yay];exact L),Ya (j.out.trans (K.mono (Ycm _))),(K.block w.heap.size (Yaw _)).trans n⟩
    case measure=>simp[intOf] <;> omega
   .have ek:k=1-1:=by omega
    have g:q=l.length:=by have:=T.out;have:=C.out;omega
    have N:=Ya g;have D:q<=1000000:=by have:=C.out;omega
    have HI:=Ya (show Ints wr wr.heap.size r l from by
     have h:=Ints.of_own f.out;rw[g,Yam] at h;exact h)
    have u:=Ya (Zbt f.out);have t:=Ya (Zds f.out);subst ek;clear g;go_wp2_with fail
    refine(Zsd true r q c2 l N.out wr wr.heap.size HI.out (Yb _) D u.out t.out).mono ?_;rintro e y ⟨m,hm,rfl,o⟩;have W:=Ya hm;have I:=Ya o;have Z:=o.size;have a:=(o.block w.heap.size G).trans n;have a1:y.cell? ⟨w.heap.size,0,none⟩=some (.bool false):=by rw[Yc a];rfl
    have a0:y.cell? ⟨w.heap.size,1,none⟩=some (.slice none 0 0):=by rw[Yc a];rfl
    have a9:y.frozen? ⟨w.heap.size,0,none⟩=false:=frozen_of_row y w.heap.size 0 _ _ a;have a8:y.frozen? ⟨w.heap.size,1,none⟩=false:=frozen_of_row y w.heap.size 1 _ _ a;clear hm o;unfold Zx;go_wp2_with fail
    have E:∀b off,r=some ⟨b,off,none⟩->b≠w.heap.size:=λ b off e=>by
     subst e;have:=(f.out.lt b rfl).1;omega
    refine bodyPost_ret (v:=.tuple #[Zx (true && decide (0<m)) r m c2,.int .i64 0]) (by simp[results,results74,go_sem,Zx,a1,a0]) rfl ?_;have U:(l.take m).length=m:=by rw[Yr];have:=W.out.1;omega
    have B:=W.out.1;refine⟨_,r,m,c2,l.take m,rfl,⟨Zmf V.out.dig W.out,U.symm,by rw[<- N.out] at B;omega,?_,λ e=>by have:=u.out e;rw[<- N.out] at B;omega,by have:=t.out;rw[<- N.out] at B;omega⟩,?_⟩
    .exact((((HI.out.take_ m).below I.out).set E _).set E _).more (Ym Z (((Yh 0 y).setCell (Yae _) _).setCell (Yae _) _).size)
    .exact((j.out.trans (I.out.mono j.out.size)).setCell (Yb _) _).setCell (Yb _) _
theorem Zqd {b:Int}(hb:1<=b){l:List Int}(f:DgB b l)(q:Nat):0<=dvB b (l.drop q)/\dvB b (l.drop q)<=dvB b l:=by
 have h1:=Zap (show 0<=b by omega) (l:=l.drop q) λ d a=>f d (List.mem_of_mem_drop a)
 refine⟨h1,?_⟩;by_cases c:q<=l.length
 .have e:dvB b l=dvB b (l.take q++l.drop q):=by rw[List.take_append_drop]
  rw[Zm2] at e;have h2:=Zap (show 0<=b by omega) (Zm3 f q);have h3:(0:Int)<b^(l.take q).length:=Int.pow_pos (by omega);have h4:=Int.mul_le_mul_of_nonneg_right (show 1<=b^(l.take q).length by omega) h1;omega
 .rw[List.drop_eq_nil_of_le (by omega)]
  exact Zap (by omega) f
theorem Z23 (neg:Bool)(A:Option Addr)(N c:Nat)(l:List Int)(z:Int)(w:World)(B:Nat)(hB:B<=w.heap.size)(h:NumW w B z neg A N c l)(hz:-1000000000000000000<=z/\z<=1000000000000000000) :
 Calls prog 66 #[Zx neg A N c] w λ e w'=>e=.returned (.int .i64 z)/\Below w.heap.size w w':=by
 have H:=Ya h;obtain⟨⟨o,O⟩,Q,hf,y,_,_⟩:=h;have P:=Ya Q;have W:=Ya o;have V:=Ya O;have L:(if z<0 then -z else z)<=1000000000000000000:=by split <;> omega
 obtain⟨n,j⟩:∃n,n=(if z<0 then -z else z):=⟨_,rfl⟩
 rw[<- j] at L;have R:=Ya j;have a:=λ q=>Zqd (show(1:Int)<=10 by decide) o.1 q
 have g:=Ya a;have E:=Ya (show dvB 10 l=n by rw[o.2.2,j]);clear o O Q y j a;have a5:IntKind.i64.wrap ((N:Int)-1)=(N:Int)-1:=by rw[Yi _ (by omega)]
 unfold Zx;go_enter func66,ntmps66
 go_wp2_with fail
 go_loopw [3,4] (λ X K wr=>∃k v:Int,-1<=k/\k<N/\K=.int .i64 k/\X=.int .i64 v/\Hid (v=dvB 10 (l.drop (k+1).toNat))/\∃q,wr=(w.alloc (.cells #[.bool neg,.slice A N c] 56)).drewN q) (λ _ K _=>(intOf K+1).toNat)
 case atStart =>
  refine⟨(N:Int)-1,0,by omega,by omega,rfl,rfl,Ya ?_,0,rfl⟩;rw[show((N:Int)-1+1).toNat=N by omega,List.drop_eq_nil_of_le (by rw[<- P.out];exact Yb _)];rfl
 case round =>
  obtain⟨k,v,Z,a3,rfl,rfl,T,q0,rfl⟩:=hrel;by_cases c0:0<=k
  .obtain⟨q,rfl⟩:=Ya0 c0
   have hq:q<N:=by omega
   obtain⟨b,off,I,C,d⟩:=H.out.at_.at_ (k:=q) (by rw[<- P.out];exact hq);obtain⟨u,r⟩:∃x,x=l.getD q 0:=⟨_,rfl⟩
   rw[<- r] at d;have Hu:=Ya r;have s:=Zb8 (by decide) W.out.1 q;rw[<- r] at s;have D:=g.out q;have J:=g.out (q+1);have G:=Ze8 (b:=10) l q;have i:=T.out;rw[show((q:Int)+1).toNat=q+1 by omega] at i;have M:=Ya (show 10*v+u=dvB 10 (l.drop q) by omega);have a1:0<=10*v+u/\10*v+u<=1000000000000000000:=by have:=E.out;omega
   have a2:0<=v:=by omega
   have e2:IntKind.i64.wrap ((q:Int)-1)=(q:Int)-1:=by rw[Yi _ (by omega)]
   have e3:IntKind.i64.wrap (q:Int)=(q:Int):=by rw[Yi _ (by omega)]
   have i3:(q:Int)<(N:Int):=by omega
   have i4:(0:Int)<=(q:Int):=by omega
   have Y:IntKind.i64.wrap (10*v)=10*v:=by rw[Yi _ (by omega)]
   have e5:IntKind.i64.wrap (10*v+u)=10*v+u:=by rw[Yi _ (by omega)]
   have a0:(w.alloc (.cells #[.bool neg,.slice A N c] 56)).cell? ⟨b,off+q,none⟩=some (.int .i64 u):=(((Yh B w).alloc hB _).cell (p:=⟨b,off+q,none⟩) C).trans d;have a4:b<w.heap.size:=by omega
   subst I;clear r D J G i;go_wp2_with fail
   go_roundw
   case rel =>
    refine⟨(q:Int)-1,10*v+u,by omega,by omega,by go_num,rfl,Ya ?_,_,rfl⟩;rw[M.out,show((q:Int)-1+1).toNat=q by omega]
   case measure=>simp[intOf] <;> omega
  .have ek:k=-1:=by omega
   subst ek;have f:v=n:=by
    have:=T.out;rw[show((-1:Int)+1).toNat=0 by decide,Yak,E.out] at this;exact this
   have Y:IntKind.i64.wrap (-v)=-v:=by rw[Yi _ (by have:=(Zap (show(0:Int)<=10 by decide) W.out.1);have:=E.out;omega)]
   have U:=Ya f;clear f
   cases neg with
   | false =>
    have t:=Ya (show v=z by rw[U.out,R.out,if_neg (of_decide_eq_false V.out.symm)]);go_wp2_with fail
    go_ret
    exact⟨by rw[<- t.out];rfl,by repeat (first|exact(Yh _ _).alloc (Yb _) _|refine below_drewN ?_ _)⟩
   | true =>
    have t:=Ya (show -v=z by rw[U.out,R.out,if_pos (of_decide_eq_true V.out.symm),Int.neg_neg]);go_wp2_with fail
    go_ret
    exact⟨by rw[<- t.out];rfl,by repeat (first|exact(Yh _ _).alloc (Yb _) _|refine below_drewN ?_ _)⟩
theorem Zzm (U W:ByteArray)(p1 p2:Nat)(n1 n2:Bool)(q k2:List Int)(K:Tz U p1 n1 q)(Q:Tz W p2 n2 k2)(Y:U.size<=1000000)(Z:W.size<=1000000)(neg:Bool)(A:Option Addr)(N c:Nat)(l:List Int)(z:Int)(w:World)(B:Nat)(hB:B<=w.heap.size)(h:NumW w B z neg A N c l) :
 Calls prog 65 #[Zx neg A N c,.string U,.string W] w λ e w'=>e=.returned (.bool (decide (tz n1 q<=z) && decide (z<=tz n2 k2)))/\Below w.heap.size w w':=by
 have H:=Ya h;have H1:=Ya K;have H2:=Ya Q;clear h K Q;unfold Zx;go_enter func65,ntmps65
 go_wp2_with fail
 refine(Zqc U p1 n1 q H1.out Y _).mono ?_;rintro e w1 ⟨j,X,m1,c1,l1,rfl,I,s⟩;have a0:=Ya I;have P:=(Yh w.heap.size w).alloc (Yb _) (.cells #[.bool neg,.slice A N c] 56);have k:w.heap.size<(w.alloc (.cells #[.bool neg,.slice A N c] 56)).heap.size:=by simp
 have a5:=Ya (P.trans (s.mono (Ya3 k)));have C:=(s.block w.heap.size k).trans (heap_alloc_new w _);have M:w.heap.size<w1.heap.size:=Y3 k s.size;clear I s;unfold Zx;go_wp2_with fail
 refine(Zqc W p2 n2 k2 H2.out Z _).mono ?_;rintro e n ⟨g,V,m2,c2,l2,rfl,R,t⟩;have a7:=Ya R;have G:=(Yh w1.heap.size w1).alloc (Yb _) (.cells #[.bool j,.slice X m1 c1] 56);have f:w1.heap.size<(w1.alloc (.cells #[.bool j,.slice X m1 c1] 56)).heap.size:=by simp
 have i:=Ya (G.trans (t.mono (Ya3 f)));have y:=(t.block w1.heap.size f).trans (heap_alloc_new w1 _);have o:=(i.out.block w.heap.size M).trans C;have x:w1.heap.size<n.heap.size:=Y3 f t.size;have E:n.cell? ⟨w.heap.size,0,none⟩=some (.bool neg):=by rw[Yc o];rfl
 have J:n.cell? ⟨w.heap.size,1,none⟩=some (.slice A N c):=by rw[Yc o];rfl
 have a3:n.cell? ⟨w1.heap.size,0,none⟩=some (.bool j):=by rw[Yc y];rfl
 have a1:n.cell? ⟨w1.heap.size,1,none⟩=some (.slice X m1 c1):=by rw[Yc y];rfl
 have L:w.heap.size<n.heap.size:=by omega
 have d:=(Yh n.heap.size n).alloc (Yb _) (.cells #[.bool g,.slice V m2 c2] 56);have O:=Ya d;have u:=Ya (a5.out.trans ((i.out.trans (d.mono (Ya3 x))).mono (Ya3 M)));have K0:=Ya ((H.out.below (u.out.mono hB)).more (Ym hB u.out.size));have K1:=Ya ((a0.out.below (i.out.trans (d.mono (Ya3 x)))).more (i.out.trans (d.mono (Ya3 x))).size);have K2:=Ya ((a7.out.below d).more d.size);clear R t G C o y f k P d;unfold Zx;go_wp2_with fail
 refine(Ztw neg j A X N c m1 c1 l l1 z _ _ _ (Yb _) K0.out K1.out).mono ?_;rintro e w4 ⟨rfl,a⟩;have v:=(a.block n.heap.size (by simp)).trans (heap_alloc_new n (.cells #[.bool g,.slice V m2 c2] 56));have a8:=(a.cell (p:=⟨w.heap.size,0,none⟩) (by show w.heap.size<_;simp;omega)).trans ((O.out.cell (p:=⟨w.heap.size,0,none⟩) L).trans E);have C:=(a.cell (p:=⟨w.heap.size,1,none⟩) (by show w.heap.size<_;simp;omega)).trans ((O.out.cell (p:=⟨w.heap.size,1,none⟩) L).trans J);have s0:w4.cell? ⟨n.heap.size,0,none⟩=some (.bool g):=by rw[Yc v];rfl
 have U:w4.cell? ⟨n.heap.size,1,none⟩=some (.slice V m2 c2):=by rw[Yc v];rfl
 have D:=Ya (Zcc u.out a u.out.size);have a4:=Ya ((K0.out.below a).more a.size);have a2:=Ya ((K2.out.below a).more a.size);clear v E J a3 a1 a;by_cases r:tz n1 q<=z
 .have d1:decide (ab z (tz n1 q)>=0)=true:=by
   unfold ab
   split
   .omega
   .split <;> simp
  have D1:=Ya (show decide (tz n1 q<=z)=true from decide_eq_true r);clear r;generalize ab z (tz n1 q)=o1 at *;go_wp2_with fail
  refine(Ztw neg g A V N c m2 c2 l l2 z _ _ _ (Yb _) a4.out a2.out).mono ?_;rintro e w5 ⟨rfl,T⟩;have a6:=Ya (Zcc D.out T D.out.size);have d2:decide (ab z (tz n2 k2)<=0)=decide (z<=tz n2 k2):=by
   unfold ab
   split
   .simp;omega
   .split
    .simp;omega
    .simp;omega
  have D2:=Ya d2;clear T d2;generalize ab z (tz n2 k2)=o2 at *;go_wp2_with fail
  go_ret
  refine⟨?_,a6.out⟩;rw[D1.out,<- D2.out];rfl
 .have d1:decide (ab z (tz n1 q)>=0)=false:=by
   unfold ab;rw[if_pos (by omega)];rfl
  have D1:=Ya (show decide (tz n1 q<=z)=false from decide_eq_false r);clear r;generalize ab z (tz n1 q)=o1 at *;go_wp2_with fail
  go_ret
  refine⟨?_,D.out⟩;rw[D1.out];rfl
def S.b5:ByteArray:=⟨#[45,53,51,54,56,55,48,57,49,50]⟩
def S.ct:ByteArray:=⟨#[53,51,54,56,55,48,57,49,49]⟩
theorem tz_least:Tz b5 1 true [2,1,9,0,7,8,6,3,5]/\tz true [2,1,9,0,7,8,6,3,5]=-536870912:=by
 refine⟨⟨rfl,by decide,(λ d a=>by simp at a;rcases a with rfl|rfl|rfl|rfl|rfl|rfl|rfl|rfl|rfl <;> decide),λ i hi h=>?_,.inr ⟨rfl,rfl,λ h=>rfl⟩⟩,by decide⟩;have h2:i<10:=hi;have:i=1\/i=2\/i=3\/i=4\/i=5\/i=6\/i=7\/i=8\/i=9:=by omega
 rcases this with rfl|rfl|rfl|rfl|rfl|rfl|rfl|rfl|rfl <;> rfl
theorem tz_most:Tz ct 0 false [1,1,9,0,7,8,6,3,5]/\tz false [1,1,9,0,7,8,6,3,5]=536870911:=by
 refine⟨⟨rfl,by decide,(λ d a=>by simp at a;rcases a with rfl|rfl|rfl|rfl|rfl|rfl|rfl|rfl <;> decide),λ i hi h=>?_,.inl ⟨rfl,rfl⟩⟩,by decide⟩;have h2:i<9:=hi;have:i=0\/i=1\/i=2\/i=3\/i=4\/i=5\/i=6\/i=7\/i=8:=by omega
 rcases this with rfl|rfl|rfl|rfl|rfl|rfl|rfl|rfl|rfl <;> rfl
theorem Zjc:(prog.info? 31).map (λ i=>(i.zero,i.size,i.bytes))=some (some (.int .u32 0),1,4):=by kernel_rfl
def Zf9 (z:Int)(w:World)(e:Ending)(w':World):Prop:=∃(A':Option Addr)(n c':Nat)(ws:List Int),e=.returned (.tuple #[.slice A' n c',.bool (decide (-536870912<=z) && decide (z<=536870911))])/\Wz z ws/\n=ws.length/\n<=1002/\Reads w' w'.heap.size A' (ws.map (Ys .u32))/\Below w.heap.size w w'/\∀k o s,A'=some ⟨k,o,s⟩->w.heap.size<=k
theorem Zvs (neg:Bool)(A:Option Addr)(N c:Nat)(l:List Int)(z:Int)(w:World)(B:Nat)(hB:B<=w.heap.size)(h:NumW w B z neg A N c l)(hz:(if z<0 then -z else z)<aw) :
 Calls prog 28 #[Zx neg A N c] w (Zf9 z w):=by
 have H:=Ya h;have Hz:=Ya hz;clear h hz;have a4:=λ w B hB h=>Zzm b5 ct 1 0 true false _ _ tz_least.1 tz_most.1 (by decide) (by decide) neg A N c l z w B hB h
 rw[tz_least.2,tz_most.2] at a4;have b9:=Ya a4;clear a4;have a6:=(Yh w.heap.size w).alloc (Yb _) (.cells #[.bool neg,.slice A N c] 56);have Y:w.heap.size<(w.alloc (.cells #[.bool neg,.slice A N c] 56)).heap.size:=by simp
 have Z:=heap_alloc_new w (.cells #[.bool neg,.slice A N c] 56);have c7:=Ya a6;have K0:=Ya (H.out.below (a6.mono hB));have C:=Ya Y;have c6:=Ya Z;clear a6 Y Z;unfold Zx;go_enter func28,ntmps28
 go_wp2_with fail
 refine(b9.out _ B (Ym hB (Ya3 C.out)) K0.out).mono ?_;rintro e w1 ⟨rfl,L⟩;have b8:=(L.block w.heap.size C.out).trans c6.out;have q0:w1.cell? ⟨w.heap.size,0,none⟩=some (.bool neg):=by rw[Yc b8];rfl
 have q1:w1.cell? ⟨w.heap.size,1,none⟩=some (.slice A N c):=by rw[Yc b8];rfl
 have K:=Ya (Zcc c7.out L (Ya3 C.out));have K1:=Ya (K0.out.below (L.mono (Ym hB (Ya3 C.out))));have b3:B<=w1.heap.size:=Ym hB K.out.size;have c1:w.heap.size<w1.heap.size:=Y3 C.out L.size;clear L;by_cases X:-536870912<=z/\z<=536870911
 .have dr:(decide (-536870912<=z) && decide (z<=536870911))=true:=by
   rw[decide_eq_true X.1,decide_eq_true X.2];rfl
  have e4:IntKind.i64.wrap (4*z)=4*z:=by rw[Yi _ (by omega)]
  have HR:=Ya X;have U:=Ya dr;rw[dr];clear dr X;go_wp2_with fail
  refine(Z23 neg A N c l z w1 B b3 K1.out (by have:=HR.out;omega)).mono ?_;rintro e a ⟨rfl,t⟩;have j:=Ya (Zcc K.out t K.out.size);have c4:=t.size;clear t;go_wp2_with fail
  refine bodyPost_ret (v:=.tuple #[.slice (some ⟨a.heap.size,0,none⟩) 1 1,.bool true]) (by simp[results,results28,go_sem]) rfl ?_;unfold Zf9;refine⟨some ⟨a.heap.size,0,none⟩,1,1,[u32m (4*z)],by rw[U.out],.inl ⟨by have:=HR.out;omega,by have:=HR.out;omega,rfl⟩,rfl,by decide,?_,j.out.alloc (j.out.size) _,λ k o s e=>by cases e;exact j.out.size⟩;have x:=Ybt (size:=1) (base:=a.heap.size) (e:=31) a #[.int .u32 (IntKind.u32.wrap (4*z))] 1 (Yb _) (by decide) rfl;have X:=Za8 x;have e:[u32m (4*z)].map (Ys .u32)=(#[Ys .u32 (IntKind.u32.wrap (4*z))]).toList:=by
   rw[IntKind.wrap_u32];rfl
  rw[e];exact X
 .have dr:(decide (-536870912<=z) && decide (z<=536870911))=false:=by
   by_cases c:-536870912<=z
   .rw[decide_eq_true c,decide_eq_false (show ¬z<=536870911 by omega)];rfl
   .rw[decide_eq_false c];rfl
  have HR:=Ya X;have U:=Ya dr;rw[dr];clear dr X;go_wp2_with fail
  refine(Zm4 neg A N c l _ K1.out.len w1 B b3 K1.out.at_ K1.out.few K1.out.z.1 Hz.out).mono ?_;rintro e a ⟨A2,k,c2,f,rfl,hk,d0,b2,x,t⟩;have W:=Ya b2;have T:=Ya hk;have j:=Ya (Zcc K.out t K.out.size);have c4:=t.size;have p0:a.cell? ⟨w.heap.size,0,none⟩=some (.bool neg):=(t.cell (p:=⟨w.heap.size,0,none⟩) c1).trans q0;have b7:=Ya (Za8 x);have I:=Ya K1.out.z.2;have c9:w.heap.size<a.heap.size:=by omega
  clear hk b2 t x;have sgn:∃sg:Int,sg=(if z<0 then 4 else 0):=⟨_,rfl⟩
  obtain⟨sg,b0⟩:=sgn;have a1:=Ya b0.symm;have hsgb:sg=0\/sg=4:=by rw[b0];split <;> omega
  clear b0;have f1:IntKind.i64.wrap ((k:Int)+1)=(k:Int)+1:=by rw[Yi _ (by omega)]
  have f2:IntKind.u32.wrap ((k:Int)+1)=(k:Int)+1:=by rw[Ya7 _ (by omega)]
  have f3:IntKind.u32.wrap (32*((k:Int)+1))=32*((k:Int)+1):=by rw[Ya7 _ (by omega)]
  have f4:IntKind.u32.wrap (32*((k:Int)+1)+31)=32*((k:Int)+1)+31:=by rw[Ya7 _ (by omega)]
  obtain⟨y,a0⟩:∃h:Int,h=32*((k:Int)+1)+31:=⟨_,rfl⟩
  have b4:=Ya a0;have f5:32*((k:Int)+1)+31=y:=a0.symm;clear a0;have q:∀(nb:Bool),neg=nb->sg=(if nb=true then 4 else 0):=λ nb h=>by
   rw[<- a1.out,<- h,I.out];by_cases c:z<0
   .rw[if_pos c,decide_eq_true c];rfl
   .rw[if_neg c,decide_eq_false c];rfl
  cases neg with
  | false =>
   have a2:sg=0:=q false rfl;subst a2;clear q hsgb I;go_wp2_with fail
   have Q:=(Yh a.heap.size a).alloc (Yb _) (.cells #[.int .u32 y,.int .u32 0] 31);have r:=Ybt (size:=1) (base:=a.heap.size) (e:=31) a #[.int .u32 y,.int .u32 0] 2 (Yb _) (by decide) rfl;have a5:=Ya Q;have M:=Ya r;clear Q r;go_loopw [6,7] (λ v6 v7 wr=>∃(i:Nat)(R:Option Addr)(c3:Nat),i<=k/\v7=.int .i64 i/\v6=.slice R (i+2:Nat) c3/\Hid (wr.ownsRow a.heap.size 31 1 (.slice R (i+2) c3) (i+2) ((y::0::(f.take i).map λ d=>4*d).map (Ys .u32)))/\Hid (Below a.heap.size a wr)) (λ _ v7 _=>k-(intOf v7).toNat)
   case atStart=>exact⟨0,some ⟨a.heap.size,0,none⟩,2,Yae _,rfl,rfl,M,a5⟩
   case round =>
    obtain⟨i,R,c3,hi,rfl,rfl,u,n⟩:=hrel;by_cases E:i<k
    .have hil:i<f.length:=by rw[<- T.out];exact E
     obtain⟨b,off,b1,a8,hc⟩:=b7.out (by rw[Yaa];omega);have O:=hc i (.int .u16 f[i]) (by rw[Y9,Yf hil];rfl);have D:=(n.out.cell (p:=⟨b,off+i,none⟩) a8).trans O;have a3:=W.out.1 f[i] (Ybd hil);have J:=Ya (show f.take (i+1)=f.take i++[f[i]] from by rw[Ya8,Yf hil];rfl);obtain⟨d,G⟩:=Yx f[i];rw[<- G] at D a3 J;have g1:IntKind.u32.wrap d=d:=by rw[Ya7 _ (by omega)]
     have g2:IntKind.u32.wrap (4*d)=4*d:=by rw[Ya7 _ (by omega)]
     have g3:IntKind.i64.wrap (i:Int)=(i:Int):=by rw[Yi _ (by omega)]
     have g4:IntKind.i64.wrap ((i:Int)+1)=(i:Int)+1:=by rw[Yi _ (by omega)]
     have d1:decide ((i:Int)<(k:Int))=true:=decide_eq_true (by omega);have i3:(i:Int)<(k:Int):=by omega
     have i4:(0:Int)<=(i:Int):=by omega
     have a7:=n.out.size;subst b1;clear hc O G;go_wp2_with (at_builtin;refine Zm rfl (.tmp 33) (.tmp 40) _ rfl a.heap.size 31 Zjc underlying28 rfl (by decide) #[.int .u32 (4*d)] _ _ _ rfl u.out rfl rfl rfl (by simp[Y1]) (by simp only[maxLen];omega) (by omega) a7 ?_;intro v' w7 P c0 a9 b6;obtain⟨A8,c8,rfl⟩:=Zc P)
     go_roundw
     case rel =>
      refine⟨i+1,A8,c8,E,by go_num,?_,Ya ?_,Ya (n.out.trans a9)⟩
      .first|rfl | (congr 1;omega)
      .have e:i+1+2=i+2+1:=by omega
       rw[J.out,e];have V:List.map (Ys .u32) (y::0::(List.map (λ d=>4*d) (List.take i f++[d])))=List.map (Ys .u32) (y::0::List.map (λ d=>4*d) (List.take i f))++#[Ys .u32 (4*d)].toList:=by simp
       rw[V];exact P
     case measure=>simp[intOf] <;> omega
    .have hie:i=k:=by omega
     subst hie;have c5:decide ((i:Int)<(i:Int))=false:=by simp
     go_wp2_with fail
     refine bodyPost_ret (v:=.tuple #[.slice R (i+2) c3,.bool false]) (by simp[results,results28,go_sem]) rfl ?_;have hR:=HR.out;have ho:=u.out;rw[T.out,Yam,<- T.out] at ho;unfold Zf9;refine⟨R,i+2,c3,y::0::f.map λ d=>4*d,by rw[U.out],.inr ⟨by omega,f,W.out,?_⟩,by simp[T.out],by omega,Za8 ho,j.out.trans (n.out.mono j.out.size),λ k o s e=>by
      obtain⟨g,V,h1,_⟩:=Z9 u.out (by omega);rw[e] at V
      cases V
      have:=j.out.size;omega⟩
     rw[a1.out,b4.out,T.out]
  | true =>
   have a2:sg=4:=q true rfl;subst a2;clear q hsgb I;go_wp2_with fail
   have Q:=(Yh a.heap.size a).alloc (Yb _) (.cells #[.int .u32 y,.int .u32 4] 31);have r:=Ybt (size:=1) (base:=a.heap.size) (e:=31) a #[.int .u32 y,.int .u32 4] 2 (Yb _) (by decide) rfl;have a5:=Ya Q;have M:=Ya r;clear Q r;go_loopw [6,7] (λ v6 v7 wr=>∃(i:Nat)(R:Option Addr)(c3:Nat),i<=k/\v7=.int .i64 i/\v6=.slice R (i+2:Nat) c3/\Hid (wr.ownsRow a.heap.size 31 1 (.slice R (i+2) c3) (i+2) ((y::4::(f.take i).map λ d=>4*d).map (Ys .u32)))/\Hid (Below a.heap.size a wr)) (λ _ v7 _=>k-(intOf v7).toNat)
   case atStart=>exact⟨0,some ⟨a.heap.size,0,none⟩,2,Yae _,rfl,rfl,M,a5⟩
   case round =>
    obtain⟨i,R,c3,hi,rfl,rfl,u,n⟩:=hrel;by_cases E:i<k
    .have hil:i<f.length:=by rw[<- T.out];exact E
     obtain⟨b,off,b1,a8,hc⟩:=b7.out (by rw[Yaa];omega);have O:=hc i (.int .u16 f[i]) (by rw[Y9,Yf hil];rfl);have D:=(n.out.cell (p:=⟨b,off+i,none⟩) a8).trans O;have a3:=W.out.1 f[i] (Ybd hil);have J:=Ya (show f.take (i+1)=f.take i++[f[i]] from by rw[Ya8,Yf hil];rfl);obtain⟨d,G⟩:=Yx f[i];rw[<- G] at D a3 J;have g1:IntKind.u32.wrap d=d:=by rw[Ya7 _ (by omega)]
     have g2:IntKind.u32.wrap (4*d)=4*d:=by rw[Ya7 _ (by omega)]
     have g3:IntKind.i64.wrap (i:Int)=(i:Int):=by rw[Yi _ (by omega)]
     have g4:IntKind.i64.wrap ((i:Int)+1)=(i:Int)+1:=by rw[Yi _ (by omega)]
     have d1:decide ((i:Int)<(k:Int))=true:=decide_eq_true (by omega);have i3:(i:Int)<(k:Int):=by omega
     have i4:(0:Int)<=(i:Int):=by omega
     have a7:=n.out.size;subst b1;clear hc O G;go_wp2_with (at_builtin;refine Zm rfl (.tmp 33) (.tmp 40) _ rfl a.heap.size 31 Zjc underlying28 rfl (by decide) #[.int .u32 (4*d)] _ _ _ rfl u.out rfl rfl rfl (by simp[Y1]) (by simp only[maxLen];omega) (by omega) a7 ?_;intro v' w7 P c0 a9 b6;obtain⟨A8,c8,rfl⟩:=Zc P)
     go_roundw
     case rel =>
      refine⟨i+1,A8,c8,E,by go_num,?_,Ya ?_,Ya (n.out.trans a9)⟩
      .first|rfl | (congr 1;omega)
      .have e:i+1+2=i+2+1:=by omega
       rw[J.out,e];have V:List.map (Ys .u32) (y::4::(List.map (λ d=>4*d) (List.take i f++[d])))=List.map (Ys .u32) (y::4::List.map (λ d=>4*d) (List.take i f))++#[Ys .u32 (4*d)].toList:=by simp
       rw[V];exact P
     case measure=>simp[intOf] <;> omega
    .have hie:i=k:=by omega
     subst hie;have c5:decide ((i:Int)<(i:Int))=false:=by simp
     go_wp2_with fail
     refine bodyPost_ret (v:=.tuple #[.slice R (i+2) c3,.bool false]) (by simp[results,results28,go_sem]) rfl ?_;have hR:=HR.out;have ho:=u.out;rw[T.out,Yam,<- T.out] at ho;unfold Zf9;refine⟨R,i+2,c3,y::4::f.map λ d=>4*d,by rw[U.out],.inr ⟨by omega,f,W.out,?_⟩,by simp[T.out],by omega,Za8 ho,j.out.trans (n.out.mono j.out.size),λ k o s e=>by
      obtain⟨g,V,h1,_⟩:=Z9 u.out (by omega);rw[e] at V
      cases V
      have:=j.out.size;omega⟩
     rw[a1.out,b4.out,T.out]
section
attribute [local irreducible] nMid
theorem Zbo (m:S.Mach)(d v:Int):(m.put d v).state=m.state:=by
 unfold S.Mach.put
 split <;> rfl
theorem Zta (m:S.Mach)(i:Inst):(m.act i).1.state=m.state\/m.act i=({ m with state:=1,code:=m.rd i.a },m.place,0):=by
 unfold S.Mach.act
 extract_lets a b imm next at_
 split
 .split
  .exact .inl rfl
  .exact .inl (Zbo _ _ _)
 split
 .exact .inl (Zbo _ _ _)
 split
 .exact .inl (Zbo _ _ _)
 split
 .split
  .exact .inl (Zbo _ _ _)
  .exact .inl rfl
 split
 .split
  .exact .inl rfl
  .exact .inl rfl
 split
 .exact .inl rfl
 split
 .exact .inl (Zbo _ _ _)
 split
 .exact .inl (Zbo _ _ _)
 split
 .split
  .exact .inl (Zbo _ _ _)
  .exact .inl (Zbo _ _ _)
 split
 .exact .inl rfl
 .exact .inr rfl
theorem Zqe {m:S.Mach}(h0:m.state=0)(h1:m.step.state=1):m.step.place=m.place/\m.step.mem=m.mem/\m.step.reg=m.reg/\m.step.code=m.rd (dec (m.mem.getD m.place.toNat 0)).a:=by
 have e:m.step=m.step:=rfl;unfold S.Mach.step at h1⊢;rw[if_neg (by omega)] at h1⊢
 split at h1
 .exact absurd h1 (by show ¬(2:Int)=1;decide)
 rename_i c1
 rw[if_neg c1]
 split at h1
 .exact absurd h1 (by show ¬(2:Int)=1;decide)
 rename_i c2
 rw[if_neg c2]
 split at h1
 .exact absurd h1 (by show ¬(2:Int)=1;decide)
 rename_i c3
 rw[if_neg c3];rcases Zta m (dec (m.mem.getD m.place.toNat 0)) with h|h
 .have:(m.act (dec (m.mem.getD m.place.toNat 0))).1.state=1:=h1
  omega
 .rw[h]
  exact⟨rfl,rfl,rfl,rfl⟩
theorem Zob {m:S.Mach}(h0:m.state=0):∀j:Nat,(m.steps_ j).state=1->∃k,(m.steps_ k).state=0/\(m.steps_ k).step=m.steps_ j
 | 0,h=>by
  have:m.state=1:=h;omega
 | j+1,h=>by
  by_cases c:(m.steps_ j).state=0
  .exact⟨j,c,rfl⟩
  .have e:m.steps_ (j+1)=m.steps_ j:=by
    show(m.steps_ j).step=m.steps_ j
    unfold S.Mach.step;rw[if_pos c]
   rw[e] at h⊢;exact Zob h0 j h
theorem Zzn {I:Img}(hI:I.Ok){m:S.Mach}(h0:m.state=0){j:Nat}{V:Vw}{c:Int}(h:Off I (m.steps_ j) V c){i:Nat}{s:ByteArray}{w:Int}(f:I.i0<=i)(d:i<I.i1)(v:I.xs[i]?=some ⟨1,⟨36,0,0,0,0⟩,s,w⟩)(hp:(m.steps_ j).place=I.adr i):c=0:=by
 obtain⟨k,r,n⟩:=Zob h0 j h.end_;obtain⟨l,o,q,g⟩:=Zqe r (by rw[n];exact h.end_);rw[n] at l o q g;obtain⟨u,hg,hn⟩:=Z8 hI f d v;have a:=h.code i f d 0 (wordOf ⟨36,0,0,0,0⟩) (by rw[u];rfl);rw[Ybh] at a;rw[<- l,<- o,hp,a] at g;have t:dec (wordOf ⟨36,0,0,0,0⟩)=⟨36,0,0,0,0⟩:=by
  have e:wordOf ⟨36,0,0,0,0⟩=enc ⟨36,0,0,0,0⟩:=by unfold wordOf;rw[if_pos hg]
  rw[e];exact(Zt2 hg).1
 rw[t] at g;have z:=h.ok.zero;rw[<- h.codeIs,g]
 show(m.steps_ k).reg.getD 0 0=0
 rw[<- q];exact z
structure S.bk (I:Img)(B:Nat)(a:Int):Prop where
 code:I.lab kCode=1312
 call:I.lab kCall=a+1
 at3:I.adr (B+3)=a+1
 at4:I.adr (B+4)=a+2
 after:I.lab kAfter=a+3
 at6:I.adr (B+6)=a+3
 end_:I.lab kEnd=a+4
 top:I.adr I.xs.length=a+4
 i0:I.adr 5=1312
 a0:1312<=a
theorem Zzo {I:Img}{B:Nat}{op:Int}(hI:I.Ok)(d:∀k:Nat,k<5->I.xs[k]?=lowItems[k]?)(c:∀k:Nat,I.xs[B+k]?=(callItems op)[k]?)(f:I.xs.length=B+8)(h0:I.F.getD 0 0=1)(h3:I.F.getD (B+3) 0=1)(hB:5<=B):∃a,bk I B a:=by
 have e:∀{i:Nat} {x:S.Item},I.xs[i]?=some x->x.kind=2->I.lab x.label=I.adr i:=λ D z=>by
  unfold Img.lab;rw[Ziq hI D z];rfl
 have r:=Z7 hI (i:=0) (x:=bJ 0 kStart) (d 0 (by decide));have n1:=Z7 hI (i:=1) (x:=bSp 1311) (d 1 (by decide));have n2:I.adr 3=I.adr 2+0:=Z7 hI (i:=2) (x:=bL kStatic) (d 2 (by decide));have n3:I.adr 4=I.adr 3+0:=Z7 hI (i:=3) (x:=bL kMore) (d 3 (by decide));have n4:I.adr 5=I.adr 4+0:=Z7 hI (i:=4) (x:=bL kCode) (d 4 (by decide));have z0:I.adr 0=0:=rfl;have t:S.size (bJ 0 kStart) (I.F.getD 0 0)=1:=by rw[h0];decide
 have u:S.size (bSp 1311) (I.F.getD 1 0)=1311:=by unfold S.size bSp;simp
 rw[t] at r;rw[u] at n1;have x0:I.xs[B]?=some (bL kF0):=c 0;have o:I.xs[B+1]?=some bHalt:=c 1;have h:I.xs[B+2]?=some (bL kCall):=c 2;have q:I.xs[B+3]?=some (bJ 31 (kRt op)):=c 3;have v:I.xs[B+4]?=some (bW 0):=c 4;have g:I.xs[B+5]?=some (bL kAfter):=c 5;have s:I.xs[B+6]?=some bHalt:=c 6;have l:I.xs[B+7]?=some (bL kEnd):=c 7;have c0:I.adr (B+1)=I.adr B+0:=Z7 hI x0;have c1:I.adr (B+2)=I.adr (B+1)+1:=Z7 hI o;have c2:I.adr (B+3)=I.adr (B+2)+0:=Z7 hI h;have c3:I.adr (B+4)=I.adr (B+3)+S.size (bJ 31 (kRt op)) (I.F.getD (B+3) 0):=Z7 hI q;have c4:I.adr (B+5)=I.adr (B+4)+1:=Z7 hI v;have c5:I.adr (B+6)=I.adr (B+5)+0:=Z7 hI g;have c6:I.adr (B+7)=I.adr (B+6)+1:=Z7 hI s;have c7:I.adr (B+8)=I.adr (B+7)+0:=Z7 hI l;have n:S.size (bJ 31 (kRt op)) (I.F.getD (B+3) 0)=1:=by
  rw[h3];unfold S.size bJ;simp
 rw[n] at c3;have l0:I.lab kCode=I.adr 4:=e (x:=bL kCode) (d 4 (by decide)) rfl;have l2:I.lab kCall=I.adr (B+2):=e h rfl;have l5:I.lab kAfter=I.adr (B+5):=e g rfl;have l7:I.lab kEnd=I.adr (B+7):=e l rfl;have C:=Zd0 hI (i:=5) (j:=B) (by omega);have A:I.adr (0+1)=I.adr 1:=rfl;have y:I.adr (1+1)=I.adr 2:=rfl;rw[A] at r;rw[y] at n1;rw[<- f] at c7;clear x0 o h q v g s l e d c t u n;exact⟨I.adr B,by omega,by omega,by omega,by omega,by omega,by omega,by omega,by omega,by omega,by omega⟩
section
variable {op:Int}{F:List Int}{size:Int}
theorem Zzp {j:Nat}{o:S.Obj}(c:nMidO[j]?=some o):∃i,Seg (aa true op F size) o.name i o.items:=by
 obtain⟨A,B,e⟩:=Zn4 c;have g:=Zcw op;have d:lowItems.length=5:=rfl;have hm:nMid=A++(o.items.map (ownItem o.name)++B):=by
  unfold nMid;exact e
 refine⟨5+A.length,λ k x a=>?_,by show 5<=5+A.length;omega,?_⟩
 .show(joined (nObjs op))[_]?=_
  rw[g,Yo (by omega),d,hm];have f:=(List.getElem?_eq_some_iff.1 a).1;rw[Yn (by simp only[Yd,Yaa];omega),Yo (by omega),Yn (by rw[Yaa];omega)];rw[show 5+A.length+k-5-A.length=k from by omega,Y9,a];rfl
 .show _<=(joined (nObjs op)).length
  rw[Zox,hm];simp only[Yd,Yaa];omega
theorem Z6 {j:Nat}{r:BR}(a:nMidO[j]?=some (ofR r)):∃i,Seg (aa true op F size) r.name i (bItems r):=Zzp a
variable (hI:(aa true op F size).Ok)
include hI
theorem Zd3:NSegs (aa true op F size) :=
 ⟨hI,Z6 (r:=rNInt) (j:=15) rfl,Z6 (r:=rNLen) (j:=16) rfl,Z6 (r:=rNNeg) (j:=17) rfl,Z6 (r:=rNDig) (j:=18) rfl,Z6 (r:=rNCmp) (j:=19) rfl,Z6 (r:=rNFin) (j:=20) rfl,Z6 (r:=rNAdd) (j:=21) rfl,Z6 (r:=rNSub) (j:=22) rfl,Z6 (r:=rNSum) (j:=23) rfl,Z6 (r:=rNMul) (j:=24) rfl,Z6 (r:=rNTop) (j:=25) rfl,Z6 (r:=rNShl) (j:=26) rfl,Z6 (r:=rNTake) (j:=27) rfl,Z6 (r:=rNBack) (j:=28) rfl,Z6 (r:=rNDiv) (j:=29) rfl⟩
theorem Zg5:CSegs (aa true op F size):=⟨Z6 (r:=rMove) (j:=2) rfl,Z6 (r:=rScan) (j:=3) rfl,Z6 (r:=rFrame) (j:=4) rfl,Z6 (r:=rCollect) (j:=5) rfl,Z6 (r:=rReserve) (j:=6) rfl⟩
theorem Z5c (h0:F.getD 0 0=1)(h3:F.getD (5+nMid.length+3) 0=1):∃a,bk (aa true op F size) (5+nMid.length) a :=
 Zzo (op:=op) hI (λ k c=>by
  show(joined (nObjs op))[k]?=_
  rw[Zcw,Yn c]) (λ k=>Zht op k) (Zox op) h0 h3 (Nat.le_add_right 5 _)
structure S.dn (op:Int)(F:List Int)(size:Int)(m:S.Mach):Prop where
 ok:m.Ok
 run:m.state=0
 len:(m.mem.length:Int)=size
 code:(aa true op F size).In m.mem
 place:m.place=(aa true op F size).lab kCall
 r28:m.rd 28=1056
theorem Z8s {a:Int}(c:bk (aa true op F size) (5+nMid.length) a){m:S.Mach}(hm:dn op F size m):∃k,k<=3/\On (aa true op F size) (m.steps_ k) ((viewOf m).set 31 (a+2)) ((aa true op F size).lab (kRt op)):=by
 have d:On (aa true op F size) m (viewOf m) ((aa true op F size).lab kCall):=⟨hm.ok,hm.run,hm.len,hm.code,hm.place,λ _ _ _ _=>rfl,λ _ _ _=>rfl,rfl,rfl⟩
 have e:(aa true op F size).xs[5+nMid.length+3]?=some (bJ 31 (kRt op)):=Zht op 3;have g:=Zra hI (i:=5+nMid.length+3) (by show 5<=_;omega) (by show _<(joined (nObjs op)).length;rw[Zox];omega) (V:=viewOf m) e (by decide) (by decide);rw[c.at3,show 5+nMid.length+3+1=5+nMid.length+4 by omega,c.at4,<- c.call] at g;exact g m d
theorem Z1f {a:Int}(c:bk (aa true op F size) (5+nMid.length) a){m:S.Mach}(d:(aa true op F size).In m.mem)(ha:0<=a):m.mv (a+2)=0:=by
 have f:(aa true op F size).xs[5+nMid.length+4]?=some (bW 0):=Zht op 4;have e:(wordsAt (aa true op F size).xs (aa true op F size).F 0 (5+nMid.length+4))[0]?=some 0:=by
  unfold wordsAt;rw[f]
  show(wordsOf (bW 0) _ _ _)[0]?=some 0
  rw[Zvh];rfl
 have:=d (5+nMid.length+4) (by show 5<=_;omega) (by show _<(joined (nObjs op)).length;rw[Zox];omega) 0 0 e;rw[c.at4,Ybh] at this;exact this
theorem Zzq {a:Int}(r:bk (aa true op F size) (5+nMid.length) a)(hs:a+4<size){m:S.Mach}(hm:dn op F size m){d:Int}{R:BO->Nat->Prop}(hd:d<=256)(I:ae (aa true op F size) (kRt op) true (viewOf m) d (a+2) R)(E:∀o k,R o k->k<=3000000)(J:∀t st k,¬R (.left t st) k)(h0:∀c st k,R (.halt c st) k->c≠0) :
 ((m.steps_ 5000000).state=1) /\
 ((∃h k,R (.ret h) k/\cm (aa true op F size) (m.steps_ 5000000) h/\(m.steps_ 5000000).place=a+3/\(m.steps_ 5000000).rd 28=1056)\/(∃h k c,R (.halt c h) k/\(m.steps_ 5000000).code=c/\(m.steps_ 5000000).place≠a+3)):=by
 obtain⟨C,G,l⟩:=Z8s hI r hm;have ha:=r.a0;obtain⟨o,k,i,n⟩:=I ((viewOf m).set 31 (a+2)) 1056 ((Mt.refl_ (viewOf m)).hid (by decide) _) (by rw[Zh _ _ (by decide)];exact hm.r28) (Zj _ _ _) (by omega) (by show a+2<size;omega) (Int.le_refl _) (by show 1056+d<=1312;omega);have L:=E o k i;have B:(aa true op F size).xs[5+nMid.length+6]?=some bHalt:=Zht op 6;have z:(aa true op F size).i0<=5+nMid.length+6:=by show 5<=_;omega
 have b1:5+nMid.length+6<(aa true op F size).i1:=by show _<(joined (nObjs op)).length;rw[Zox];omega
 have more:∀(j:Nat),j<=5000000->(m.steps_ j).state≠0->m.steps_ 5000000=m.steps_ j:=λ j A u=>by
  obtain⟨x,K⟩:∃x,5000000=j+x:=⟨5000000-j,by omega⟩
  rw[K,Za6,Zip u]
 cases o with
 | ret h =>
  obtain⟨V',g,s,v,_⟩:=n;obtain⟨j,A,q⟩:=g _ l;have H:V'.mem (a+2)=0:=by
   rw[<- q.mem (a+2) (by omega) (by show a+2<size;omega)];exact Z1f hI r q.code (by omega)
  have D:backTo true V' (a+2)=a+3:=by
   have h2:=hI.size2;have h3:(aa true op F size).size=size:=rfl;unfold backTo;rw[if_pos rfl,H];unfold u32m;omega
  rw[D,<- r.at6] at q;obtain⟨f,y⟩:=Z2x hI z b1 B q;have e:m.steps_ 5000000=((m.steps_ C).steps_ j).steps_ 1:=by
   rw[<- Za6,<- Za6];refine more _ (by omega) ?_;rw[Za6,Za6,f.end_]
   decide
  rw[e];exact⟨f.end_,.inl ⟨h,k,i,Zzg f s,by rw[y];exact r.at6,by rw[f.reg 28 (by decide) (by decide) (by decide)];exact v⟩⟩
 | halt c h =>
  obtain⟨V',g,s⟩:=n;obtain⟨j,A,f⟩:=g _ l;have e:m.steps_ 5000000=(m.steps_ C).steps_ j:=by
   rw[<- Za6];refine more _ (by omega) ?_;rw[Za6,f.end_]
   decide
  rw[e];refine⟨f.end_,.inr ⟨h,k,c,i,f.codeIs,λ hp=>?_⟩⟩;refine h0 c h k i ?_;exact Zzn hI l.run f z b1 B (hp.trans r.at6.symm)
 | left t st=>exact absurd i (J t st k)
end
end
section
structure NAt (w:World)(lo b p:Nat)(F:Nat->Prop)(first half after next:Int)(m:S.Mach):Prop where
 blk:w.heap[b]?=some (.cells #[.pointer (some ⟨p,0,none⟩),.int .i64 first,.int .i64 half,.int .i64 after,.int .i64 next] 64 (0,0))
 mach:∃vm vo A c inp rd,MAt w lo p vm vo A c inp rd m/\(∀k,Za0 p vm vo k->F k)/\(∀k o s,A=some ⟨k,o,s⟩->¬F k/\k≠b)
 lowb:lo<=b
 nb:¬F b
 lt:∀k,F k->lo<=k/\k<w.heap.size
section
variable {w w':World}{lo b p:Nat}{F:Nat->Prop}{first half after next:Int}{m m':S.Mach}
theorem NAt.blt (h:NAt w lo b p F first half after next m):b<w.heap.size:=(Yw.1 h.blk).1
theorem NAt.below (h:NAt w lo b p F first half after next m)(a:Below w.heap.size w w'):NAt w' lo b p F first half after next m:=by
 obtain⟨g,i,A,c,inp,rd,e,k2,f⟩:=h.mach;have hz:=a.size;exact⟨(a.block b h.blt).trans h.blk,⟨g,i,A,c,inp,rd,e.below a,k2,f⟩,h.lowb,h.nb,λ k d=>⟨(h.lt k d).1,by have:=(h.lt k d).2;omega⟩⟩
theorem NAt.wrote (h:NAt w lo b p F first half after next m){a:Nat->Prop}(g:Only F w w')(hF:∀k,k<w.heap.size->a k->F k)(d:∀k,a k->lo<=k/\k<w'.heap.size)
 (hm:∃e f A c inp rd,MAt w' lo p e f A c inp rd m'/\(∀k,Za0 p e f k->a k)/\(∀k o s,A=some ⟨k,o,s⟩->¬a k/\k≠b)):NAt w' lo b p a first half after next m' :=
 ⟨(g.block b h.blt h.nb).trans h.blk,hm,h.lowb,λ i=>h.nb (hF b h.blt i),d⟩
theorem NAt.lolt (h:NAt w lo b p F first half after next m):lo<=w.heap.size:=by
 have:=h.blt;have:=h.lowb;omega
theorem NAt.lobelow (h:NAt w lo b p F first half after next m)(c:Only F w w'):Below lo w w':=c.below h.lolt λ k a=>(h.lt k a).1
theorem NAt.cells (h:NAt w lo b p F first half after next m):w.cell? ⟨b,0,none⟩=some (.pointer (some ⟨p,0,none⟩))/\w.cell? ⟨b,1,none⟩=some (.int .i64 first)/\w.cell? ⟨b,2,none⟩=some (.int .i64 half)/\w.cell? ⟨b,3,none⟩=some (.int .i64 after)/\w.cell? ⟨b,4,none⟩=some (.int .i64 next) :=
 ⟨by rw[Yc h.blk];rfl,by rw[Yc h.blk];rfl,by rw[Yc h.blk];rfl,by rw[Yc h.blk];rfl,by rw[Yc h.blk];rfl⟩
theorem NAt.ok (h:NAt w lo b p F first half after next m):m.Ok:=by
 obtain⟨vm,vo,A,c,inp,rd,a,k2,k3⟩:=h.mach;exact a.ok
theorem NAt.drew (h:NAt w lo b p F first half after next m)(n:Nat):NAt (w.drewN n) lo b p F first half after next m:=h.below (below_drewN (Yh _ _) n)
theorem NAt.onward (h:NAt w lo b p F first half after next m)(v:Int):NAt (w.setCell ⟨b,4,none⟩ (.int .i64 v)) lo b p F first half after v m/\Below lo w (w.setCell ⟨b,4,none⟩ (.int .i64 v)):=by
 obtain⟨g,j,A,c,inp,rd,l,k2,d⟩:=h.mach;have i:=(Yh lo w).setCell (p:=⟨b,4,none⟩) h.lowb (.int .i64 v);have f:(w.setCell ⟨b,4,none⟩ (.int .i64 v)).heap.size=w.heap.size:=by simp
 have n:∀k,k≠b->(w.setCell ⟨b,4,none⟩ (.int .i64 v)).heap[k]?=w.heap[k]?:=λ k a=>heap_setCell_other w ⟨b,4,none⟩ k _ a
 refine⟨⟨?_,⟨g,j,A,c,inp,rd,l.keep (Nat.le_of_eq f.symm) λ k a=>n k ?_,k2,d⟩,h.lowb,h.nb,λ k a=>⟨(h.lt k a).1,by rw[f];exact(h.lt k a).2⟩⟩,i⟩
 .exact heap_setCell_same w b 4 _ _ _ h.blk
 .rintro rfl
  rcases a with q|⟨o,s,e⟩
  .exact h.nb (k2 _ q)
  .exact(d _ o s e).2 rfl
theorem Zoc (i:Int)(h:NAt w lo b p F first half after next m):Calls prog 9 #[.pointer (some ⟨p,0,none⟩),.int .i64 i] w λ e w'=>e=.returned (.int .u32 (m.regV i))/\w=w':=by
 obtain⟨vm,vo,A,c,inp,rd,a,k2,k3⟩:=h.mach;exact Zzz i a
theorem Z66 (i v:Int)(h:NAt w lo b p F first half after next m)(j:0<=v/\v<=4294967295):Calls prog 12 #[.pointer (some ⟨p,0,none⟩),.int .i64 i,.int .u32 v] w λ e w'=>e=.returned (.int .i64 (if 0<=i/\i<32 then 0 else 2))/\NAt w' lo b p F first half after next (m.setV i v)/\Only F w w':=by
 obtain⟨g,l,A,c,inp,rd,n,k2,f⟩:=h.mach;refine(Zrj i v n j).mono ?_;rintro e w' ⟨rfl,h1,h2⟩;have d:Only F w w':=h2.weaken λ k _ a=>k2 k (.inl a)
 exact⟨rfl,h.wrote d (λ _ _ a=>a) (λ k a=>⟨(h.lt k a).1,Y3 (h.lt k a).2 d.size⟩) ⟨g,l,A,c,inp,rd,h1,k2,f⟩,d⟩
theorem Z67 (i v:Int)(h:NAt w lo b p F first half after next m)(j:0<=v/\v<=4294967295):Calls prog 13 #[.pointer (some ⟨p,0,none⟩),.int .i64 i,.int .u32 v] w λ e w'=>e=.returned (.int .i64 (if 0<=i/\i<m.mem.length then 0 else 2))/\NAt w' lo b p F first half after next (m.putV i v)/\Only F w w':=by
 obtain⟨g,l,A,c,inp,rd,n,k2,f⟩:=h.mach;refine(Zrk i v n j).mono ?_;rintro e w' ⟨rfl,h1,h2⟩;have d:Only F w w':=h2.weaken λ k _ a=>k2 k a
 exact⟨rfl,h.wrote d (λ _ _ a=>a) (λ k a=>⟨(h.lt k a).1,Y3 (h.lt k a).2 d.size⟩) ⟨g,l,A,c,inp,rd,h1,k2,f⟩,d⟩
theorem Zvt (i v:Int)(h:NAt w lo b p F first half after next m)(a:0<=v/\v<=4294967295):Calls prog 13 #[.pointer (some ⟨p,0,none⟩),.int .i64 i,.int .u32 v] w λ e w'=>∃r,e=.returned (.int .i64 r)/\NAt w' lo b p F first half after next (m.putV i v)/\Only F w w' :=
 (Z67 i v h a).mono λ _ _ q=>⟨_,q⟩
theorem Zhs (i v:Int)(h:NAt w lo b p F first half after next m)(a:0<=v/\v<=4294967295):Calls prog 12 #[.pointer (some ⟨p,0,none⟩),.int .i64 i,.int .u32 v] w λ e w'=>∃r,e=.returned (.int .i64 r)/\NAt w' lo b p F first half after next (m.setV i v)/\Only F w w' :=
 (Z66 i v h a).mono λ _ _ q=>⟨_,q⟩
def Z8t (w:World)(lo b p:Nat)(F:Nat->Prop)(first half after next:Int)(m':S.Mach)(w':World):Prop :=
 ∃F',NAt w' lo b p F' first half after next m'/\Only F w w'/\∀k,k<w.heap.size->F' k->F k
theorem Z5d (fuel:Int)(h:NAt w lo b p F first half after next m)(f:m.out=[])(g:m.steps=0)(hf:fuel<=100000000):Calls prog 23 #[.pointer (some ⟨p,0,none⟩),.int .i64 fuel] w λ e w'=>e=.returned (.int .i64 (m.steps_ fuel.toNat).state)/\Z8t w lo b p F first half after next (m.steps_ fuel.toNat) w':=by
 obtain⟨n,vo,A,c,inp,rd,r,k2,q⟩:=h.mach;refine(Zz2 fuel r (by rw[f];decide) (by rw[g];decide) hf).mono ?_;rintro e w' ⟨rfl,d,i,h1,h2,h3⟩;have l:Only F w w':=h2.weaken λ k _ a=>k2 k a
 have hz:=l.size;refine⟨rfl,λ k=>Za0 p n d k,h.wrote l (λ k a hf=>?_) (λ k a=>h1.foot_lt a) ⟨n,d,A,c,inp,i,h1,λ _ a=>a,λ k o s e=>⟨λ a=>?_,(q k o s e).2⟩⟩,l,λ k a hf=>?_⟩
 .rcases hf with e|e|e
  .exact k2 k (.inl e)
  .exact k2 k (.inr (.inl e))
  .rcases h3 with e2|⟨j,hj,e2⟩
   .exact k2 k (.inr (.inr (e2 ▸ e)))
   .rw[e2] at e;cases e;omega
 .obtain⟨d1,d2,d3⟩:=h1.d1 k o s e
  rcases a with a|a|a
  .exact d1 a
  .exact d2 a
  .exact d3 a
 .rcases hf with e|e|e
  .exact k2 k (.inl e)
  .exact k2 k (.inr (.inl e))
  .rcases h3 with e2|⟨j,hj,e2⟩
   .exact k2 k (.inr (.inr (e2 ▸ e)))
   .rw[e2] at e;cases e;omega
theorem Zvu (h:NAt w lo b p F first half after next m):Calls prog 24 #[.pointer (some ⟨p,0,none⟩)] w λ e w'=>e=.returned (.int .u32 m.place)/\w=w':=by
 obtain⟨vm,vo,A,c,inp,rd,a,k2,k3⟩:=h.mach;exact Ztg a
theorem Zri (h:NAt w lo b p F first half after next m):Calls prog 25 #[.pointer (some ⟨p,0,none⟩)] w λ e w'=>e=.returned (.int .u32 m.code)/\w=w':=by
 obtain⟨vm,vo,A,c,inp,rd,a,k2,k3⟩:=h.mach;exact Zwf a
theorem Zzr (i:Int)(h:NAt w lo b p F first half after next m):Calls prog 30 #[.pointer (some ⟨p,0,none⟩),.int .i64 i] w λ e w'=>e=.returned (.tuple #[.int .u32 (m.memV i),.bool (m.memB i)])/\∃n,w'=w.drewN n:=by
 obtain⟨vm,vo,A,c,inp,rd,a,k2,k3⟩:=h.mach;exact Zz0 i a
end
end
namespace S
def putAt (m:Mach)(a:Int):List Int->Mach
 | []=>m
 | x::r=>putAt (m.putV a x) (a+1) r
def LaidW (m:Mach)(next:Int)(ws:List Int)(v:Int)(m':Mach)(next':Int):Prop :=
 (ws.length=1/\v=ws.getD 0 0/\m'=m/\next'=next)\/(2<=ws.length/\v=4*next+1/\m'=putAt m next ws/\next'=next+ws.length)
end S
theorem Zk4:∀(l:List Int)(m:S.Mach)(a x:Int),S.putAt m a (l++[x])=(S.putAt m a l).putV (a+l.length) x
 | [],m,a,x=>by show m.putV a x=m.putV (a+0) x;rw[Int.add_zero]
 | y::r,m,a,x=>by
  rw[List.cons_append,S.putAt,S.putAt,Zk4 r,Yj]
  congr 1
  omega
theorem Zmg {z:Int}{ws:List Int}(h:Wz z ws)(c:ws.length<=1002):∀x∈ws,0<=x/\x<=4294967295:=by
 rcases h with⟨_,_,rfl⟩|⟨_,ds,e,rfl⟩
 .intro x a
  rw[List.mem_singleton] at a;subst a;unfold u32m;omega
 .intro x a
  rw[Yj,Yj,Yaa] at c;rcases Yz.1 a with rfl|a
  .omega
  .rcases Yz.1 a with rfl|a
   .split <;> decide
   .obtain⟨d,hd,rfl⟩:=List.mem_map.1 a
    have:=e.1 d hd;omega
theorem Z5e {z:Int}{ws:List Int}(h:Wz z ws):((-536870912<=z/\z<=536870911)->ws.length=1)/\(¬(-536870912<=z/\z<=536870911)->2<=ws.length):=by
 rcases h with⟨h1,h2,rfl⟩|⟨h1,ds,hc,rfl⟩
 .exact⟨λ _=>rfl,λ h=>absurd ⟨h1,by omega⟩ h⟩
 .exact⟨λ h=>by omega,λ _=>by rw[Yj,Yj];omega⟩
def Z24 (w:World)(lo b p:Nat)(F:Nat->Prop)(first half after next z:Int)(m:S.Mach)(e:Ending)(w':World):Prop :=
 ∃(ws:List Int)(v:Int)(m':S.Mach)(next':Int),e=.returned (.int .u32 v)/\Wz z ws/\ws.length<=1002/\S.LaidW m next ws v m' next'/\NAt w' lo b p F first half after next' m'/\Below lo w w'
theorem Z25 {w:World}{lo b p:Nat}{F:Nat->Prop}{first half after next:Int}{m:S.Mach}(neg:Bool)(A:Option Addr)(N c:Nat)(l:List Int)(z:Int)(B:Nat)(hB:B<=w.heap.size)(h:NumW w B z neg A N c l)(hz:(if z<0 then -z else z)<aw)(hw:NAt w lo b p F first half after next m)(hn:0<=next/\next<=300000000) :
 Calls prog 22 #[.pointer (some ⟨b,0,none⟩),Zx neg A N c] w (Z24 w lo b p F first half after next z m):=by
 have H:=Ya h;have HZ:=Ya hz;have E:=(Yh w.heap.size w).alloc (Yb _) (.cells #[.bool neg,.slice A N c] 56);have u:w.heap.size<(w.alloc (.cells #[.bool neg,.slice A N c] 56)).heap.size:=by simp
 have a6:=Ya E;have y:=Ya u;have HW:=Ya hw;have K0:=Ya (H.out.below (E.mono hB));clear h hz E u hw;unfold Zx;go_enter func22,ntmps22
 go_wp2_with fail
 refine(Zvs neg A N c l z _ B (Ym hB (Ya3 y.out)) K0.out HZ.out).mono ?_;rintro e w1 ⟨A1,n1,c1,ws,rfl,t,O,b4,d,g,M⟩;have R:=Ya t;have f:=Ya O;have U:=Ya d;have X:=Ya (Zcc a6.out g (Ya3 y.out));have Z:=Ya (HW.out.below X.out);have b2:=Ya (show ∀k o s,A1=some ⟨k,o,s⟩->¬F k from λ k o s e n=>by
  have h1:=M k o s e;have h2:=(HW.out.lt k n).2;have h3:=y.out;omega)
 have a0:=Ya (X.out.mono HW.out.lolt);obtain⟨D,C⟩:=Z5e t;have T:=Zmg t (by omega);have a4:=Ya T;clear g M d t O T;by_cases J:-536870912<=z/\z<=536870911
 .have dr:(decide (-536870912<=z) && decide (z<=536870911))=true:=by
   rw[decide_eq_true J.1,decide_eq_true J.2];rfl
  have a:=D J;rw[dr];have HL:=Ya a;obtain⟨b1,o1,G,g,q⟩:=U.out (by rw[Yaa];omega);have hx:=q 0 (.int .u32 (ws.getD 0 0)) (by rw[Y9,Ye,Yf (by omega)];rfl);have Q:n1=1:=by rw[f.out];exact a
  rw[Ybh] at hx;generalize Y:ws.getD 0 0=v at hx;have HV:=Ya Y;subst G Q;clear dr J D C a q Y;go_wp2_with fail
  go_ret
  exact⟨ws,v,m,next,rfl,R.out,by rw[HL.out];decide,.inl ⟨HL.out,HV.out.symm,rfl,rfl⟩,Z.out,a0.out⟩
 .have dr:(decide (-536870912<=z) && decide (z<=536870911))=false:=by
   by_cases c:-536870912<=z
   .rw[decide_eq_true c,decide_eq_false (show ¬z<=536870911 by omega)];rfl
   .rw[decide_eq_false c];rfl
  have a:=C J;rw[dr];have HL:=Ya a;clear dr J D C a;go_wp2_with fail
  go_loopw [7] (λ v7 wr=>∃i:Nat,i<=n1/\v7=.int .i64 i/\Hid (NAt wr lo b p F first half after next (S.putAt m next (ws.take i)))/\Hid (Below lo w wr)/\Hid (Reads wr wr.heap.size A1 (ws.map (Ys .u32)))) (λ v7 _=>n1-(intOf v7).toNat)
  case atStart=>exact⟨0,Yae _,rfl,Z,a0,U⟩
  case round =>
   obtain⟨i,hi,rfl,n,I,d⟩:=hrel;by_cases b3:i<n1
   .have hil:i<ws.length:=by rw[<- f.out];exact b3
    obtain⟨b1,o1,G,g,q⟩:=d.out (by rw[Yaa];omega);have hx:=q i (.int .u32 ws[i]) (by rw[Y9,Yf hil];rfl);have W:=a4.out ws[i] (Ybd hil);have a2:=Ya (show ws.take (i+1)=ws.take i++[ws[i]] from by rw[Ya8,Yf hil];rfl);have b7:=Ya (show(ws.take i).length=i by rw[Yr];omega);obtain⟨v,Y⟩:=Yx ws[i];rw[<- Y] at hx W a2;obtain⟨e0,e1,e2,e3,e4⟩:=n.out.cells;have x:=n.out.blt;have d1:decide ((i:Int)<(n1:Int))=true:=decide_eq_true (by omega);have p1:IntKind.i64.wrap (next+i)=next+i:=Yi _ ⟨by omega,by omega⟩;have p2:IntKind.i64.wrap (i:Int)=(i:Int):=Yi _ ⟨by omega,by omega⟩;have p3:IntKind.i64.wrap ((i:Int)+1)=(i:Int)+1:=Yi _ ⟨by omega,by omega⟩;have i3:(i:Int)<(n1:Int):=by omega
    have i4:(0:Int)<=(i:Int):=by omega
    have a9:=Ya b2.out;subst G;clear q Y;go_upto_region 7 with fail
    refine Zi 14 (by kernel_rfl) (by kernel_rfl) ?_;have hE:=Zn wr;simp only[List.take_succ_cons,List.take_zero,List.drop_succ_cons,Yak]
    repeat (first|go_big_quiet_step (fail))
    refine wpQuiet_nil ?_;rintro w6 ⟨⟨_,j⟩,rfl⟩;have K:=Ya (n.out.below j);have a3:=Ya (I.out.trans (j.mono n.out.lolt));have b5:=Ya (Reads.same d.out j.size λ k o s e=>by
     cases e
     exact j.block _ g)
    have L:b1<w6.heap.size:=Y3 g j.size;clear hE j n I d e0 e1 e2 e3 e4 x;go_wp2_with fail
    refine(Zvt (next+i) v K.out W).mono ?_;rintro e w7 ⟨rv,rfl,P,r⟩;have a7:Hid (NAt w7 lo b p F first half after next (S.putAt m next (ws.take (i+1)))):=Ya (by
     rw[a2.out,Zk4,b7.out];exact P)
    have a8:=Ya (a3.out.trans (K.out.lobelow r));have b0:=Ya (Reads.same b5.out r.size λ k o s e=>by
     cases e
     exact r.block _ L (a9.out _ _ _ rfl))
    clear P r;go_wp2_with fail
    go_roundw
    case rel=>exact⟨i+1,by omega,by go_num,a7,a8,b0⟩
    case measure=>simp[intOf] <;> omega
   .have hie:i=n1:=by omega
    subst hie;obtain⟨e0,e1,e2,e3,e4⟩:=n.out.cells;have x:=n.out.blt;have d1:decide ((i:Int)<(i:Int))=false:=by simp
    have b8:wr.frozen? ⟨b,4,none⟩=false:=frozen_of_row wr b 4 _ _ n.out.blk;have p1:IntKind.i64.wrap (next+i)=next+i:=Yi _ ⟨by omega,by omega⟩;have p2:IntKind.i64.wrap (next+i-i)=next:=by rw[Yi _ ⟨by omega,by omega⟩];omega
    have p3:IntKind.u32.wrap next=next:=Ya7 _ ⟨by omega,by omega⟩;have b9:bits .or .u32 (next*4) 1=4*next+1:=(Zu 2 (next*4) 1 4 (by decide) (by omega) (by omega) (by omega) (by decide) (by decide) (by decide)).trans (by omega);obtain⟨a1,V⟩:=n.out.onward (next+i);have b6:=Ya a1;have a5:=Ya V;clear a1 V;go_wp2_with fail
    go_ret
    refine⟨ws,4*next+1,S.putAt m next ws,next+i,rfl,R.out,by rw[<- f.out];exact b4,.inr ⟨HL.out,rfl,rfl,by rw[f.out]⟩,?_,I.out.trans a5.out⟩;have h:=b6.out;rw[f.out,Yam,<- f.out] at h;exact h
