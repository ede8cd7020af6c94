/- Parts. -/
import Derived.Test.YtcjhmiijbojgeaaGreatDoorZBCod
import Derived.Deep.DeepCutAuto
set_option linter.all false
set_option maxHeartbeats 4000000
open Go.Lib renaming hid->Ya,cell_of_heap->Yb,frozen_of_heap->Yy
open Nat renaming le_refl->Yc,le_trans->Yz
open List renaming length_append->Yd,getElem?_eq_getElem->Ye,length_cons->Yk,append_assoc->Yp,cons_append->Y9,length_nil->Yad,take_length->Yap,take_append_drop->Ybb,flatMap_append->Ybm
open Go.AllReady renaming cons->Yf,nil->Yi
open Go.RowKit.Below renaming refl->Yj,heap_setCell->Yal
open Bool renaming and_eq_true->Yq
namespace Go.Proofs.YtcjhmiijbojgeaaGreatDoor
open S Go.Proofs.Tryz Go.RowKit
set_option maxRecDepth 100000
def Zxt (os:List S.Obj)(w:World)(e:Ending)(w':World):Prop :=
 ∃v,e=.returned v/\w'.ownsRow w.heap.size 79 8 v (joined os).length ((joined os).flatMap Zb)/\Below w.heap.size w w'
theorem Zof {os:List S.Obj}{k:Nat}{x:S.Obj}(b:os[k]?=some x):joined (os.take (k+1))=joined (os.take k)++itemsOf x:=by
 have a:=(List.getElem?_eq_some_iff.1 b).1;have c:os[k]=x:=by
  have:=Ye a;rw[b] at this;exact(Option.some.inj this).symm
 rw[List.take_succ_eq_append_getElem a,c];simp[joined]
theorem Ztm {os:List S.Obj}(k:Nat):(joined (os.take k)).length<=(joined os).length:=by
 have h:joined os=joined (os.take k)++joined (os.drop k):=by
  unfold joined;rw[<- Ybm,Ybb]
 rw[h,Yd];omega
theorem Zog (A:Option Addr)(c:Nat)(os:List S.Obj)(w:World)(hi:Objs w w.heap.size A os)(hl:os.length<=1048576)(ht:(joined os).length<=1048576)
 (hsz:∀(k:Nat)(o:S.Obj),os[k]?=some o->∀x∈o.items,o.name.size+x.label.size<=9223372036854775807) :
 Calls prog 93 #[.slice A os.length c] w (Zxt os w):=by
 have X:=Ya hsz;clear hsz;go_enter func93,ntmps93
 go_wp2_with fail
 go_loopw [3,10] (λ v i wr=>∃k:Nat,k<=os.length/\i=.int .i64 k/\wr.ownsRow w.heap.size 79 8 v (joined (os.take k)).length ((joined (os.take k)).flatMap Zb)/\Below w.heap.size w wr) (λ _ i _=>os.length-(intOf i).toNat)
 case atStart=>exact⟨0,by omega,rfl,by simp[joined];exact World.ownsRow_nil _ _ _ _,Yj _ _⟩
 case round =>
  obtain⟨k,hk,rfl,U,j⟩:=hrel;by_cases a9:k<os.length
  .obtain⟨b,off,x,rfl,hb,G,hc0,⟨Ai,ci,hc1,hI⟩,hn,hlab⟩:=(hi.below j).at_ a9
   have b9:=j.size;have b7:b<wr.heap.size:=by omega
   have I:=Ya (Zof G);have a4:=Ztm (os:=os) (k+1);rw[I.out,Yd] at a4;have K:x.items.length<=1048576:=by
    have:(itemsOf x).length=x.items.length:=by simp[itemsOf]
    omega
   have Hx:=Ya G;have N:=Ya hlab;clear G hlab;obtain⟨nm,a⟩:=x;simp only at hc0 hc1 hn K hI;obtain⟨x1,T,x3⟩:=Zgd wr #[.string nm,.slice Ai a.length ci] 82;go_upto_region 5 with fail
   generalize wr.alloc (.cells #[.string nm,.slice Ai a.length ci] 82)=wX at *;have R:wX.cell? ⟨wr.heap.size,0,none⟩=some (.string nm):=by simp[World.cell?,x1]
   have a1:wX.cell? ⟨wr.heap.size,1,none⟩=some (.slice Ai a.length ci):=by simp[World.cell?,x1]
   have s:wr.heap.size<wX.heap.size:=by omega
   have O:=Zc U T;have a7:=j.trans (T.mono (by omega));have E:=(hI.below (T.mono (by omega))).more (B':=wX.heap.size) (by omega);clear x1 T x3 U hc0 hc1 hI;go_wp2_with fail
   refine(Zok _ _ _ _ E K).mono ?_;rintro e w1 ⟨v1,rfl,P,m⟩;have b5:=m.size;have B:w1.cell? ⟨wr.heap.size,0,none⟩=some (.string nm):=(m.cell (p:=⟨wr.heap.size,0,none⟩) s).trans R;obtain⟨A1,c1,rfl⟩:=Za P;clear R a1;go_wp2_with fail
   obtain⟨u,Z⟩:∃u:World,u=wr:=⟨_,rfl⟩
   subst Z;go_loopw [19] (λ i wi=>∃q:Nat,q<=a.length/\i=.int .i64 q/\wi.ownsRow wX.heap.size 79 8 (.slice A1 a.length c1) a.length ((Zg4 nm a q).flatMap Zb)/\Below wX.heap.size wX wi) (λ i _=>a.length-(intOf i).toNat)
   case atStart=>exact⟨0,by omega,rfl,by rw[Zra];exact P,m⟩
   case round =>
    obtain⟨q,hq,rfl,d,f⟩:=hrel;by_cases r:q<a.length
    .obtain⟨g,rfl,hg1,hg2,a0,hg4,hg5⟩:=Zan d (by omega)
     have D:=f.size;have a3:wr.cell? ⟨g,q*8+6,none⟩=some (.string a[q].label):=by
      rw[hg4 _ (by omega),Zio _ q _ (Zpy nm a q r) 6 (by omega)];rfl
     have b6:wr.cell? ⟨u.heap.size,0,none⟩=some (.string nm):=by
      have h1:=f.cell (p:=⟨u.heap.size,0,none⟩) s;have h2:=m.cell (p:=⟨u.heap.size,0,none⟩) s;exact h1.trans (h2.symm.trans B)
     have n:a[q]∈a:=List.getElem_mem r;have a5:=N.out _ n;have M:=X.out _ _ Hx.out _ n;simp only at M;have b0:=hg5 (q*8+6);clear hg4 hg5;have hE:=Zk wr;have g1:u.heap.size<wr.heap.size:=by omega
     go_upto_region 9 with fail
     refine Za2 12 1 [0,1,2,3,4,5,6,7,8,9,10,11] (by kernel_rfl) (by kernel_rfl) (λ _ _ _ _ _ h=>h) ?_
     repeat (first
      | (refine Zh4 rfl ?_;go_big_quiet_step ((go_at_call 174;exact Zb0 (Zru _ _ _ a5 M)))))
     refine wpQuiet_nil ?_;rintro w2 ⟨⟨w3,l⟩,rfl⟩;simp only[List.drop_succ_cons,List.drop_zero];have b1:w2.cell? ⟨g,q*8+6,none⟩=some (.string a[q].label):=(l.cell (p:=⟨g,q*8+6,none⟩) hg2).trans a3;have b3:w2.frozen? ⟨g,q*8+6,none⟩=false:=(l.frozen (p:=⟨g,q*8+6,none⟩) hg2).trans b0;have C:=Zc d l;have t:=C.stored (q*8+6) (.string (owned nm a[q].label));rw[Zol nm a q r] at t;have W:=Ya t;have Q:=f.trans (l.mono D);clear hE t;go_wp2_with fail
     go_roundw
     case rel=>exact⟨q+1,by omega,by go_num,W.out.1,Q.setCell (p:=⟨g,q*8+6,none⟩) hg1 _⟩
     case measure=>simp[intOf];omega
    .have hqe:q=a.length:=by omega
     subst hqe;rw[Ztu] at d;have D:=f.size;have L:=Zc O f;have hbw:=a7.trans (f.mono (by omega));have J:∀x∈a.map (ownItem nm),0<=x.word/\x.word<=4294967295:=by
      intro x G;obtain⟨y,hy,rfl⟩:=List.mem_map.1 G;exact E.words y hy
     have V:=(Items.of_own d J).reads;have Y:A1=none->a.length=0:=λ h=>Zch d h
     have a6:((a.map (ownItem nm)).flatMap Zb).length=a.length*8:=by rw[Zd3,List.length_map]
     have b8:(joined (os.take k)).length+a.length<=1048576:=by
      have:(itemsOf ⟨nm,a⟩).length=a.length:=by simp[itemsOf]
      omega
     have z:=Zd4 (a.map (ownItem nm));have b4:=Ya d;clear d O J;go_wp2_with (at_builtin;refine Zs rfl (.tmp 35) (.tmp 36) _ rfl w.heap.size 79 Zv underlying80 rfl (by decide) _ _ _ rfl L wr.heap.size A1 a.length c1 _ rfl a6 Y V z (by simp only[maxLen];omega) (by omega) (by omega) ?_;intro v' w3 a2 a0 a8 b2)
     have F:w3.ownsRow w.heap.size 79 8 v' (joined (os.take (k+1))).length ((joined (os.take (k+1))).flatMap Zb):=by
      rw[I.out,Yd,Ybm];have e:(itemsOf ⟨nm,a⟩).length=a.length:=by simp[itemsOf]
      rw[e];exact a2
     exact⟨⟨k+1,by omega,by go_num,F,hbw.trans a8⟩,by simp[intOf];omega⟩
  .have hke:k=os.length:=by omega
   subst hke;rw[Yap] at U;go_wp2_with fail
   go_ret
   exact⟨_,rfl,U,j⟩
section
theorem Ztn (x:Int)(h0:0<=x)(a:x<=4294967295):bits .and .i64 x 65535=x%65536:=by
 have h:(BitVec.ofInt 64 x &&& BitVec.ofInt 64 65535).toNat=(x%65536).toNat:=by
  rw[BitVec.toNat_and];have a:(BitVec.ofInt 64 65535).toNat=2^16-1:=by decide
  rw[a,Nat.and_two_pow_sub_one_eq_mod,BitVec.toNat_ofInt];omega
 show IntKind.i64.wrap ((BitVec.ofInt 64 x &&& BitVec.ofInt 64 65535).toNat:Int)=_
 rw[h,IntKind.wrap_i64];omega
structure HOk (h:CH):Prop where
 fr0:0<=h.fr
 fr1:h.fr<=1000
 l0:0<=h.r.locals
 l1:h.r.locals<=200
section
variable {base p:Nat}{h:CH}{xs:List S.Item}{lab:Int}{w:World}(H:CAt base p h xs lab w)(hbw:base<=w.heap.size)
include H
theorem CAt.cell_fr:w.cell? ⟨p,5,none⟩=some (.int .i64 h.fr):=by
 obtain⟨_,v,a,_⟩:=H;rw[Yb a];rfl
theorem CAt.cell_loc:w.cell? ⟨p,2,none⟩=some (.int .i64 h.r.locals):=by
 obtain⟨_,v,a,_⟩:=H;rw[Yb a];rfl
theorem CAt.cell_bh:w.cell? ⟨p,3,none⟩=some (.bool h.r.behind):=by
 obtain⟨_,v,a,_⟩:=H;rw[Yb a];rfl
theorem CAt.cell_lab:w.cell? ⟨p,7,none⟩=some (.int .i64 lab):=by
 obtain⟨_,v,a,_⟩:=H;rw[Yb a];rfl
theorem Z1i (a:HOk h)(k:Nat)(hk:k<=1000000):Calls prog 240 #[.pointer (some ⟨p,0,none⟩),.int .i64 (k:Int)] w λ e w'=>e=.returned (.int .i64 (1+h.r.locals+k))/\w'=w:=by
 have c2:=H.cell_loc;obtain⟨_,_,l0,l1⟩:=a;generalize h.r.locals=L at *;clear H;go_enter func240,ntmps240
 go_wp2_with fail
 go_ret
 exact⟨rfl,rfl⟩
include hbw
theorem Zmi (g:xs.length<=100000000)(d a:Int):Calls prog 211 #[.pointer (some ⟨p,0,none⟩),.int .i64 d,.int .i64 a] w (Zg3 base p h xs [bMove d a] lab w):=by
 have b:=Ya (Za9 H hbw g 15 d a 0 0);clear H;go_enter func211,ntmps211
 go_wp2_with fail
 refine b.out.mono ?_;rintro e w2 ⟨rfl,f,c⟩;go_wp2_with fail
 go_end0
 exact⟨rfl,f,c⟩
theorem Zto (k:xs.length<=100000000)(i:HOk h)(d b:Int)(f:-1000000000<=b/\b<=1000000000):Calls prog 228 #[.pointer (some ⟨p,0,none⟩),.int .i64 d,.int .i64 b] w (Zg3 base p h xs [bLoad h.fr d b] lab w):=by
 have c:=Ya (Za9 H hbw k 24 d 28 0 (b-h.fr));have c5:=H.cell_fr;obtain⟨f0,f1,_,_⟩:=i;unfold bLoad;obtain⟨fr,a⟩:=Yx h.fr;rw[<- a] at c5 c f0 f1⊢;clear H a;go_enter func228,ntmps228
 go_wp2_with fail
 refine c.out.mono ?_;rintro e w2 ⟨rfl,j,g⟩;go_wp2_with fail
 go_end0
 exact⟨rfl,j,g⟩
theorem Ztp (k:xs.length<=100000000)(i:HOk h)(d b:Int)(f:-1000000000<=b/\b<=1000000000):Calls prog 209 #[.pointer (some ⟨p,0,none⟩),.int .i64 d,.int .i64 b] w (Zg3 base p h xs [bStore h.fr d b] lab w):=by
 have c:=Ya (Za9 H hbw k 25 0 28 d (b-h.fr));have c5:=H.cell_fr;obtain⟨f0,f1,_,_⟩:=i;unfold bStore;obtain⟨fr,a⟩:=Yx h.fr;rw[<- a] at c5 c f0 f1⊢;clear H a;go_enter func209,ntmps209
 go_wp2_with fail
 refine c.out.mono ?_;rintro e w2 ⟨rfl,j,g⟩;go_wp2_with fail
 go_end0
 exact⟨rfl,j,g⟩
theorem Z1j (g:xs.length<=100000000)(d:HOk h):Calls prog 212 #[.pointer (some ⟨p,0,none⟩)] w (Zg3 base p h xs [bPop h.fr] lab w):=by
 have b:=Ya (Za9 H hbw g 15 28 28 0 (-h.fr));have c5:=H.cell_fr;obtain⟨f0,f1,_,_⟩:=d;unfold bPop;obtain⟨fr,a⟩:=Yx h.fr;rw[<- a] at c5 b f0 f1⊢;clear H a;go_enter func212,ntmps212
 go_wp2_with fail
 refine b.out.mono ?_;rintro e w2 ⟨rfl,f,c⟩;go_wp2_with fail
 go_end0
 exact⟨rfl,f,c⟩
theorem Zjx (hl:xs.length+1<=100000000)(d n:Int)(hn:-2147483648<=n/\n<=4294967295):Calls prog 227 #[.pointer (some ⟨p,0,none⟩),.int .i64 d,.int .i64 n] w (Zg3 base p h xs (bConst d n) lab w):=by
 have g:=Ya (λ(ys:List S.Item) (W:World) (hy:ys.length<=1) (m:CAt base p h (xs++ys) lab W) (r:CK base w W) (op d a b imm:Int)=>Za9 m (by have:=r.size;omega) (by simp only[Yd];omega) op d a b imm);have f:=Ya H;clear H;unfold bConst;by_cases q:-32768<=n
 .by_cases h2:n<32768
  .rw[if_pos ⟨q,h2⟩]
   go_enter func227,ntmps227
   go_wp2_with fail
   refine(g.out [] w (by simp) (by simpa using f.out) (CK.refl _ _) 15 d 0 0 n).mono ?_;rintro e j ⟨rfl,i,c⟩;go_wp2_with fail
   go_end0
   exact⟨rfl,by simpa using i,c⟩
  .rw[if_neg (by omega)]
   go_enter func227,ntmps227
   go_wp2_with fail
   refine(g.out [] w (by simp) (by simpa using f.out) (CK.refl _ _) 23 d 0 0 (n/65536)).mono ?_;rintro e j ⟨rfl,i,c⟩;go_wp2_with fail
   rw[Ztn n (by omega) (by omega)];refine(g.out [bI 23 d 0 0 (n/65536)] j (by simp) (by simpa using i) c 17 d d 0 (n%65536)).mono ?_;rintro e o ⟨rfl,k,l⟩;go_wp2_with fail
   go_end0
   have s:n%4294967296=n:=by omega
   exact⟨rfl,by rw[s];simpa using k,c.trans l⟩
 .rw[if_neg (by omega)]
  go_enter func227,ntmps227
  go_wp2_with fail
  refine(g.out [] w (by simp) (by simpa using f.out) (CK.refl _ _) 23 d 0 0 (n%4294967296/65536)).mono ?_;rintro e j ⟨rfl,i,c⟩;go_wp2_with fail
  rw[Ztn (n%4294967296) (by omega) (by omega)];refine(g.out [bI 23 d 0 0 (n%4294967296/65536)] j (by simp) (by simpa using i) c 17 d d 0 (n%4294967296%65536)).mono ?_;rintro e o ⟨rfl,k,l⟩;go_wp2_with fail
  go_end0
  exact⟨rfl,by simpa using k,c.trans l⟩
theorem Zz9 (hl:xs.length+6<=100000000)(D:HOk h):Calls prog 183 #[.pointer (some ⟨p,0,none⟩)] w (Zg3 base p h xs (bBack h.fr h.r.behind) lab w):=by
 have i:=Ya (λ(ys:List S.Item) (W:World) (hy:ys.length<=6) (n:CAt base p h (xs++ys) lab W) (F:CK base w W) (op d a b imm:Int)=>Za9 n (by have:=F.size;omega) (by simp only[Yd];omega) op d a b imm);have y:=Ya (Z1j H hbw (by omega) D);have u:=Ya (λ(ys:List S.Item) (W:World) (n:CAt base p h (xs++ys) lab W)=>n.cell_bh);clear H;obtain⟨ys,c⟩:=Yx (bBack h.fr h.r.behind);rw[<- c];unfold bBack at c;have f:=Ya c;clear c;obtain⟨B,j⟩:=Yx h.r.behind;rw[<- j] at u f;clear j;go_enter func183,ntmps183
 go_wp2_with fail
 refine y.out.mono ?_;rintro e z ⟨rfl,E,v⟩;go_wp2_with fail
 refine(i.out [bPop h.fr] z (by simp) E v 24 31 28 0 0).mono ?_;rintro e t ⟨rfl,m,k2⟩;rw[Yp] at m;have g:=v.trans k2;have c3:=u.out _ _ m
 cases B with
 | false =>
  go_wp2_with fail
  refine(i.out _ t (by simp) m g 33 0 31 0 0).mono ?_;rintro e q ⟨rfl,l,k⟩;go_wp2_with fail
  go_end0
  exact⟨rfl,by rw[f.out];simpa using l,g.trans k⟩
 | true =>
  go_wp2_with fail
  refine(i.out _ t (by simp) m g 24 25 31 0 0).mono ?_;rintro e q ⟨rfl,l,k⟩;rw[Yp] at l;go_wp2_with fail
  refine(i.out _ q (by simp) l (g.trans k) 1 31 31 25 0).mono ?_;rintro e A ⟨rfl,s,o⟩;rw[Yp] at s;go_wp2_with fail
  refine(i.out _ A (by simp) s ((g.trans k).trans o) 33 0 31 0 1).mono ?_;rintro e w6 ⟨rfl,x,C⟩;go_wp2_with fail
  go_end0
  exact⟨rfl,by rw[f.out];simpa using x,((g.trans k).trans o).trans C⟩
theorem Zk2 (G:3<=base)(n:LVE w)(C:0<=lab/\lab<=1000000000):Calls prog 225 #[.pointer (some ⟨p,0,none⟩)] w λ e w'=>e=.returned (.string (bLab (lab+1)))/\CAt base p h xs (lab+1) w'/\CK base w w':=by
 have A:=Ya (show bLab (lab+1)=⟨(46::S.itoa (lab+1)).toArray⟩ from rfl);have l:=Ya (Zpx (lab+1));have x:=Ya (λ W (n:LVE W)=>Ztr (lab+1) ⟨by omega,by omega⟩ W n);generalize bLab (lab+1)=R at *;generalize S.itoa (lab+1)=I at *;have c7:=H.cell_lab;have J:=H.lt;obtain⟨a,v,b,u⟩:=H;have f7:w.frozen? ⟨p,7,none⟩=false:=Yy b 7;have t:=Zaq u b (by decide);have B:(w.setCell ⟨p,7,none⟩ (.int .i64 (lab+1))).heap[p]?=some (.cells (Zgq h v (lab+1)) 214):=by
  rw[setCell_eq_setRow _ _ _ _ _ _ _ b];exact setRow_heap _ _ _ _ _ _ b
 have f:Below base w (w.setCell ⟨p,7,none⟩ (.int .i64 (lab+1))):=(Yj _ _).setCell (p:=⟨p,7,none⟩) a _;have g:=u.kept (w':=w.setCell ⟨p,7,none⟩ (.int .i64 (lab+1))) (row:=some p) ⟨rfl,rfl,rfl,by simp[World.setCell],λ k _ b=>Yal _ _ _ _ (λ e=>b (by simp[e]))⟩ (Or.inr t);have j:CAt base p h xs (lab+1) (w.setCell ⟨p,7,none⟩ (.int .i64 (lab+1))):=⟨a,v,B,g⟩
 have c:CK base w (w.setCell ⟨p,7,none⟩ (.int .i64 (lab+1))):=⟨f,λ k r T o q h1 F=>by
  have y:k≠p:=by
   rintro rfl;rw[b] at q;simp only[Option.some.injEq,Obj.cells.injEq] at q;exact F q.2.1.symm
  rw[Yal _ _ _ _ y];exact q⟩
 have s:=Ya j;have z:=Ya c;have E:=Ya (n.keep f G);have g7:(w.setCell ⟨p,7,none⟩ (.int .i64 (lab+1))).cell? ⟨p,7,none⟩=some (.int .i64 (lab+1)):=by rw[Yb B];rfl
 have hsz:base<=(w.setCell ⟨p,7,none⟩ (.int .i64 (lab+1))).heap.size:=by have:=c.size;omega
 clear j c f g B b u n;go_enter func225,ntmps225
 go_upto_region 2 with fail
 generalize w.setCell ⟨p,7,none⟩ (.int .i64 (lab+1))=w2 at *;clear c7 f7;go_wp2_with fail
 refine(x.out w2 E.out).mono ?_;rintro e w3 ⟨rfl,d⟩;have K:=Ya (Z1k [46] I);have m:=Ya (s.out.keep d);have i:=Ya (z.out.trans (CK.of d hsz));have D:=l.out;clear E d;go_wp2_with fail
 go_ret
 exact⟨Z1l (by rw[A.out];exact K.out),m.out,i.out⟩
end
end
theorem Zde (fr L:Int):∀k,(bStores fr L k).length=k
 | 0=>rfl
 | k+1=>by rw[bStores,Yd,Zde fr L k];rfl
theorem Zf4 (fr L:Int):∀k,(bLoads fr L k).length=k
 | 0=>rfl
 | k+1=>by rw[bLoads,Yd,Zf4 fr L k];rfl
theorem Zdv (at_:Nat):∀k,(bArgs at_ k).length=k
 | 0=>rfl
 | k+1=>by rw[bArgs,Yd,Zdv at_ k];rfl
theorem Z32 {base p:Nat}{h:CH}{xs:List S.Item}{lab:Int}{w:World}(H:CAt base p h xs lab w)(hbw:base<=w.heap.size)(B:HOk h)(op n:Int)(nm:ByteArray)(A:Option Addr)(N c at_:Nat)(hN:N<=1000000)(a7:at_<=1000000)
 (hl:xs.length+(bCall h.fr h.r.locals nm N at_).length<=100000000) :
 Calls prog 229 #[.pointer (some ⟨p,0,none⟩),.agg #[.int .i64 op,.int .i64 n,.string nm,.slice A N c],.int .i64 (at_:Int)] w (Zg3 base p h xs (bCall h.fr h.r.locals nm N at_) lab w):=by
 have C:Below w.heap.size w (w.alloc (.cells #[.int .i64 op,.int .i64 n,.string nm,.slice A N c] 149)):=(Yj _ _).alloc (Yc _) _;have I:=heap_alloc_new w (.cells #[.int .i64 op,.int .i64 n,.string nm,.slice A N c] 149);have a6:w.heap.size<(w.alloc (.cells #[.int .i64 op,.int .i64 n,.string nm,.slice A N c] 149)).heap.size:=by simp
 have t:=Ya (CK.of C hbw);have H2:=H.keep C;obtain⟨ys,f⟩:=Yx (bCall h.fr h.r.locals nm N at_);rw[<- f] at hl⊢;unfold bCall at f;have m:ys.length=at_+N+1+at_+1:=by
  rw[f];simp only[Yd,Zde,Zf4,Zdv,Yk,Yad]
 rw[m] at hl;have J:=Ya f;have a2:=B.l0;have a5:=B.l1;have HO:=Ya B;have g:=Ya (λ(D:List S.Item) (W:World) (Q:CAt base p h D lab W) (k:Nat) (hk:k<=1000000)=>Z1i Q B k hk);have U:=Ya (λ(D:List S.Item) (W:World) (Q:CAt base p h D lab W) (hb:base<=W.heap.size) (hz:D.length<=100000000) (d u:Int) (s:-1000000000<=u/\u<=1000000000)=>Ztp Q hb hz B d u s);have M:=Ya (λ(D:List S.Item) (W:World) (Q:CAt base p h D lab W) (hb:base<=W.heap.size) (hz:D.length<=100000000) (d u:Int) (s:-1000000000<=u/\u<=1000000000)=>Zto Q hb hz B d u s);obtain⟨L,hL⟩:=Yx h.r.locals;rw[<- hL] at a2 a5 J g;have HL:=Ya hL;clear f H B hL m;go_enter func229,ntmps229
 go_upto_region 1 with fail
 have a4:=Ya I;have a3:=Ya H2;clear C I H2;generalize w.alloc (.cells #[.int .i64 op,.int .i64 n,.string nm,.slice A N c] 149)=w2 at *;go_wp2_with fail
 go_loopw [10] (λ F wr=>∃k:Nat,k<=at_/\F=.int .i64 k/\Hid (CAt base p h (xs++bStores h.fr L k) lab wr)/\Hid (CK base w2 wr)) (λ F _=>at_-(intOf F).toNat)
 case atStart=>exact⟨0,by omega,rfl,Ya (by simpa[bStores] using a3.out),Ya (CK.refl _ _)⟩
 case round =>
  obtain⟨k,hk,rfl,HC,Z⟩:=hrel;obtain⟨wo,a1⟩:=Yx wr;subst a1;by_cases Y:k<at_
  .have a:=Ya (g.out _ _ HC.out k (by omega))
   have y:=Ya (U.out _ _ HC.out (by have:=Z.out.size;have:=t.out.size;omega) (by rw[Yd,Zde];omega) (11+(k:Int)) (1+L+(k:Int)) (by omega));go_wp2_with fail
   refine a.out.mono ?_;rintro e w3 ⟨rfl,rfl⟩;go_wp2_with fail
   refine y.out.mono ?_;rintro e w4 ⟨rfl,z,v⟩;go_wp2_with fail
   go_roundw
   case rel=>exact⟨k+1,by omega,by go_num,Ya (by rw[bStores,<- Yp];exact z),Ya (Z.out.trans v)⟩
   case measure=>simp[intOf];omega
  .have hkN:at_=k:=by omega
   subst hkN;have l:=Ya (Z.out.keep w.heap.size _ _ _ a4.out (by decide) (by decide));have q3:wo.cell? ⟨w.heap.size,3,none⟩=some (.slice A N c):=by rw[Yb l.out];rfl
   go_wp2_with fail
   have b:=Ya (Zde h.fr L at_);generalize bStores h.fr L at_=st at *;go_loopw [24] (λ G wr=>∃k:Nat,k<=N/\G=.int .i64 k/\Hid (CAt base p h (xs++st++bArgs at_ k) lab wr)/\Hid (CK base wo wr)) (λ G _=>N-(intOf G).toNat)
   case atStart=>exact⟨0,by omega,rfl,Ya (by simpa[bArgs] using HC.out),Ya (CK.refl _ _)⟩
   case round =>
    obtain⟨k,hk,rfl,X,j⟩:=hrel;obtain⟨T,O⟩:=Yx wr;subst O;have K:base<=T.heap.size:=by have:=j.out.size;have:=Z.out.size;have:=t.out.size;omega
    by_cases Y:k<N
    .have a:=Ya (Zmi X.out K (by rw[Yd,Yd,Zdv,b.out];omega) (4+(k:Int)) (11+(at_:Int)+(k:Int)))
     go_wp2_with fail
     refine a.out.mono ?_;rintro e w4 ⟨rfl,z,v⟩;go_wp2_with fail
     go_roundw
     case rel=>exact⟨k+1,by omega,by go_num,Ya (by rw[bArgs,<- Yp];exact z),Ya (j.out.trans v)⟩
     case measure=>simp[intOf];omega
    .have hkN:N=k:=by omega
     subst hkN;have E:=Ya (j.out.keep w.heap.size _ _ _ l.out (by decide) (by decide));have q2:T.cell? ⟨w.heap.size,2,none⟩=some (.string nm):=by rw[Yb E.out];rfl
     have Hj:=Ya (Zpv X.out K (by rw[Yd,Yd,Zdv,b.out];omega) 31 nm);go_wp2_with fail
     refine Hj.out.mono ?_;rintro e w5 ⟨rfl,h5,h6⟩;go_wp2_with fail
     have P:=Ya (Zdv at_ N);generalize bArgs at_ N=ar at *;go_loopw [41] (λ x wr=>∃k:Nat,k<=at_/\x=.int .i64 k/\Hid (CAt base p h (xs++st++ar++[bJ 31 nm]++bLoads h.fr L k) lab wr)/\Hid (CK base w5 wr)) (λ x _=>at_-(intOf x).toNat)
     case atStart=>exact⟨0,by omega,rfl,Ya (by simpa[bLoads] using h5),Ya (CK.refl _ _)⟩
     case round =>
      obtain⟨k,hk,rfl,q,o⟩:=hrel;obtain⟨a0,R⟩:=Yx wr;subst R;have V:base<=a0.heap.size:=by have:=o.out.size;have:=h6.size;omega
      have i:(xs++st++ar++[bJ 31 nm]++bLoads h.fr L k).length=xs.length+at_+N+1+k:=by simp only[Yd,P.out,b.out,Zf4,Yk,Yad]
      by_cases Y:k<at_
      .have a:=Ya (g.out _ _ q.out k (by omega))
       have y:=Ya (M.out _ _ q.out V (by rw[i];omega) (11+(k:Int)) (1+L+(k:Int)) (by omega));clear i;go_wp2_with fail
       refine a.out.mono ?_;rintro e w3 ⟨rfl,rfl⟩;go_wp2_with fail
       refine y.out.mono ?_;rintro e w4 ⟨rfl,z,v⟩;go_wp2_with fail
       go_roundw
       case rel=>exact⟨k+1,by omega,by go_num,Ya (by rw[bLoads,<- Yp];exact z),Ya (o.out.trans v)⟩
       case measure=>simp[intOf];omega
      .have hkN:at_=k:=by omega
       subst hkN;have a:=Ya (Zmi q.out V (by rw[i];omega) (11+(at_:Int)) 4);clear i;go_wp2_with fail
       refine a.out.mono ?_;rintro e w4 ⟨rfl,z,v⟩;go_wp2_with fail
       go_end0
       refine⟨rfl,?_,t.out.trans (Z.out.trans (j.out.trans (h6.trans (o.out.trans v))))⟩;rw[J.out]
       simpa[Yp] using z
theorem Ze1 (fr L:Int)(e:BE):∀(l:List BE)(i:Nat),bExprs fr L (l++[e]) i=bExprs fr L l i++bExpr fr L e (i+l.length)
 | [],i=>by simp[bExprs]
 | x::r,i=>by
  rw[Y9,bExprs,bExprs,Ze1 fr L e r (i+1),Yp,Yk];have:i+1+r.length=i+(r.length+1):=by omega
  rw[this]
theorem Zfd (fr L:Int)(m:List BE):∀(l:List BE)(i:Nat),bExprs fr L (l++m) i=bExprs fr L l i++bExprs fr L m (i+l.length)
 | [],i=>by simp[bExprs]
 | x::r,i=>by
  rw[Y9,bExprs,bExprs,Zfd fr L m r (i+1),Yp,Yk];have:i+1+r.length=i+(r.length+1):=by omega
  rw[this]
theorem Zhy (fr L:Int)(l:List BE)(i k:Nat):(bExprs fr L (l.take k) i).length<=(bExprs fr L l i).length:=by
 have:=Zfd fr L (l.drop k) (l.take k) i;rw[Ybb] at this;rw[this,Yd];omega
theorem Zxu (fr L:Int)(e:BE)(at_:Nat):bExpr fr L e at_=bExprs fr L e.kids at_++bOp fr L e.op e.n e.name e.kids.length at_:=by
 obtain⟨op,n,nm,kids⟩:=e;rw[bExpr];rfl
theorem Zdw (L:Int):∀{l:List BE},formedEs L l=true->∀e∈l,formedE L e=true
 | x::r,h,e,a=>by
  rw[formedEs,Yq] at h;rcases List.mem_cons.1 a with rfl|a
  .exact h.1
  .exact Zdw L h.2 e a
theorem Zk3 {L:Int}{e:BE}(h:formedE L e=true):headE L e.op e.n e.name e.kids.length=true/\formedEs L e.kids=true:=by
 obtain⟨op,n,nm,kids⟩:=e;rw[formedE,Yq] at h;exact h
theorem Zoh:∀{l:List BE} {k:Nat} {e:BE},l[k]?=some e->k+szE e<=Zem l
 | [],k,e,h=>by simp at h
 | x::r,0,e,h=>by
  simp only[List.getElem?_cons_zero,Option.some.injEq] at h;subst h;rw[Zem];omega
 | x::r,k+1,e,h=>by
  have h1:=Zoh (l:=r) (k:=k) (e:=e) (by simpa using h);have:=Zdj x;rw[Zem];omega
theorem Zoi {L op n:Int}{nm:ByteArray}{N:Nat}(h:headE L op n nm N=true):(1<=op/\op<=10)/\(op=1->-2147483648<=n/\n<=4294967295)/\(op=2->0<=n/\n<L)/\N=kidsE op N:=by
 unfold headE at h;simp only[Yq,decide_eq_true_eq] at h;obtain⟨⟨⟨⟨c,a⟩,b⟩,_⟩,_⟩:=h;refine⟨c,λ e=>?_,λ e=>?_,b⟩
 .subst e;unfold numE at a;rw[if_pos rfl] at a;have:=of_decide_eq_true a;omega
 .subst e;unfold numE at a;rw[if_neg (by decide),if_pos rfl] at a;exact of_decide_eq_true a
theorem Zoj (n:Int)(hn:0<=n/\n<=1000000)(w:World):Calls prog 181 #[.int .i64 n] w λ e w'=>e=.returned (.int .i64 (1+n))/\w'=w:=by
 go_enter func181,ntmps181
 go_wp2_with fail
 go_ret
 exact⟨rfl,rfl⟩
def Exp (base p:Nat)(h:CH)(n:Nat):Prop:=∀(e:BE)(A:Option Addr)(c at_:Nat)(xs:List S.Item)(lab:Int)(w:World),szE e<=n->formedE h.r.locals e=true->at_+szE e<=1000000->CAt base p h xs lab w->base<=w.heap.size->EList w base A e.kids->e.name.size<=maxLen ->
 xs.length+(bExpr h.fr h.r.locals e at_).length+10<=100000000 ->
 Calls prog 208 #[.pointer (some ⟨p,0,none⟩),.agg #[.int .i64 e.op,.int .i64 e.n,.string e.name,.slice A e.kids.length c],.int .i64 (at_:Int)] w (Zg3 base p h xs (bExpr h.fr h.r.locals e at_) lab w)
theorem Z0a {base p:Nat}{h:CH}(hO:HOk h):∀n,Exp base p h n:=by
 intro n
 induction n with
 | zero=>intro e A c at_ xs lab w hs;have:=Zdj e;omega
 | succ n ih =>
  intro e A c at_ xs lab w hs hF d9 H hbw hA d7 hl;obtain⟨hh,b5⟩:=Zk3 hF;have d4:=Zdj e;have b1:=Zeb e.kids;rw[Zxu] at hl⊢;have d3:=Ya ih;have HA:=Ya hA;have Hh:=Ya hh;have Z:=Ya b5;have a1:=Ya (λ e' k (he:e.kids[k]?=some e')=>(show szE e'<=n/\at_+k+szE e'<=1000000 from by have:=Zoh he;omega));obtain⟨kids,P⟩:∃k,k=e.kids:=⟨_,rfl⟩
  obtain⟨N,hN⟩:=Yx kids.length;rw[<- P] at HA Hh Z a1 hl d4 b1⊢;rw[<- hN] at Hh hl b1⊢;have HN:=Ya hN;generalize e.op=op at *;generalize e.n=en at *;generalize e.name=nm at *;clear P hN ih hA hF hh b5;have a3:Below w.heap.size w (w.alloc (.cells #[.int .i64 op,.int .i64 en,.string nm,.slice A N c] 149)):=(Yj _ _).alloc (Yc _) _;have a7:=heap_alloc_new w (.cells #[.int .i64 op,.int .i64 en,.string nm,.slice A N c] 149);have j:=Ya (CK.of a3 hbw);have H2:=Ya (H.keep a3);have b2:=Ya a7;clear H a3 a7;go_enter func208,ntmps208
  go_upto_region 1 with fail
  generalize w.alloc (.cells #[.int .i64 op,.int .i64 en,.string nm,.slice A N c] 149)=w2 at *;have q3:w2.cell? ⟨w.heap.size,3,none⟩=some (.slice A N c):=by rw[Yb b2.out];rfl
  go_wp2_with fail
  obtain⟨b7,Y⟩:∃o,o=bOp h.fr h.r.locals op en nm N at_:=⟨_,rfl⟩
  rw[<- Y] at hl⊢;have b8:=Ya Y;clear Y;rw[Yd] at hl;have a8:=Ya (λ k=>Zhy h.fr h.r.locals kids at_ k);go_loopw [14] (λ a0 wr=>∃k:Nat,k<=N/\a0=.int .i64 k/\Hid (CAt base p h (xs++bExprs h.fr h.r.locals (kids.take k) at_) lab wr)/\Hid (CK base w2 wr)) (λ a0 _=>N-(intOf a0).toNat)
  case atStart=>exact⟨0,by omega,rfl,Ya (by simpa[bExprs] using H2.out),Ya (CK.refl _ _)⟩
  case round =>
   obtain⟨k,hk,rfl,G,F⟩:=hrel;obtain⟨t,b9⟩:=Yx wr;subst b9;have g:base<=t.heap.size:=by have:=F.out.size;have:=j.out.size;omega
   by_cases I:k<N
   .obtain⟨y,he1⟩:∃y,kids[k]?=some y:=⟨_,Ye (by rw[<- HN.out];exact I)⟩
    obtain⟨b,off,A',c',rfl,d8,q0,q1,q2,e2,q4,q5,q6⟩:=(HA.out.below (j.out.trans F.out).below).at_ he1;have X:=List.mem_of_getElem? he1;obtain⟨b0,d0⟩:=a1.out y k he1;have b3:(kids.take k).length=k:=by have:=HN.out;rw[List.length_take];omega
    have a4:bExprs h.fr h.r.locals (kids.take (k+1)) at_=bExprs h.fr h.r.locals (kids.take k) at_++bExpr h.fr h.r.locals y (at_+k):=by rw[Zdf kids he1,Ze1,b3]
    have V:=a8.out (k+1);rw[a4,Yd] at V;have e0:b<t.heap.size:=by omega
    have O:Below t.heap.size t (t.alloc (.cells #[.int .i64 y.op,.int .i64 y.n,.string y.name,.slice A' y.kids.length c'] 149)):=(Yj _ _).alloc (Yc _) _;have Q:=d3.out y A' c' (at_+k) (xs++bExprs h.fr h.r.locals (kids.take k) at_) lab (t.alloc (.cells #[.int .i64 y.op,.int .i64 y.n,.string y.name,.slice A' y.kids.length c'] 149)) b0 (Zdw _ Z.out y X) (by omega) (G.out.keep O) (Yz g O.size) (q6.below (O.mono g)) q4 (by rw[Yd];omega);have c9:=Ya a4;have c5:=Ya (CK.of O g);clear a4 V O b3;generalize bExpr h.fr h.r.locals y (at_+k)=zs at *;generalize y.op=op' at *;generalize y.n=en' at *;generalize y.name=nm' at *;generalize y.kids.length=N' at *;rw[show((at_+k:Nat):Int)=(at_:Int)+(k:Int) from by omega] at Q;have b6:=Ya Q;clear Q q4 q5 q6 he1 X b0 d0;go_wp2_with fail
    refine b6.out.mono ?_;rintro e T ⟨rfl,z,q⟩;go_wp2_with fail
    go_roundw
    case rel=>exact⟨k+1,by omega,by go_num,Ya (by rw[c9.out,<- Yp];exact z),Ya (F.out.trans (c5.out.trans q))⟩
    case measure=>simp[intOf];omega
   .have hkN:N=k:=by omega
    subst hkN;have m:=Ya (F.out.keep w.heap.size _ _ _ b2.out (by decide) (by decide));have c0:t.cell? ⟨w.heap.size,0,none⟩=some (.int .i64 op):=by rw[Yb m.out];rfl
    have c1:t.cell? ⟨w.heap.size,1,none⟩=some (.int .i64 en):=by rw[Yb m.out];rfl
    have c2:t.cell? ⟨w.heap.size,2,none⟩=some (.string nm):=by rw[Yb m.out];rfl
    have c3:t.cell? ⟨w.heap.size,3,none⟩=some (.slice A N c):=by rw[Yb m.out];rfl
    have ht:kids.take N=kids:=by rw[HN.out,Yap]
    rw[ht] at G;clear ht q3;generalize bExprs h.fr h.r.locals kids at_=ks at *;obtain⟨⟨o1,o2⟩,f,d,-⟩:=Zoi Hh.out;have l:(xs++ks).length=xs.length+ks.length:=Yd;clear Hh HA Z a1 a8;rcases(show op=1\/op=2\/op=3\/op=4\/op=5\/op=6\/op=7\/op=8\/op=9\/op=10 by omega) with rfl|rfl|rfl|rfl|rfl|rfl|rfl|rfl|rfl|rfl
    .have Hob:=Ya (show bOp h.fr h.r.locals 1 en nm N at_=bConst (11+(at_:Int)) en from rfl)
     have D:=Ya (Zjx G.out g (by rw[l];omega) (11+(at_:Int)) en (by have:=f rfl;omega));clear f d;go_wp2_with fail
     refine D.out.mono ?_;rintro e T ⟨rfl,z,q⟩;go_wp2_with fail
     go_end0
     refine⟨rfl,?_,j.out.trans (F.out.trans q)⟩;rw[Hob.out,<- Yp];exact z
    .have Hob:=Ya (show bOp h.fr h.r.locals 2 en nm N at_=[bLoad h.fr (11+(at_:Int)) (1+en)] from rfl)
     have d2:=Ya (Zoj en (by have:=d rfl;have:=hO.l1;omega) t);have D:=Ya (Zto G.out g (by rw[l];omega) hO (11+(at_:Int)) (1+en) (by have:=d rfl;have:=hO.l1;omega));clear f d;go_wp2_with fail
     refine d2.out.mono ?_;rintro e w3 ⟨rfl,rfl⟩;go_wp2_with fail
     refine D.out.mono ?_;rintro e T ⟨rfl,z,q⟩;go_wp2_with fail
     go_end0
     refine⟨rfl,?_,j.out.trans (F.out.trans q)⟩;rw[Hob.out,<- Yp];exact z
    .have Hob:=Ya (show bOp h.fr h.r.locals 3 en nm N at_=[bMove (11+(at_:Int)) en] from rfl)
     have D:=Ya (Zmi G.out g (by rw[l];omega) (11+(at_:Int)) en);clear f d;go_wp2_with fail
     refine D.out.mono ?_;rintro e T ⟨rfl,z,q⟩;go_wp2_with fail
     go_end0
     refine⟨rfl,?_,j.out.trans (F.out.trans q)⟩;rw[Hob.out,<- Yp];exact z
    .have Hob:=Ya (show bOp h.fr h.r.locals 4 en nm N at_=[bI en (11+(at_:Int)) (11+(at_:Int)) (11+(at_:Int)+1) 0] from by show [bI en _ _ (12+(at_:Int)) 0]=_;rw[show 11+(at_:Int)+1=12+(at_:Int) from by omega])
     have D:=Ya (Za9 G.out g (by rw[l];omega) en (11+(at_:Int)) (11+(at_:Int)) (11+(at_:Int)+1) 0);clear f d;go_wp2_with fail
     refine D.out.mono ?_;rintro e T ⟨rfl,z,q⟩;go_wp2_with fail
     go_end0
     refine⟨rfl,?_,j.out.trans (F.out.trans q)⟩;rw[Hob.out,<- Yp];exact z
    .have Hob:=Ya (show bOp h.fr h.r.locals 5 en nm N at_=[bI 24 (11+(at_:Int)) (11+(at_:Int)) 0 en] from rfl)
     have D:=Ya (Za9 G.out g (by rw[l];omega) 24 (11+(at_:Int)) (11+(at_:Int)) 0 en);clear f d;go_wp2_with fail
     refine D.out.mono ?_;rintro e T ⟨rfl,z,q⟩;go_wp2_with fail
     go_end0
     refine⟨rfl,?_,j.out.trans (F.out.trans q)⟩;rw[Hob.out,<- Yp];exact z
    .have Hob:=Ya (show bOp h.fr h.r.locals 6 en nm N at_=bCall h.fr h.r.locals nm N at_ from rfl)
     have D:=Ya (Z32 G.out g hO 6 en nm A N c at_ (by omega) (by omega) (by rw[l,<- Hob.out,<- b8.out];omega));clear f d;go_wp2_with fail
     refine D.out.mono ?_;rintro e T ⟨rfl,z,q⟩;go_wp2_with fail
     go_end0
     refine⟨rfl,?_,j.out.trans (F.out.trans q)⟩;rw[Hob.out,<- Yp];exact z
    .have Hob:=Ya (show bOp h.fr h.r.locals 7 en nm N at_=[bI 9 (11+(at_:Int)) (11+(at_:Int)) (11+(at_:Int)+1) 0]++bConst (11+(at_:Int)+1) 1++[bI 14 (11+(at_:Int)) (11+(at_:Int)) (11+(at_:Int)+1) 0] from by
      show [bI 9 _ _ (12+(at_:Int)) 0]++bConst (12+(at_:Int)) 1++[bI 14 _ _ (12+(at_:Int)) 0]=_
      rw[show 11+(at_:Int)+1=12+(at_:Int) from by omega])
     have D:=Ya (Za9 G.out g (by rw[l];omega) 9 (11+(at_:Int)) (11+(at_:Int)) (11+(at_:Int)+1) 0);clear f d;go_wp2_with fail
     refine D.out.mono ?_;rintro e T ⟨rfl,z,q⟩;have d1:=Ya (Zjx z (by have:=q.size;omega) (by rw[Yd,l];show _+1+1<=_;omega) (11+(at_:Int)+1) 1 (by omega));have d5:=q.keep _ _ _ _ m.out (by decide) (by decide);go_wp2_with fail
     refine d1.out.mono ?_;rintro e w5 ⟨rfl,h5,h6⟩;have c4:=Ya (Za9 h5 (by have:=q.size;have:=h6.size;omega) (by rw[Yd,Yd,l];show _+1+1<=_;omega) 14 (11+(at_:Int)) (11+(at_:Int)) (11+(at_:Int)+1) 0);go_wp2_with fail
     refine c4.out.mono ?_;rintro e w6 ⟨rfl,h7,h8⟩;go_wp2_with fail
     go_end0
     refine⟨rfl,?_,j.out.trans (F.out.trans ((q.trans h6).trans h8))⟩;rw[Hob.out]
     simpa[Yp] using h7
    .have Hob:=Ya (show bOp h.fr h.r.locals 8 en nm N at_=[bI 34 (11+(at_:Int)) 0 0 0] from rfl)
     have D:=Ya (Za9 G.out g (by rw[l];omega) 34 (11+(at_:Int)) 0 0 0);clear f d;go_wp2_with fail
     refine D.out.mono ?_;rintro e T ⟨rfl,z,q⟩;go_wp2_with fail
     go_end0
     refine⟨rfl,?_,j.out.trans (F.out.trans q)⟩;rw[Hob.out,<- Yp];exact z
    .have Hob:=Ya (show bOp h.fr h.r.locals 9 en nm N at_=[bA (11+(at_:Int)) nm] from rfl)
     clear f d;go_wp2_with fail
     refine wp_region_any (by kernel_rfl) ?_;change wpAny _ _ _ _ _ _ _ (World.drew t);have M:Below t.heap.size t t.drew:=⟨rfl,rfl,rfl,Yc _,λ _ _=>rfl⟩
     have b4:w.heap.size<t.heap.size:=by
      rcases Nat.lt_or_ge w.heap.size t.heap.size with h'|h'
      .exact h'
      .have:=m.out;simp[Array.getElem?_eq_none h'] at this
     have H3:=G.out.keep M;have a9:=(M.block _ b4).trans m.out;have a2:=Ya (F.out.trans (CK.of M g));have s:base<=t.drew.heap.size:=Yz g M.size;clear c0 c1 c2 c3 M G m;generalize t.drew=w3 at *;have q2:w3.cell? ⟨w.heap.size,2,none⟩=some (.string nm):=by rw[Yb a9];rfl
     have c7:(xs++ks).length<=100000000:=by rw[l];omega
     obtain⟨zs,a6⟩:=Yx (xs++ks);rw[<- a6] at H3 c7;have a5:=Ya a6;clear l a6;have I:=H3.lt;obtain⟨L,v,hk,ho⟩:=H3;have c6:w3.cell? ⟨p,6,none⟩=some v:=by rw[Yb hk];rfl
     have R:=Ya hk;have U:=Ya ho;obtain⟨A',c',rfl⟩:=Za ho;clear hk ho a9
     (refine wpAny_take (i:=0) (v:=?vv13) rfl (by kernel_rfl) (by kernel_rfl) (by kernel_rfl) (λ _ _ _ h=>h) (Or.inl ⟨by rfl,?yy13⟩) ?zz13;(case yy13=>intro w;go_simp;try with_reducible rfl);go_simp)
     (refine wpAny_take (i:=1) (v:=?vv14) rfl (by kernel_rfl) (by kernel_rfl) (by kernel_rfl) (λ _ _ _ h=>h) (Or.inl ⟨by rfl,?yy14⟩) ?zz14;(case yy14=>intro w;go_simp;try with_reducible rfl);go_simp)
     (refine wpAny_take (i:=2) (v:=?vv15) rfl (by kernel_rfl) (by kernel_rfl) (by kernel_rfl) (λ _ _ _ h=>h) (Or.inl ⟨by rfl,?yy15⟩) ?zz15;(case yy15=>intro w;go_simp;try with_reducible rfl);go_simp)
     (refine wpAny_take (i:=3) (v:=?vv16) rfl (by kernel_rfl) (by kernel_rfl) (by kernel_rfl) (λ _ _ _ h=>h) (Or.inl ⟨by rfl,?yy16⟩) ?zz16;(case yy16=>intro w;go_simp;try with_reducible rfl);go_simp)
     (refine wpAny_take (i:=5) (v:=?vv17) rfl (by kernel_rfl) (by kernel_rfl) (by kernel_rfl) (λ _ _ _ h=>h) (Or.inl ⟨by rfl,?yy17⟩) ?zz17;(case yy17=>intro w;go_simp;try with_reducible rfl);go_simp)
     (refine wpAny_take (i:=6) (v:=?vv18) rfl (by kernel_rfl) (by kernel_rfl) (by kernel_rfl) (λ _ _ _ h=>h) (Or.inl ⟨by rfl,?yy18⟩) ?zz18;(case yy18=>intro w;go_simp;try with_reducible rfl);go_simp)
     (refine wpAny_take (i:=7) (v:=?vv19) rfl (by kernel_rfl) (by kernel_rfl) (by kernel_rfl) (λ _ _ _ h=>h) (Or.inl ⟨by rfl,?yy19⟩) ?zz19;(case yy19=>intro w;go_simp;try with_reducible rfl);go_simp)
     refine wpAny_ready (rs:=[4,8]) (by kernel_rfl) (by simp) ?_;refine Yf rfl (λ K a=>?_) (Yf rfl (λ K a=>?_) Yi)
     .go_simp
      refine a _ _ ?_;clear a K
      (refine wpAny_ready (rs:=[8]) (by kernel_rfl) (by simp) ?_;refine Yf rfl (λ K a=>?_) Yi;go_simp;refine a _ _ ?_;clear a K)
      (refine wpAny_take (i:=9) (v:=?vv20) rfl (by kernel_rfl) (by kernel_rfl) (by kernel_rfl) (λ _ _ _ h=>h) (Or.inl ⟨by rfl,?yy20⟩) ?zz20;(case yy20=>intro w;go_simp;try with_reducible rfl);go_simp)
      (refine wpAny_ready (rs:=[10]) (by kernel_rfl) (by simp) ?_;refine Yf rfl (λ K a=>?_) Yi;go_simp;refine a _ _ ?_;clear a K)
      refine wpAny_ready (rs:=[11]) (by kernel_rfl) (by simp) ?_;refine Yf rfl (λ K a=>?_) Yi;rw[if_pos (by simp[Region.wanted])];refine Zb3 (.tmp 108) (.tmp 114) _ rfl base 79 Zv underlying80 rfl (by decide) (Zb (bA (11+(at_:Int)) nm)).toArray _ _ _ rfl U.out rfl rfl rfl (by simp[Value.oneCell',Zb]) (by simp only[maxLen];omega) (by omega) s ?_;intro v' W B E J _;obtain⟨A8,c8,rfl⟩:=Za B;have C:=(E.block p I (λ e=>Zaq U.out R.out (by decide) e.symm)).trans R.out;have f6:W.frozen? ⟨p,6,none⟩=false:=Yy C 6;have d6:∃u,W.cell? ⟨p,6,none⟩=some u:=⟨_,by rw[Yb C];rfl⟩
      obtain⟨u6,d6⟩:=d6;refine a _ _ ?_;clear a K;go_simp
      (refine wpAny_take (i:=12) (v:=?vv21) rfl (by kernel_rfl) (by kernel_rfl) (by kernel_rfl) (λ _ _ _ h=>h) (Or.inl ⟨by rfl,?yy21⟩) ?zz21;(case yy21=>intro w;go_simp;try with_reducible rfl);go_simp)
      (refine wpAny_take (i:=13) (v:=?vv22) rfl (by kernel_rfl) (by kernel_rfl) (by kernel_rfl) (λ _ _ _ h=>h) (Or.inl ⟨by rfl,?yy22⟩) ?zz22;(case yy22=>intro w;go_simp;try with_reducible rfl);go_simp)
      (refine wpAny_ready (rs:=[14]) (by kernel_rfl) (by simp) ?_;refine Yf rfl (λ K a=>?_) Yi;go_simp;refine a _ _ ?_;clear a K)
      refine wpAny_done (by kernel_rfl) ?_ _;go_wp2_with fail
      go_end0
      obtain⟨q1,q2⟩:=Zao (x:=bA (11+(at_:Int)) nm) L s R.out U.out B E J;refine⟨rfl,?_,j.out.trans (a2.out.trans q2)⟩;rw[Hob.out,<- Yp,<- a5.out];exact q1
     .go_simp
      refine a _ _ ?_;clear a K
      (refine wpAny_take (i:=9) (v:=?vv23) rfl (by kernel_rfl) (by kernel_rfl) (by kernel_rfl) (λ _ _ _ h=>h) (Or.inl ⟨by rfl,?yy23⟩) ?zz23;(case yy23=>intro w;go_simp;try with_reducible rfl);go_simp)
      refine wpAny_ready (rs:=[4,10]) (by kernel_rfl) (by simp) ?_;refine Yf rfl (λ K a=>?_) (Yf rfl (λ K a=>?_) Yi)
      .go_simp
       refine a _ _ ?_;clear a K
       (refine wpAny_ready (rs:=[10]) (by kernel_rfl) (by simp) ?_;refine Yf rfl (λ K a=>?_) Yi;go_simp;refine a _ _ ?_;clear a K)
       refine wpAny_ready (rs:=[11]) (by kernel_rfl) (by simp) ?_;refine Yf rfl (λ K a=>?_) Yi;rw[if_pos (by simp[Region.wanted])];refine Zb3 (.tmp 108) (.tmp 114) _ rfl base 79 Zv underlying80 rfl (by decide) (Zb (bA (11+(at_:Int)) nm)).toArray _ _ _ rfl U.out rfl rfl rfl (by simp[Value.oneCell',Zb]) (by simp only[maxLen];omega) (by omega) s ?_;intro v' W B E J _;obtain⟨A8,c8,rfl⟩:=Za B;have C:=(E.block p I (λ e=>Zaq U.out R.out (by decide) e.symm)).trans R.out;have f6:W.frozen? ⟨p,6,none⟩=false:=Yy C 6;have d6:∃u,W.cell? ⟨p,6,none⟩=some u:=⟨_,by rw[Yb C];rfl⟩
       obtain⟨u6,d6⟩:=d6;refine a _ _ ?_;clear a K;go_simp
       (refine wpAny_take (i:=12) (v:=?vv24) rfl (by kernel_rfl) (by kernel_rfl) (by kernel_rfl) (λ _ _ _ h=>h) (Or.inl ⟨by rfl,?yy24⟩) ?zz24;(case yy24=>intro w;go_simp;try with_reducible rfl);go_simp)
       (refine wpAny_take (i:=13) (v:=?vv25) rfl (by kernel_rfl) (by kernel_rfl) (by kernel_rfl) (λ _ _ _ h=>h) (Or.inl ⟨by rfl,?yy25⟩) ?zz25;(case yy25=>intro w;go_simp;try with_reducible rfl);go_simp)
       (refine wpAny_ready (rs:=[14]) (by kernel_rfl) (by simp) ?_;refine Yf rfl (λ K a=>?_) Yi;go_simp;refine a _ _ ?_;clear a K)
       refine wpAny_done (by kernel_rfl) ?_ _;go_wp2_with fail
       go_end0
       obtain⟨q1,q2⟩:=Zao (x:=bA (11+(at_:Int)) nm) L s R.out U.out B E J;refine⟨rfl,?_,j.out.trans (a2.out.trans q2)⟩;rw[Hob.out,<- Yp,<- a5.out];exact q1
      .go_simp
       refine a _ _ ?_;clear a K;have c6:(w3.alloc (Obj.cells (Zb (bA (11+(at_:Int)) nm)).toArray 79)).cell? ⟨p,6,none⟩=some (.slice A' zs.length c'):=by rw[Yb ((heap_alloc_old _ _ I).trans R.out)];rfl
       simp only[Zb,bA] at c6
       (refine wpAny_ready (rs:=[4]) (by kernel_rfl) (by simp) ?_;refine Yf rfl (λ K a=>?_) Yi;go_simp;refine a _ _ ?_;clear a K)
       refine wpAny_ready (rs:=[11]) (by kernel_rfl) (by simp) ?_;refine Yf rfl (λ K a=>?_) Yi;rw[if_pos (by simp[Region.wanted])];refine Zb3 (.tmp 108) (.tmp 114) _ rfl base 79 Zv underlying80 rfl (by decide) (Zb (bA (11+(at_:Int)) nm)).toArray _ _ _ rfl U.out rfl rfl rfl (by simp[Value.oneCell',Zb]) (by simp only[maxLen];omega) (by omega) s ?_;intro v' W B E J _;obtain⟨A8,c8,rfl⟩:=Za B;have C:=(E.block p I (λ e=>Zaq U.out R.out (by decide) e.symm)).trans R.out;have f6:W.frozen? ⟨p,6,none⟩=false:=Yy C 6;have d6:∃u,W.cell? ⟨p,6,none⟩=some u:=⟨_,by rw[Yb C];rfl⟩
       obtain⟨u6,d6⟩:=d6;refine a _ _ ?_;clear a K;go_simp
       (refine wpAny_take (i:=12) (v:=?vv26) rfl (by kernel_rfl) (by kernel_rfl) (by kernel_rfl) (λ _ _ _ h=>h) (Or.inl ⟨by rfl,?yy26⟩) ?zz26;(case yy26=>intro w;go_simp;try with_reducible rfl);go_simp)
       (refine wpAny_take (i:=13) (v:=?vv27) rfl (by kernel_rfl) (by kernel_rfl) (by kernel_rfl) (λ _ _ _ h=>h) (Or.inl ⟨by rfl,?yy27⟩) ?zz27;(case yy27=>intro w;go_simp;try with_reducible rfl);go_simp)
       (refine wpAny_ready (rs:=[14]) (by kernel_rfl) (by simp) ?_;refine Yf rfl (λ K a=>?_) Yi;go_simp;refine a _ _ ?_;clear a K)
       refine wpAny_done (by kernel_rfl) ?_ _;go_wp2_with fail
       go_end0
       obtain⟨q1,q2⟩:=Zao (x:=bA (11+(at_:Int)) nm) L s R.out U.out B E J;refine⟨rfl,?_,j.out.trans (a2.out.trans q2)⟩;rw[Hob.out,<- Yp,<- a5.out];exact q1
    .have Hob:=Ya (show bOp h.fr h.r.locals 10 en nm N at_=[bLoad h.fr (11+(at_:Int)) 0] from rfl)
     have D:=Ya (Zto G.out g (by rw[l];omega) hO (11+(at_:Int)) 0 (by omega));clear f d;go_wp2_with fail
     refine D.out.mono ?_;rintro e T ⟨rfl,z,q⟩;go_wp2_with fail
     go_end0
     refine⟨rfl,?_,j.out.trans (F.out.trans q)⟩;rw[Hob.out,<- Yp];exact z
