/- Parts. -/
import Derived.Test.YtldbnjajjfgipaaGreatDoorZMachW
import Derived.Test.YtldbnjajjfgipaaGreatDoorZBBld
import Derived.Deep.LoopGhost
set_option linter.all false
set_option maxHeartbeats 2000000
open Go.Lib renaming hid->Ya,cell_of_heap->Yb,frozen_of_heap->Yai
open List renaming length_append->Yc,getElem?_eq_getElem->Ye,getElem?_eq_some_iff->Yg,getD_eq_getElem?_getD->Yh,take_add_one->Yar,flatMap_cons->Yat,take_of_length_le->Yax,getElem_mem->Ya7,range->Yb2
open Nat renaming le_refl->Yd,zero_add->Yw
open Go.IntWalk renaming i64_in->Yp
open Int renaming tmod_eq_emod_of_nonneg->Yas
namespace Go.Proofs.YtldbnjajjfgipaaGreatDoor
open S Go.Proofs.Tryz Go.RowKit
set_option maxRecDepth 100000
theorem Zz9 (c:Int)(w:World):Calls prog 70 #[.int .i64 c] w λ e w'=>e=.returned (.bool (isU c))/\w=w':=by
 obtain⟨j,d⟩:=Yx (decide (c>=0));obtain⟨h,a⟩:=Yx (decide (c<=1114111));obtain⟨f,b⟩:=Yx (decide (c<55296));obtain⟨i,hd⟩:=Yx (decide (c>57343));have g:isU c=(j && h && (f || i)):=by rw[d,a,b,hd];rfl
 rw[g];clear g;have ka:=d.symm;have kb:=a.symm;have kc:=b.symm;have kd:=hd.symm;clear d a b hd
 cases j <;> cases h <;> cases f <;> cases i
 all_goals
  go_enter func70,ntmps70
  go_wp2_with fail
  go_ret
  exact⟨rfl,rfl⟩
theorem Zio (n:Int)(l:List Int)(x:Int):foldU n (l++[x])=64*foldU n l+x%64:=by
 unfold foldU;rw[List.foldl_append];rfl
theorem Zuy {n:Int}(a:0<=n/\n<256):∀(l:List Int)(k:Nat),0<=foldU n (l.take k)/\foldU n (l.take k)<256*64^k:=λ l k=>by
 induction k with
 | zero=>rw[List.take_zero];exact⟨a.1,by show n<256*1;omega⟩
 | succ k ih =>
  by_cases h:k<l.length
  .rw[Yar,Ye h]
   show 0<=foldU n (l.take k++[l[k]])/\foldU n (l.take k++[l[k]])<_
   rw[Zio,Int.pow_succ];have:=Int.emod_nonneg l[k] (by decide:(64:Int)≠0);have:=Int.emod_lt_of_pos l[k] (by decide:(0:Int)<64);omega
  .rw[Yax (by omega),<- Yax (show l.length<=k by omega)]
   refine⟨ih.1,Int.lt_of_lt_of_le ih.2 ?_⟩;rw[Int.pow_succ];have:(0:Int)<=64^k:=Int.pow_nonneg (by decide);omega
theorem Zx1 (b off n c:Nat)(l:List Int)(D:n=l.length)(P:1<=n/\n<=4)(C:∀x∈l,0<=x/\x<=255)(w:World)(H:∀j,j<n->w.cell? ⟨b,off+j,none⟩=some (.int .u8 (l.getD j 0))) :
 Calls prog 248 #[.slice (some ⟨b,off,none⟩) n c] w λ e w'=>e=.returned (.int .i64 (toldU l))/\w=w':=by
 obtain⟨f0,hf⟩:=Yx (l.getD 0 0);have f:0<=f0/\f0<=255:=by
  rw[hf,Yh,Ye (by omega)];exact C _ (Ya7 _)
 have c0:w.cell? ⟨b,off,none⟩=some (.int .u8 f0):=by rw[hf];exact H 0 (by omega)
 obtain⟨G,z⟩:=Yx (fstU n f0);have d:toldU l=foldU G l.tail:=by unfold toldU;rw[<- D,<- hf,z]
 have v:0<=G/\G<256:=by rw[z];unfold fstU;repeat' split <;> omega
 rw[d];have J:=Ya D;have Q:=Ya C;have Z:=Ya H;have R:=Ya v;have w1:IntKind.i64.wrap f0=f0:=Yp _ ⟨by omega,by omega⟩;have t1:Int.tmod f0 32=f0%32:=Yas f.1;have t2:Int.tmod f0 16=f0%16:=Yas f.1;have t3:Int.tmod f0 8=f0%8:=Yas f.1;have i0:(0:Int)<(n:Int):=by omega
 have a:((n:Int)==2)=decide (n=2)/\((n:Int)==3)=decide (n=3)/\((n:Int)==4)=decide (n=4):=by
  refine⟨?_,?_,?_⟩ <;> (rw[Bool.eq_iff_iff];simp <;> omega)
 obtain⟨T,U,Y⟩:=a;have r:(decide (n=2)=true/\decide (n=3)=false/\decide (n=4)=false/\Int.tmod f0 32=G)\/(decide (n=2)=false/\decide (n=3)=true/\decide (n=4)=false/\Int.tmod f0 16=G)\/(decide (n=2)=false/\decide (n=3)=false/\decide (n=4)=true/\Int.tmod f0 8=G)\/(decide (n=2)=false/\decide (n=3)=false/\decide (n=4)=false/\G=f0):=by
  rw[z];unfold fstU;by_cases B:n=2
  .subst B;exact .inl ⟨rfl,rfl,rfl,t1⟩
  .by_cases a3:n=3
   .subst a3;exact .inr (.inl ⟨rfl,rfl,rfl,t2⟩)
   .by_cases a4:n=4
    .subst a4;exact .inr (.inr (.inl ⟨rfl,rfl,rfl,t3⟩))
    .refine .inr (.inr (.inr ⟨decide_eq_false B,decide_eq_false a3,decide_eq_false a4,?_⟩))
     rw[if_neg B,if_neg a3,if_neg a4]
 clear D C H hf z d v t1 t2 t3;rcases r with⟨o,g,y,e⟩|⟨o,g,y,e⟩|⟨o,g,y,e⟩|⟨o,g,y,rfl⟩
 all_goals
  rw[o] at T;rw[g] at U;rw[y] at Y;clear o g y;go_enter func248,ntmps248
  go_wp2_with fail
  go_loopw [4,5] (λ N E wr=>∃k:Nat,1<=k/\k<=n/\E=.int .i64 k/\N=.int .i64 (foldU G ((l.tail).take (k-1)))/\w=wr) (λ _ E _=>n-(intOf E).toNat)
  case atStart=>exact⟨1,Yd _,P.1,rfl,rfl,rfl⟩
  case round =>
   obtain⟨k,O,X,rfl,rfl,rfl⟩:=hrel;have F:=Zuy R.out l.tail (k-1);have M:(256:Int)*64^(k-1)<=256*64^3:=by
    have:k-1=0\/k-1=1\/k-1=2\/k-1=3:=by omega
    rcases this with e|e|e|e <;> rw[e] <;> decide
   by_cases i:k<n
   .have hx:=Z.out k i
    have h:k<l.length:=by rw[<- J.out];exact i
    have p:∀G,foldU G ((l.tail).take k)=64*foldU G ((l.tail).take (k-1))+(l.getD k 0)%64:=λ G=>by
     obtain⟨q,rfl⟩:∃q,k=q+1:=⟨k-1,by omega⟩
     rw[Nat.add_sub_cancel,Yar,<- Zio]
     congr 2
     rw[List.getElem?_tail,Yh,Ye h];rfl
    have t:=Ya p;have s:=Q.out (l.getD k 0) (by rw[Yh,Ye h];exact Ya7 _);obtain⟨u,K⟩:=Yx (l.getD k 0);rw[<- K] at hx s t;obtain⟨V,A⟩:=Yx (foldU G ((l.tail).take (k-1)));rw[<- A] at F⊢;have W:=Ya A;clear K A p;have d1:decide ((k:Int)<(n:Int))=true:=decide_eq_true (by omega);have i3:(k:Int)<(n:Int):=by omega
    have e1:IntKind.i64.wrap u=u:=Yp _ ⟨by omega,by omega⟩;have e2:Int.tmod u 64=u%64:=Yas s.1;have e3:IntKind.i64.wrap (64*V)=64*V:=Yp _ ⟨by omega,by omega⟩;have e4:IntKind.i64.wrap (64*V+u%64)=64*V+u%64:=Yp _ ⟨by omega,by omega⟩;have e5:IntKind.i64.wrap ((k:Int)+1)=(k:Int)+1:=Yp _ ⟨by omega,by omega⟩;go_wp2_with fail
    go_roundw
    case rel=>exact⟨k+1,by omega,by omega,by go_num,by rw[Nat.add_sub_cancel,t.out,<- W.out],trivial⟩
    case measure=>simp[intOf] <;> omega
   .have hke:n=k:=by omega
    subst hke;have d1:decide ((n:Int)<(n:Int))=false:=by simp
    have m:(l.tail).take (n-1)=l.tail:=Yax (by rw[List.length_tail,<- J.out];exact Yd _);rw[m];go_wp2_with fail
    go_ret
    exact⟨rfl,rfl⟩
section
theorem Zam:∀k,(bParams k).length=k
 | 0=>rfl
 | k+1=>by rw[bParams,Yc,Zam k];rfl
section
variable {I:Img}{L dep lk base:Int}(cx:Cx I L dep lk base){obj:ByteArray}
include cx
theorem Zgn {V:Vw}{i:Nat}(d:V.reg 28=base):∀k:Nat,k<=4->Seg I obj i (bParams k)->∃V',S.Go I V (I.adr i) k V' (I.adr (i+k))/\V'.reg=V.reg/\(∀j:Nat,j<k->V'.mem (base+1+j)=V.reg (4+j)) /\
 (∀a:Int,a<base+1\/base+1+k<=a->V'.mem a=V.mem a)/\V'.inp=V.inp/\V'.out=V.out
 | 0,_,_=>⟨V,Zcq _ _ _,rfl,λ j o=>by omega,λ _ _=>rfl,rfl,rfl⟩
 | k+1,hk,hs=>by
  obtain⟨f,n,e,q,r,m,g⟩:=Zgn d k (by omega) hs.left;have b:=hs.right;rw[Zam] at b;obtain⟨ok,lo,top,dep0,L0,_,_,_⟩:=cx;have q1:=ok.lo0;have q2:=ok.hisz;have q3:=ok.size2;have l:base+1+(k:Int)=u32m (f.reg 28+(1+(k:Int))):=by rw[e,d];unfold u32m;omega
  have p:¬I.code (base+1+k):=by
   rintro⟨c0,c1⟩;rcases ok.apart with h|h <;> omega
  have s:=Zr3 ok b.lo b.lt (V:=f) b.head (by decide) (by omega) l (by omega) p;refine⟨_,n.trans s,e,λ j o=>?_,λ a ha=>?_,m,g⟩
  .by_cases c:j=k
   .subst c
    rw[Zb9,e]
   .rw[Zy _ _ (by omega)];exact q j (by omega)
  .rw[Zy _ _ (by omega)];exact r a (by omega)
end
theorem Zb1 {r:BR}(h:chkB r=0):labB r.name=true/\0<=r.params/\r.params<=4/\r.params<=r.locals/\r.locals<=200/\chkSs r.locals r.body 0=0:=by
 unfold chkB at h
 split at h
 .omega
 .rename_i hc
  simp only[Bool.not_eq_true,Bool.or_eq_false_iff,Bool.not_eq_false',decide_eq_false_iff_not] at hc;obtain⟨⟨⟨⟨a,h2⟩,h3⟩,h4⟩,h5⟩:=hc;exact⟨a,by omega,by omega,by omega,by omega,h⟩
theorem Zd0 (f:Nat->Int)(n k:Nat)(h:k<n):((Yb2 n).map f).getD k 0=f k:=by
 simp[h]
theorem Zx2 {I:Img}(p:I.Ok)(r:BR)(hc:chkB r=0){i:Nat}(t:Seg I r.name i (bItems r)){dep:Int}(F:0<=dep)(st:Vw)(R:Int->BO->Nat->Prop)
 (hw:∀(lk:Int)(env:List Int),0<=lk->lk<I.size->(env.length:Int)=r.locals->(∀k:Nat,(k:Int)<r.params->env.getD k 0=st.reg (4+k)) ->
  wpSs I dep lk r.behind r.body env st (r.params.toNat+2) (λ _ u C=>R lk (.ret u) (C+(if r.behind=true then 5 else 3))) (R lk)) :
 Real I r.name r.behind st (r.locals+15+dep) R:=by
 obtain⟨hn,p0,p4,pL,E,x⟩:=Zb1 hc;intro V top ret l w J r0 r1 N a4;have cx:Cx I r.locals dep ret top:=⟨p,N,by omega,F,by omega,E,r0,r1⟩
 have q1:=p.lo0;have q2:=p.hisz;have q3:=p.size2;have X:frameB r=r.locals+15:=by unfold frameB;rw[if_neg (by simp[hc])]
 obtain⟨c,G⟩:=Yx r.params.toNat;unfold bItems bHead at t;rw[X,<- G] at t;have f:Seg I r.name i ([bL r.name,bI 25 0 28 31 0]:List S.Item):=t.left.left.left.left;have Y:Seg I r.name (i+2) (bParams c):=t.left.left.left.right;have s:Seg I r.name (i+2+c) [bI 15 28 28 0 (r.locals+15)]:=by
  have h:=t.left.left.right;rw[Yc,Zam] at h;have e:i+(([bL r.name,bI 25 0 28 31 0]:List S.Item).length+c)=i+2+c:=by simp;omega
  rw[e] at h;exact h
 have W:Seg I r.name (i+2+c+1) (bStmts (r.locals+15) r.locals r.behind r.body 0).1:=by
  have h:=t.left.right;rw[Yc,Yc,Zam] at h;have e:i+(([bL r.name,bI 25 0 28 31 0]:List S.Item).length+c+([bI 15 28 28 0 (r.locals+15)]:List S.Item).length)=i+2+c+1:=by simp;omega
  rw[e] at h;exact h
 have M:Seg I r.name (i+2+c+1+(bStmts (r.locals+15) r.locals r.behind r.body 0).1.length) (bBack (r.locals+15) r.behind):=by
  have h:=t.right;rw[Yc,Yc,Yc,Zam] at h;have e:i+(([bL r.name,bI 25 0 28 31 0]:List S.Item).length+c+([bI 15 28 28 0 (r.locals+15)]:List S.Item).length+(bStmts (r.locals+15) r.locals r.behind r.body 0).1.length)=i+2+c+1+(bStmts (r.locals+15) r.locals r.behind r.body 0).1.length:=by simp;omega
  rw[e] at h;exact h
 have z:I.lab r.name=I.adr i:=by
  have:=Zi6 cx f;rw[Zev _ hn] at this;exact this
 have g0:=Zdl p f.lo f.lt (V:=V) f.head;have et:top=u32m (V.reg 28+0):=by rw[w];unfold u32m;omega
 have U:¬I.code top:=by
  rintro⟨c0,c1⟩;rcases p.apart with h|h <;> omega
 have g1:=Zr3 p f.tail.lo f.tail.lt (V:=V) (a:=28) (b:=31) (n:=0) f.tail.head (by decide) (by decide) et (by omega) U;rw[J] at g1;obtain⟨g,g2,D,K,H,Z,a2⟩:=Zgn cx (V:=V.sto top ret) w c (by omega) Y;have g3:=Zc6 p s.lo s.lt (V:=g) (d:=28) (a:=28) (n:=r.locals+15) s.head (by decide) (by decide) (by decide);have e3:u32m (g.reg 28+(r.locals+15))=top+r.locals+15:=by
  have:g.reg 28=top:=by rw[D];exact w
  rw[this];unfold u32m;omega
 rw[e3] at g3;have gg:S.Go I V (I.lab r.name) (c+2) (g.set 28 (top+r.locals+15)) (I.adr (i+2+c+1)):=by
  rw[z];exact(((g0.trans g1).trans g2).trans g3).more (by omega)
 have q:∀a:Int,a<top\/top+1+c<=a->(g.set 28 (top+r.locals+15)).mem a=V.mem a:=λ a T=>by
  show g.mem a=_
  rw[H a (by omega),Zy _ _ (by omega)]
 obtain⟨env,m⟩:∃env:List Int,env=(Yb2 r.locals.toNat).map λ k:Nat=>(g.set 28 (top+r.locals+15)).mem (top+1+(k:Int)):=⟨_,rfl⟩
 have Q:env.length=r.locals.toNat:=by rw[m];simp
 have A:∀k:Nat,k<env.length->env.getD k 0=(g.set 28 (top+r.locals+15)).mem (top+1+(k:Int)):=λ k y=>by
  rw[m,Zd0 _ _ _ (by rw[<- Q];exact y)]
 have hF:Fm I (g.set 28 (top+r.locals+15)) st top ret env []:=by
  refine⟨⟨λ j hj=>?_,λ a a0 a1 T=>?_,?_,?_⟩,?_,?_,λ k y=>(A k y).symm,λ k y=>by simp at y⟩
  .have:=Zi5 hj
   rw[Zd _ _ (by omega),D];exact l.vis j hj
  .by_cases hin:top<=a/\a<top+1+c
   .exact absurd ⟨by omega,by omega⟩ T
   .rw[q a (by omega)];exact l.mem a a0 a1 T
  .show g.inp=_;rw[Z];exact l.inp
  .show g.out=_;rw[a2];exact l.out
  .rw[Zh];omega
  .show g.mem top=ret
   rw[H top (by omega),Zb9]
 have v:∀k:Nat,(k:Int)<r.params->env.getD k 0=st.reg (4+k):=λ k y=>by
  rw[A k (by omega)]
  show g.mem (top+1+(k:Int))=_
  rw[K k (by omega)];exact l.vis _ (by unfold visB;rw[decide_eq_true_eq];omega)
 have hL:(env.length:Int)=r.locals:=by omega
 have B:Kp I top V (g.set 28 (top+r.locals+15)):=λ a a0 a1=>q a (by omega)
 have hb:=hw ret env r0 r1 hL v;rw[<- G] at hb;have h:=Zdm cx (obj:=r.name) (behind:=r.behind) r.body 0 0 env _ st _ (c+2) _ _ hL x hb W hF;rcases h with⟨a3,u,C,V',h1,P,O,h4,h5,h6⟩|⟨o,C,h1,P,O⟩
 .have hbk:=Znk cx (obj:=r.name) (behind:=r.behind) (r:=[]) O (by rw[List.append_nil];exact M) h5
  have hd:=Zap h4 h6 hbk (Yd _);refine⟨.ret u,C+(if r.behind=true then 5 else 3),P,Zap gg B hd ?_⟩;omega
 .exact⟨o,C,P,Zap gg B O (by omega)⟩
end
def ReadsP (w:World)(B:Nat)(A:Option Addr)(L:List (ByteArray×Int)):Prop :=
 0<L.length->∃b off,A=some ⟨b,off,none⟩/\b<B/\∀i p,L[i]?=some p->w.cell? ⟨b,off+i*2,none⟩=some (.string p.1)/\w.cell? ⟨b,off+i*2+1,none⟩=some (.int .i64 p.2)
theorem ReadsP.below {w w':World}{B:Nat}{A:Option Addr}{L:List (ByteArray×Int)}(h:ReadsP w B A L)(c:Below B w w'):ReadsP w' B A L:=λ hp=>by
 obtain⟨b,off,e,a,d⟩:=h hp;exact⟨b,off,e,a,λ i p f=>⟨(c.cell (p:=⟨b,off+i*2,none⟩) a).trans (d i p f).1,(c.cell (p:=⟨b,off+i*2+1,none⟩) a).trans (d i p f).2⟩⟩
theorem Zuz (L:List (ByteArray×Int))(i:Nat)(p:ByteArray×Int)(h:L[i]?=some p):(L.flatMap Z5)[i*2]?=some (.string p.1)/\(L.flatMap Z5)[i*2+1]?=some (.int .i64 p.2):=by
 induction L generalizing i with
 | nil=>simp at h
 | cons q L ih =>
  cases i with
  | zero =>
   simp only[List.getElem?_cons_zero,Option.some.injEq] at h;subst h;simp[Z5]
  | succ i =>
   have b:=ih i (by simpa using h);have a:(i+1)*2=i*2+1+1:=by omega
   rw[Yat,a]
   simpa[Z5] using b
theorem Zu0 (L:List (ByteArray×Int)):(L.flatMap Z5).length=L.length*2:=by
 induction L with
 | nil=>rfl
 | cons q L ih=>rw[Yat,Yc,ih];simp[Z5];omega
theorem ReadsP.of_own {w:World}{base:Nat}{e:TypeId}{A:Option Addr}{m c n:Nat}{L:List (ByteArray×Int)}(h:w.ownsRow base e 2 (.slice A m c) n (L.flatMap Z5)):ReadsP w w.heap.size A L:=λ hp=>by
 have k:(L.flatMap Z5).length=n*2:=h.1;rw[Zu0] at k;obtain⟨g,rfl,f,b,j,a,_⟩:=Zae h (by omega);refine⟨g,0,rfl,b,λ i p d=>?_⟩;have hi:=(Yg.1 d).1;obtain⟨f1,f2⟩:=Zuz L i p d;refine⟨?_,?_⟩
 .rw[Yw,a _ (by omega),f1]
 .rw[Yw,a _ (by omega),f2]
theorem ReadsP.at_ {w:World}{B:Nat}{A:Option Addr}{L:List (ByteArray×Int)}(h:ReadsP w B A L){k:Nat}(a:k<L.length) :
 ∃b off s n,A=some ⟨b,off,none⟩/\b<B/\L[k]?=some (s,n)/\w.cell? ⟨b,off+k*2,none⟩=some (.string s)/\w.cell? ⟨b,off+k*2+1,none⟩=some (.int .i64 n):=by
 obtain⟨b,off,e,c,f⟩:=h (by omega);obtain⟨d,g⟩:=f k L[k] (Ye a);exact⟨b,off,_,_,e,c,Ye a,d,g⟩
theorem Zq0 {L:List (ByteArray×Int)}{k:Nat}{n s:ByteArray}{v:Int}(h:L[k]?=some (n,v)):findP (L.drop k) s=if n=s then some v else findP (L.drop (k+1)) s:=by
 have a:=(Yg.1 h).1;have b:L[k]=(n,v):=(Yg.1 h).2;rw[List.drop_eq_getElem_cons a,b,findP]
def Zu1 (L:List (ByteArray×Int))(s:ByteArray)(w:World)(e:Ending)(w':World):Prop :=
 e=.returned (.tuple #[.int .i64 ((findP L s).getD 0),.bool (findP L s).isSome])/\Below w.heap.size w w'
theorem Zq1 (vw:Value)(Aw g:Option Addr)(nw cw cp:Nat)(L:List (ByteArray×Int))(s:ByteArray)(w:World)(j:ReadsP w w.heap.size g L)(hl:L.length<=1048576) :
 Calls prog 77 #[.agg #[.slice Aw nw cw,.slice g L.length cp],.string s] w (Zu1 L s w):=by
 go_enter func77,ntmps77
 go_wp2_with fail
 go_loopw [11] (λ i wr=>∃k:Nat,k<=L.length/\i=.int .i64 k/\findP L s=findP (L.drop k) s/\Below w.heap.size w wr) (λ i _=>L.length-(intOf i).toNat)
 case atStart=>exact⟨0,by omega,rfl,rfl,(Below.refl _ _).alloc (Yd _) _⟩
 case round =>
  obtain⟨k,hk,rfl,hf,a⟩:=hrel;have d:=Ya hf;have h:=a.size;clear hf;by_cases f:k<L.length
  .obtain⟨b,off,n,v,rfl,hb,hx,hc0,hc1⟩:=(j.below a).at_ f
   have hd:=Ya (Zq0 (s:=s) hx);clear hx;have g0:b<wr.heap.size:=by omega
   by_cases c:n=s
   .have ds:=Z1c c
    have e:=Ya c;clear c;go_wp2_with fail
    go_ret2
    refine⟨?_,a.alloc (by omega) _⟩;rw[d.out,hd.out,if_pos e.out];rfl
   .have ds:=Z1d c
    have e:=Ya c;clear c;go_wp2_with fail
    go_roundw
    case rel=>exact⟨k+1,by omega,by go_num,by rw[d.out,hd.out,if_neg e.out],a.alloc (by omega) _⟩
    case measure=>simp[intOf];omega
  .have hke:k=L.length:=by omega
   subst hke;go_wp2_with fail
   go_ret2
   refine⟨?_,a⟩;rw[d.out,List.drop_length];rfl
theorem Zq2 (r:BR)(A:Option Addr)(c:Nat)(w:World)(o:RAt2 w w.heap.size r A)(h0:chkB r≠0) :
 Calls prog 177 #[Zuj r A c] w λ e w'=>e=.returned (.tuple #[.agg #[.string ⟨#[]⟩,.slice none 0 0],.int .i64 (chkB r)])/\Below w.heap.size w w':=by
 have f:=Ya (λ(W:World) (n:Below w.heap.size w W)=>Zmn r A c W ((o.below n).more n.size));obtain⟨nm,P,L,i,body⟩:=r;unfold Zuj at f⊢;simp only at f⊢;generalize chkB ⟨nm,P,L,i,body⟩=κ at *;have t:(κ != 0)=true:=by simp[h0]
 obtain⟨N,l⟩:=Yx body.length;rw[<- l] at f⊢;have HN:=Ya l;obtain⟨t1,t2,t3,t4⟩:=Zdh w (.cells #[.string nm,.int .i64 P,.int .i64 L,.bool i,.slice A N c] 203) (.cells #[.string ⟨#[]⟩,.slice none 0 0] 105);have d:=Ya t3;have a:=Ya t1;have h:=Ya t2;have m:w.heap.size+2<=((w.alloc (.cells #[.string nm,.int .i64 P,.int .i64 L,.bool i,.slice A N c] 203)).alloc (.cells #[.string ⟨#[]⟩,.slice none 0 0] 105)).heap.size:=Nat.le_of_eq t4.symm;clear l t1 t2 t3 t4;go_enter func177,ntmps177
 go_upto_region 1 with fail
 generalize (w.alloc (.cells #[.string nm,.int .i64 P,.int .i64 L,.bool i,.slice A N c] 203)).alloc (.cells #[.string ⟨#[]⟩,.slice none 0 0] 105)=w2 at *;have k0:w2.cell? ⟨w.heap.size,0,none⟩=some (.string nm):=by rw[Yb a.out];rfl
 have q:w2.cell? ⟨w.heap.size,1,none⟩=some (.int .i64 P):=by rw[Yb a.out];rfl
 have k2:w2.cell? ⟨w.heap.size,2,none⟩=some (.int .i64 L):=by rw[Yb a.out];rfl
 have s:w2.cell? ⟨w.heap.size,3,none⟩=some (.bool i):=by rw[Yb a.out];rfl
 have u:w2.cell? ⟨w.heap.size,4,none⟩=some (.slice A N c):=by rw[Yb a.out];rfl
 clear o h0;go_wp2_with fail
 refine(f.out w2 d.out).mono ?_;rintro e j ⟨rfl,g⟩;have b:=Ya ((g.block _ (by omega)).trans h.out);have j0:j.cell? ⟨w.heap.size+1,0,none⟩=some (.string ⟨#[]⟩):=by rw[Yb b.out];rfl
 have j1:j.cell? ⟨w.heap.size+1,1,none⟩=some (.slice none 0 0):=by rw[Yb b.out];rfl
 have f0:j.frozen? ⟨w.heap.size+1,0,none⟩=false:=Yai b.out 0;have f1:j.frozen? ⟨w.heap.size+1,1,none⟩=false:=Yai b.out 1;have k:=Ya (d.out.trans (g.mono d.out.size));clear k0 q k2 s u g a d h m;go_wp2_with fail
 (try simp only[Exit.inBlock,Exit.then])
 refine bodyPost_ret (v:=.tuple #[.agg #[.string ⟨#[]⟩,.slice none 0 0],.int .i64 κ]) (by rw[results_cell_tmp rfl];go_simp) rfl ⟨rfl,?_⟩;exact(k.out.setCell (p:=⟨w.heap.size+1,0,none⟩) (by show w.heap.size<=w.heap.size+1;omega) _).setCell (p:=⟨w.heap.size+1,1,none⟩) (by show w.heap.size<=w.heap.size+1;omega) _
