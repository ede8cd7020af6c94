/- Parts. -/
import Derived.Test.YtcjhmiijbojgeaaGreatDoorZBBld
import Derived.Test.YtcjhmiijbojgeaaGreatDoorZQi
import Derived.Deep.LoopGhost
set_option linter.all false
set_option maxHeartbeats 2000000
open Go.Lib renaming hid->Ya,cell_of_heap->Yb,frozen_of_heap->Yy
open List renaming getElem?_eq_getElem->Ye,getD_eq_getElem?_getD->Yh,eq_nil_of_length_eq_zero->Y4,take_add_one->Yan,getElem_mem->Yas,take_of_length_le->Yau,flatMap_cons->Yaz
open Go.IntWalk renaming i64_in->Ym
open Int renaming tmod_eq_emod_of_nonneg->Ya3
namespace Go.Proofs.YtcjhmiijbojgeaaGreatDoor
open S Go.Proofs.Tryz Go.RowKit
set_option maxRecDepth 100000
theorem Z5y (c:Int)(w:World):Calls prog 35 #[.int .i64 c] w λ e w'=>e=.returned (.bool (isU c))/\w=w':=by
 obtain⟨l,f⟩:=Yx (decide (c>=0));obtain⟨h,d⟩:=Yx (decide (c<=1114111));obtain⟨j,a⟩:=Yx (decide (c<55296));obtain⟨i,hd⟩:=Yx (decide (c>57343));have g:isU c=(l && h && (j || i)):=by rw[f,d,a,hd];rfl
 rw[g];clear g;have ka:=f.symm;have kb:=d.symm;have kc:=a.symm;have kd:=hd.symm;clear f d a hd
 cases l <;> cases h <;> cases j <;> cases i
 all_goals
  go_enter func35,ntmps35
  go_wp2_with fail
  go_ret
  exact⟨rfl,rfl⟩
theorem Zkq (n:Int)(l:List Int)(x:Int):foldU n (l++[x])=64*foldU n l+x%64:=by
 unfold foldU;rw[List.foldl_append];rfl
theorem Zy5 {n:Int}(a:0<=n/\n<256):∀(l:List Int)(k:Nat),0<=foldU n (l.take k)/\foldU n (l.take k)<256*64^k:=λ l k=>by
 induction k with
 | zero=>rw[List.take_zero];exact⟨a.1,by show n<256*1;omega⟩
 | succ k ih =>
  by_cases h:k<l.length
  .rw[Yan,Ye h]
   show 0<=foldU n (l.take k++[l[k]])/\foldU n (l.take k++[l[k]])<_
   rw[Zkq,Int.pow_succ];have:=Int.emod_nonneg l[k] (by decide:(64:Int)≠0);have:=Int.emod_lt_of_pos l[k] (by decide:(0:Int)<64);omega
  .rw[Yau (by omega),<- Yau (show l.length<=k by omega)]
   refine⟨ih.1,Int.lt_of_lt_of_le ih.2 ?_⟩;rw[Int.pow_succ];have:(0:Int)<=64^k:=Int.pow_nonneg (by decide);omega
theorem Z2n (b off n c:Nat)(l:List Int)(E:n=l.length)(R:1<=n/\n<=4)(C:∀x∈l,0<=x/\x<=255)(w:World)(A:∀j,j<n->w.cell? ⟨b,off+j,none⟩=some (.int .u8 (l.getD j 0))) :
 Calls prog 163 #[.slice (some ⟨b,off,none⟩) n c] w λ e w'=>e=.returned (.int .i64 (toldU l))/\w=w':=by
 obtain⟨f0,hf⟩:=Yx (l.getD 0 0);have hf0:0<=f0/\f0<=255:=by
  rw[hf,Yh,Ye (by omega)];exact C _ (Yas _)
 have c0:w.cell? ⟨b,off,none⟩=some (.int .u8 f0):=by rw[hf];exact A 0 (by omega)
 obtain⟨G,y⟩:=Yx (fstU n f0);have d:toldU l=foldU G l.tail:=by unfold toldU;rw[<- E,<- hf,y]
 have f:0<=G/\G<256:=by rw[y];unfold fstU;repeat' split <;> omega
 rw[d];have K:=Ya E;have M:=Ya C;have Y:=Ya A;have U:=Ya f;have w1:IntKind.i64.wrap f0=f0:=Ym _ ⟨by omega,by omega⟩;have t1:Int.tmod f0 32=f0%32:=Ya3 hf0.1;have t2:Int.tmod f0 16=f0%16:=Ya3 hf0.1;have t3:Int.tmod f0 8=f0%8:=Ya3 hf0.1;have i0:(0:Int)<(n:Int):=by omega
 have a:((n:Int)==2)=decide (n=2)/\((n:Int)==3)=decide (n=3)/\((n:Int)==4)=decide (n=4):=by
  refine⟨?_,?_,?_⟩ <;> (rw[Bool.eq_iff_iff];simp <;> omega)
 obtain⟨O,W,X⟩:=a;have r:(decide (n=2)=true/\decide (n=3)=false/\decide (n=4)=false/\Int.tmod f0 32=G)\/(decide (n=2)=false/\decide (n=3)=true/\decide (n=4)=false/\Int.tmod f0 16=G)\/(decide (n=2)=false/\decide (n=3)=false/\decide (n=4)=true/\Int.tmod f0 8=G)\/(decide (n=2)=false/\decide (n=3)=false/\decide (n=4)=false/\G=f0):=by
  rw[y];unfold fstU;by_cases I:n=2
  .subst I;exact .inl ⟨rfl,rfl,rfl,t1⟩
  .by_cases a3:n=3
   .subst a3;exact .inr (.inl ⟨rfl,rfl,rfl,t2⟩)
   .by_cases a4:n=4
    .subst a4;exact .inr (.inr (.inl ⟨rfl,rfl,rfl,t3⟩))
    .refine .inr (.inr (.inr ⟨decide_eq_false I,decide_eq_false a3,decide_eq_false a4,?_⟩))
     rw[if_neg I,if_neg a3,if_neg a4]
 clear E C A hf y d f t1 t2 t3;rcases r with⟨h,o,g,e⟩|⟨h,o,g,e⟩|⟨h,o,g,e⟩|⟨h,o,g,rfl⟩
 all_goals
  rw[h] at O;rw[o] at W;rw[g] at X;clear h o g;go_enter func163,ntmps163
  go_wp2_with fail
  go_loopw [4,5] (λ N D wr=>∃k:Nat,1<=k/\k<=n/\D=.int .i64 k/\N=.int .i64 (foldU G ((l.tail).take (k-1)))/\w=wr) (λ _ D _=>n-(intOf D).toNat)
  case atStart=>exact⟨1,Nat.le_refl _,R.1,rfl,rfl,rfl⟩
  case round =>
   obtain⟨k,L,T,rfl,rfl,rfl⟩:=hrel;have z:=Zy5 U.out l.tail (k-1);have P:(256:Int)*64^(k-1)<=256*64^3:=by
    have:k-1=0\/k-1=1\/k-1=2\/k-1=3:=by omega
    rcases this with e|e|e|e <;> rw[e] <;> decide
   by_cases i:k<n
   .have hx:=Y.out k i
    have m:k<l.length:=by rw[<- K.out];exact i
    have v:∀G,foldU G ((l.tail).take k)=64*foldU G ((l.tail).take (k-1))+(l.getD k 0)%64:=λ G=>by
     obtain⟨q,rfl⟩:∃q,k=q+1:=⟨k-1,by omega⟩
     rw[Nat.add_sub_cancel,Yan,<- Zkq]
     congr 2
     rw[List.getElem?_tail,Yh,Ye m];rfl
    have p:=Ya v;have t:=M.out (l.getD k 0) (by rw[Yh,Ye m];exact Yas _);obtain⟨u,J⟩:=Yx (l.getD k 0);rw[<- J] at hx t p;obtain⟨V,F⟩:=Yx (foldU G ((l.tail).take (k-1)));rw[<- F] at z⊢;have Q:=Ya F;clear J F v;have d1:decide ((k:Int)<(n:Int))=true:=decide_eq_true (by omega);have i3:(k:Int)<(n:Int):=by omega
    have e1:IntKind.i64.wrap u=u:=Ym _ ⟨by omega,by omega⟩;have e2:Int.tmod u 64=u%64:=Ya3 t.1;have e3:IntKind.i64.wrap (64*V)=64*V:=Ym _ ⟨by omega,by omega⟩;have e4:IntKind.i64.wrap (64*V+u%64)=64*V+u%64:=Ym _ ⟨by omega,by omega⟩;have e5:IntKind.i64.wrap ((k:Int)+1)=(k:Int)+1:=Ym _ ⟨by omega,by omega⟩;go_wp2_with fail
    go_roundw
    case rel=>exact⟨k+1,by omega,by omega,by go_num,by rw[Nat.add_sub_cancel,p.out,<- Q.out],trivial⟩
    case measure=>simp[intOf] <;> omega
   .have hke:n=k:=by omega
    subst hke;have d1:decide ((n:Int)<(n:Int))=false:=by simp
    have s:(l.tail).take (n-1)=l.tail:=Yau (by rw[List.length_tail,<- K.out];exact Nat.le_refl _);rw[s];go_wp2_with fail
    go_ret
    exact⟨rfl,rfl⟩
theorem Zv4 (r:S.BR)(A:Option Addr)(c:Nat)(w:World)(q:RAt2 w w.heap.size r A)(h0:S.chkB r≠0) :
 Calls prog 130 #[Zxf r A c] w λ e w'=>e=.returned (.tuple #[.agg #[.string ⟨#[]⟩,.slice none 0 0],.int .i64 (S.chkB r)])/\Below w.heap.size w w':=by
 have d:=Ya (λ(W:World) (s:Below w.heap.size w W)=>Zoc r A c W ((q.below s).more s.size));obtain⟨nm,P,L,j,body⟩:=r;unfold Zxf at d⊢;simp only at d⊢;generalize S.chkB ⟨nm,P,L,j,body⟩=κ at *;have u:(κ != 0)=true:=by simp[h0]
 obtain⟨N,o⟩:=Yx body.length;rw[<- o] at d⊢;have HN:=Ya o;obtain⟨t1,t2,t3,t4⟩:=Zec w (.cells #[.string nm,.int .i64 P,.int .i64 L,.bool j,.slice A N c] 169) (.cells #[.string ⟨#[]⟩,.slice none 0 0] 82);have f:=Ya t3;have a:=Ya t1;have i:=Ya t2;have n:w.heap.size+2<=((w.alloc (.cells #[.string nm,.int .i64 P,.int .i64 L,.bool j,.slice A N c] 169)).alloc (.cells #[.string ⟨#[]⟩,.slice none 0 0] 82)).heap.size:=Nat.le_of_eq t4.symm;clear o t1 t2 t3 t4;go_enter func130,ntmps130
 go_upto_region 1 with fail
 generalize (w.alloc (.cells #[.string nm,.int .i64 P,.int .i64 L,.bool j,.slice A N c] 169)).alloc (.cells #[.string ⟨#[]⟩,.slice none 0 0] 82)=w2 at *;have k0:w2.cell? ⟨w.heap.size,0,none⟩=some (.string nm):=by rw[Yb a.out];rfl
 have y:w2.cell? ⟨w.heap.size,1,none⟩=some (.int .i64 P):=by rw[Yb a.out];rfl
 have k2:w2.cell? ⟨w.heap.size,2,none⟩=some (.int .i64 L):=by rw[Yb a.out];rfl
 have t:w2.cell? ⟨w.heap.size,3,none⟩=some (.bool j):=by rw[Yb a.out];rfl
 have x:w2.cell? ⟨w.heap.size,4,none⟩=some (.slice A N c):=by rw[Yb a.out];rfl
 clear q h0;go_wp2_with fail
 refine(d.out w2 f.out).mono ?_;rintro e l ⟨rfl,h⟩;have g:=Ya ((h.block _ (by omega)).trans i.out);have j0:l.cell? ⟨w.heap.size+1,0,none⟩=some (.string ⟨#[]⟩):=by rw[Yb g.out];rfl
 have j1:l.cell? ⟨w.heap.size+1,1,none⟩=some (.slice none 0 0):=by rw[Yb g.out];rfl
 have f0:l.frozen? ⟨w.heap.size+1,0,none⟩=false:=Yy g.out 0;have f1:l.frozen? ⟨w.heap.size+1,1,none⟩=false:=Yy g.out 1;have m:=Ya (f.out.trans (h.mono f.out.size));clear k0 y k2 t x h a f i n;go_wp2_with fail
 (try simp only[Exit.inBlock,Exit.then])
 refine bodyPost_ret (v:=.tuple #[.agg #[.string ⟨#[]⟩,.slice none 0 0],.int .i64 κ]) (by rw[results_cell_tmp rfl];go_simp) rfl ⟨rfl,?_⟩;exact(m.out.setCell (p:=⟨w.heap.size+1,0,none⟩) (by show w.heap.size<=w.heap.size+1;omega) _).setCell (p:=⟨w.heap.size+1,1,none⟩) (by show w.heap.size<=w.heap.size+1;omega) _
section
namespace S
def decEs:Nat->List AV->Option (List BE)
 | 0,_=>none
 | _+1,[]=>some []
 | n+1,.int .i64 op::.int .i64 m::.str name::.row k cs::r=>match decEs n cs,decEs n r with
  | some ks,some rs=>if k=ks.length/\name.size<=1000/\ks.length<=1000 then some (.mk op m name ks::rs) else none
  | _,_=>none
 | _,_=>none
def decIs:List AV->Option (List Int)
 | []=>some []
 | .int .i64 n::r=>match decIs r with
  | some ns=>some (n::ns)
  | none=>none
 | _=>none
def decSs:Nat->List AV->Option (List BS)
 | 0,_=>none
 | _+1,[]=>some []
 | n+1,.int .i64 op::.int .i64 m::.str name::.row k1 c1::.row k2 c2::.row k3 c3::.row k4 c4::r=>match decEs n c1,decIs c2,decSs n c3,decSs n c4,decSs n r with
  | some es,some ns,some bs,some ls,some rs=>if k1=es.length/\k2=ns.length/\k3=bs.length/\k4=ls.length/\name.size<=1000/\es.length<=1000/\ns.length<=1000/\bs.length<=1000/\ls.length<=1000 then some (.mk op m name es ns bs ls::rs) else none
  | _,_,_,_,_=>none
 | _,_=>none
def decR:AV->Option BR
 | .agg [.str name,.int .i64 p,.int .i64 l,.bool bh,.row k cs]=>match decSs 400 cs with
  | some body=>if k=body.length/\name.size<=1000/\body.length<=1000/\Zhe body<=1000000 then some ⟨name,p,l,bh,body⟩ else none
  | none=>none
 | _=>none
def encItem (x:Item):List AV:=[.int .i64 x.kind,.int .i64 x.inst.op,.int .i64 x.inst.d,.int .i64 x.inst.a,.int .i64 x.inst.b,.int .i64 x.inst.imm,.str x.label,.int .u32 x.word]
def encItems (l:List Item):List AV:=l.flatMap encItem
def encObj (name:ByteArray)(items:List Item):List AV:=[.str name,.row items.length (encItems items)]
end S
section
variable {H:Zn}{w:World}{B:Nat}(hB:∀b k,H b=some k->b<B)
include hB
theorem Zgi:∀(n:Nat) {cs:List S.AV} {l:List S.BE} {b o:Nat},S.decEs n cs=some l->RepC H w cs b o->EKids w B b o l
 | 0,cs,l,b,o,h,_=>by simp[S.decEs] at h
 | n+1,cs,l,b,o,h,hc=>by
  unfold S.decEs at h
  split at h
  .cases h
  .cases h
   rw[EKids];trivial
  .rename_i n' op m name k ds r hq
   split at h
   .rename_i ks rs h1 h2
    rw[show n'=n from(Nat.succ.inj hq).symm] at h1 h2
    split at h
    .rename_i hh
     obtain⟨v,hn,t⟩:=hh
     cases h
     rw[RepC,RepC,RepC,RepC] at hc;obtain⟨_,⟨v1,e,p⟩,_,⟨v2,i,q⟩,_,⟨v3,g,s⟩,_,⟨v4,d,r4⟩,x⟩:=hc;rw[RepV] at p;rw[RepV] at q;rw[RepV] at s;rw[RepV] at r4;subst p q s;obtain⟨A,c,rfl,h0,hA,f⟩:=r4;rw[EKids,ECell];refine⟨⟨e,i,g,by simp only[maxLen];omega,by simp only[maxLen];omega,A,c,by rw[<- v];exact d,?_⟩,Zgi n h2 x⟩;rcases f with rfl|⟨j,z,y,rfl,u,_,a⟩
     .refine .inl ?_
      cases n with
      | zero=>simp[S.decEs] at h1
      | succ n=>simp[S.decEs] at h1;exact h1
     .exact .inr ⟨j,z,rfl,hB j y u,Zgi n h1 a⟩
    .cases h
   .cases h
  .cases h
omit hB in
theorem Zkr:∀{cs:List S.AV} {l:List Int} {b o:Nat},S.decIs cs=some l->RepC H w cs b o->∀i x,l[i]?=some x->w.cell? ⟨b,o+i,none⟩=some (.int .i64 x)
 | [],l,b,o,h,_,i,x,hx=>by
  simp[S.decIs] at h;subst h;simp at hx
 | y::r,l,b,o,h,hc,i,x,hx=>by
  unfold S.decIs at h
  split at h
  .rename_i heq;cases heq
  .rename_i n r' heq
   cases heq
   split at h
   .rename_i ns h1
    cases h
    rw[RepC] at hc;obtain⟨_,⟨v,d,c⟩,a⟩:=hc;rw[RepV] at c;subst c
    cases i with
    | zero=>simp at hx;subst hx;exact d
    | succ i =>
     rw[show o+(i+1)=o+1+i by omega];exact Zkr h1 a i x (by simpa using hx)
   .cases h
  .cases h
omit hB in
theorem Zv5 {n:Nat}{l:List S.BE}(h:S.decEs n []=some l):l=[]:=by
 cases n with
 | zero=>simp[S.decEs] at h
 | succ n=>simp[S.decEs] at h;exact h
omit hB in
theorem Zi4 {n:Nat}{l:List S.BS}(h:S.decSs n []=some l):l=[]:=by
 cases n with
 | zero=>simp[S.decSs] at h
 | succ n=>simp[S.decSs] at h;exact h
theorem Zej:∀(n:Nat) {cs:List S.AV} {l:List S.BS} {b o:Nat},S.decSs n cs=some l->RepC H w cs b o->SKids w B b o l
 | 0,cs,l,b,o,h,_=>by simp[S.decSs] at h
 | n+1,cs,l,b,o,h,hc=>by
  unfold S.decSs at h
  split at h
  .cases h
  .cases h
   rw[SKids];trivial
  .rename_i n' op m name k1 c1 k2 c2 k3 c3 k4 c4 r hq
   split at h
   .rename_i es ns bs ls rs h1 h2 h3 h4 h5
    rw[show n'=n from(Nat.succ.inj hq).symm] at h1 h3 h4 h5
    split at h
    .rename_i hh
     obtain⟨G,L,N,O,q5,q6,q7,q8,q9⟩:=hh
     cases h
     rw[RepC,RepC,RepC,RepC,RepC,RepC,RepC] at hc;obtain⟨_,⟨v1,p,z⟩,_,⟨v2,u,A⟩,_,⟨v3,t,D⟩,_,⟨v4,j,r4⟩,_,⟨v5,y,F⟩,_,⟨v6,g,C⟩,_,⟨v7,v,E⟩,P⟩:=hc;rw[RepV] at z;rw[RepV] at A;rw[RepV] at D;rw[RepV] at r4;rw[RepV] at F;rw[RepV] at C;rw[RepV] at E;subst z A D;obtain⟨K,J,rfl,_,_,x⟩:=r4;obtain⟨M,I,rfl,_,_,i⟩:=F;obtain⟨T,Q,rfl,_,_,s⟩:=C;obtain⟨R,U,rfl,_,_,q⟩:=E;rw[SKids,SCell];refine⟨⟨p,u,t,by simp only[maxLen];omega,by simp only[maxLen];omega,by simp only[maxLen];omega,by simp only[maxLen];omega,by simp only[maxLen];omega,⟨K,J,by rw[<- G];exact j,?_⟩,⟨M,I,by rw[<- L];exact y,?_⟩,⟨T,Q,by rw[<- N];exact g,?_⟩,⟨R,U,by rw[<- O];exact v,?_⟩⟩,Zej n h5 P⟩
     .rcases x with rfl|⟨c,f,e,rfl,d,_,a⟩
      .exact .inl (Zv5 h1)
      .exact .inr ⟨c,f,rfl,hB c e d,Zgi hB n h1 a⟩
     .intro hpos
      rcases i with rfl|⟨c,f,e,rfl,d,_,a⟩
      .simp[S.decIs] at h2
       subst h2;simp at hpos
      .exact⟨c,f,rfl,hB c e d,Zkr h2 a⟩
     .rcases s with rfl|⟨c,f,e,rfl,d,_,a⟩
      .exact .inl (Zi4 h3)
      .exact .inr ⟨c,f,rfl,hB c e d,Zej n h3 a⟩
     .rcases q with rfl|⟨c,f,e,rfl,d,_,a⟩
      .exact .inl (Zi4 h4)
      .exact .inr ⟨c,f,rfl,hB c e d,Zej n h4 a⟩
    .cases h
   .cases h
  .cases h
theorem Z2o {x:S.AV}{r:S.BR}{v:Value}(h:S.decR x=some r)(n:RepV H w x v):∃A c,v=Zxf r A c/\RAt2 w B r A:=by
 unfold S.decR at h
 split at h
 .rename_i name p l bh k cs
  split at h
  .rename_i body h1
   split at h
   .rename_i hh
    obtain⟨q,hn,hb,hsz⟩:=hh
    cases h
    rw[RepV] at n;obtain⟨vs,rfl,a⟩:=n;rw[RepL] at a;obtain⟨v1,r1,rfl,_,f,a⟩:=a;rw[RepL] at a;obtain⟨v2,r2,rfl,_,i,a⟩:=a;rw[RepL] at a;obtain⟨v3,r3,rfl,_,j,a⟩:=a;rw[RepL] at a;obtain⟨v4,r4,rfl,_,m,a⟩:=a;rw[RepL] at a;obtain⟨v5,r5,rfl,_,g,a⟩:=a;rw[RepL] at a;subst a;rw[RepV] at f;rw[RepV] at i;rw[RepV] at j;rw[RepV] at m;rw[RepV] at g;subst f i j m;obtain⟨A,c,rfl,_,_,hd⟩:=g;refine⟨A,c,by unfold Zxf;rw[q],⟨by show name.size<=_;simp only[maxLen];omega,?_,by show Zhe body<=_;omega⟩⟩;rcases hd with rfl|⟨e,t,s,rfl,o,_,d⟩
    .exact .inl (Zi4 h1)
    .exact .inr ⟨e,t,rfl,hB e s o,Zej hB 400 h1 d⟩
   .cases h
  .cases h
 .cases h
end
theorem Zg2 (H:Zn)(w:World):∀l:List S.Item,RepL H w (S.encItems l) (l.flatMap Zb)
 | []=>by unfold S.encItems;rw[List.flatMap_nil,RepL];rfl
 | x::r=>by
  unfold S.encItems;rw[Yaz,Yaz];refine RepL.append ?_ (Zg2 H w r);unfold S.encItem Zb
  repeat (rw[RepL];refine⟨_,_,rfl,rfl,by rw[RepV],?_⟩)
  rw[RepL]
theorem Zi5 (l:List S.Item):(S.encItems l).length=l.length*8:=by
 unfold S.encItems
 induction l with
 | nil=>rfl
 | cons x r ih=>rw[Yaz,List.length_append,ih,List.length_cons];simp[S.encItem];omega
namespace S
def buildA (x:AV):Option (AV×Tail):=match decR x with
 | some r=>if chkB r=0 then(if Zhe r.body<=1000000/\(bItems r).length<=1000000 then some (.tup [.agg (encObj r.name (bItems r)),.int .i64 0],none) else none)
  else some (.tup [.agg [.str ⟨#[]⟩,.row 0 []],.int .i64 (chkB r)],none)
 | none=>none
def itoaA (x:AV):Option (AV×Tail):=match x with
 | .int .i64 n=>if -9223372036854775808<=n/\n<=9223372036854775807 then some (.str ⟨(itoa n).toArray⟩,none) else none
 | _=>none
def orcB (f:FuncId)(xs:List AV):Option (AV×Tail) :=
 if f=108 then(match xs with | [x]=>itoaA x|_=>none) else if f=130 then(match xs with | [x]=>buildA x|_=>none) else none
end S
theorem Z2p {H:Zn}{w w':World}{n:Nat}{A:Option Addr}{c:Nat}{t:TypeId}{z:Nat}{cs:List S.AV}{xs:List Value}(f:∀b k,H b=some k->Bk w b)(s:Below w.heap.size w w')
 (o:w'.ownsRow w.heap.size t z (.slice A n c) n xs) (r:∀H w,RepL H w cs xs) (hz:0<z):∃m:Zn,(∀b,b<w.heap.size->m b=H b)/\(∀b k,m b=some k->Bk w' b)/\RepV m w' (.row n cs) (.slice A n c):=by
 have a:cs.length=n*z:=by rw[<- o.1];exact(RepL.length (r H w)).symm
 rcases o.2 with⟨e,rfl⟩|⟨g,cap,y,e,hg,d,hn,v,hsz,i⟩
 .cases e
  refine⟨H,λ _ _=>rfl,λ b k l=>(f b k l).below s,?_⟩;rw[RepV];exact⟨none,0,rfl,λ _=>Y4 (by rw[a];simp),λ _=>rfl,.inl (Y4 (by rw[a];simp))⟩
 .cases e
  refine⟨λ b=>if b=g then some cs.length else H b,λ b x=>by simp only;rw[if_neg (by omega)],λ b k l=>?_,?_⟩
  .simp only at l
   by_cases h:b=g
   .rw[h];exact⟨_,_,d⟩
   .rw[if_neg h] at l;exact(f b k l).below s
  .rw[RepV]
   refine⟨_,_,rfl,λ h0=>Y4 (by rw[a,h0];simp),λ h0=>(by cases h0),.inr ⟨g,0,cs.length,rfl,by simp,by omega,Zil (r _ _) λ j u p=>?_⟩⟩;rw[Yb d,Nat.zero_add];have q:j<n*z:=by rw[<- o.1];exact(List.getElem?_eq_some_iff.1 p).1
   rw[<- i,List.getElem?_take,if_pos q] at p
   simpa using p
theorem Zpd {x:S.AV}{r:S.AV}{y:S.Tail}(h:S.buildA x=some (r,y)):AFn prog LVE 130 [x] r y:=by
 intro H w vs a m d;rw[RepT] at d;obtain⟨v,us,rfl,q,f⟩:=d;rw[RepT] at f;subst f;unfold S.buildA at h
 split at h
 .rename_i br hbr
  obtain⟨A,c,rfl,i⟩:=Z2o (λ b k h=>(a b k h).lt) hbr q
  split at h
  .rename_i h0
   split at h
   .rename_i hh
    cases h
    refine(Z1e br A c w i h0 hh.1 m (by omega)).mono ?_;rintro e w' ⟨A',c',rfl,o,g⟩;obtain⟨l,p1,p2,n⟩:=Z2p a g o (λ H w=>Zg2 H w (S.bItems br)) (by decide);refine⟨_,l,rfl,g,p1,p2,?_,λ z j=>by cases j⟩;rw[RepV];refine⟨[_,_],rfl,?_⟩;rw[RepT];refine⟨_,_,rfl,?_,?_⟩
    .rw[RepV]
     refine⟨[_,_],rfl,?_⟩;unfold S.encObj;rw[RepL];refine⟨_,_,rfl,rfl,by rw[RepV],?_⟩;rw[RepL];exact⟨_,_,rfl,rfl,n,by rw[RepL]⟩
    .rw[RepT]
     exact⟨_,_,rfl,by rw[RepV],by rw[RepT]⟩
   .cases h
  .rename_i h0
   cases h
   refine(Zv4 br A c w i h0).mono ?_;rintro e w' ⟨rfl,g⟩;refine⟨_,H,rfl,g,λ _ _=>rfl,λ b k p=>(a b k p).below g,?_,λ z j=>by cases j⟩;rw[RepV];refine⟨[_,_],rfl,?_⟩;rw[RepT];refine⟨_,_,rfl,?_,?_⟩
   .rw[RepV]
    refine⟨[_,_],rfl,?_⟩;rw[RepL];refine⟨_,_,rfl,rfl,by rw[RepV],?_⟩;rw[RepL];refine⟨_,_,rfl,rfl,?_,by rw[RepL]⟩;rw[RepV];exact⟨none,0,rfl,λ _=>rfl,λ _=>rfl,.inl rfl⟩
   .rw[RepT]
    exact⟨_,_,rfl,by rw[RepV],by rw[RepT]⟩
 .cases h
theorem Zsd {x:S.AV}{r:S.AV}{y:S.Tail}(h:S.itoaA x=some (r,y)):AFn prog LVE 108 [x] r y:=by
 intro H w vs c i a;rw[RepT] at a;obtain⟨v,us,rfl,g,d⟩:=a;rw[RepT] at d;subst d;unfold S.itoaA at h
 split at h
 .rename_i n
  split at h
  .rename_i hh
   cases h
   rw[RepV] at g;subst g;refine(Ztr n ⟨by omega,by omega⟩ w i).mono ?_;rintro e w' ⟨rfl,f⟩;exact⟨_,H,rfl,f,λ _ _=>rfl,λ b k j=>(c b k j).below f,by rw[RepV],λ z l=>by cases l⟩
  .cases h
 .cases h
theorem Zks (f:FuncId)(xs:List S.AV)(r:S.AV)(y:S.Tail)(h:S.orcB f xs=some (r,y)):AFn prog LVE f xs r y:=by
 unfold S.orcB at h
 split at h
 .rename_i hf
  subst hf
  split at h
  .exact Zsd h
  .cases h
 .split at h
  .rename_i hf
   subst hf
   split at h
   .exact Zpd h
   .cases h
  .cases h
theorem Zv6 {a n:Nat}{f:FuncId}{xs:List S.AV}{r:S.AV}{y:S.Tail}(h:runFn prog S.orcB a n f xs=some (r,y)):AFn prog LVE f xs r y :=
 Zhj (λ w w' d c=>d.on c) Zks n f xs r y h
end
