/- Parts. -/
import Derived.Test.YtldbnjajjfgipaaGreatDoorZNImg
import Derived.Lib.AppendZeros
import Derived.BigQuiet
import Derived.Deep.OwnRows
set_option linter.all false
set_option maxHeartbeats 4000000
open Go.Lib renaming hid->Ya
open Nat renaming le_refl->Yb,le_trans->Ym,zero_le->Yae
open List renaming length_append->Yd,getD_eq_getElem?_getD->Ye,getElem?_eq_getElem->Yf,getElem?_eq_some_iff->Yg,getElem?_append_left->Yn,getElem?_append_right->Yo,length_take->Yr,replicate->Yt,mem_cons_self->Yv,mem_cons_of_mem->Yy,mem_append->Y4,eq_nil_of_length_eq_zero->Y7,getElem?_map->Y9,length_map->Yaa,drop_zero->Yak,map_append->Yay,take_append_drop->Ya1,take_add_one->Ya8,drop_eq_getElem_cons->Ybo,ext_getElem->Yca,map_cons->Yck
open Go.RowKit.Below renaming refl->Yh
open Go.IntWalk renaming i64_in->Yi
open Go.Value renaming int->Ys,oneCell'->Y1
open Int renaming le_refl->Y5,le_of_lt->Yaz,eq_ofNat_of_zero_le->Ya0,pow_pos->Ya2,add_zero->Ybc
namespace Go.Proofs.YtldbnjajjfgipaaGreatDoor
open S Go.Proofs.Tryz Go.RowKit
set_option maxRecDepth 100000
theorem Zli:(prog.info? 149).map (λ i=>(i.zero,i.size,i.bytes))=some (some (.agg #[.int .i64 0,.int .i64 0,.string ByteArray.empty,.slice none 0 0,.slice none 0 0,.slice none 0 0,.slice none 0 0]),7,128):=by kernel_rfl
theorem Zj3:prog.underlying 147=some (.slice 149):=underlying147
theorem Z38 (n:Nat)(h0:0<n)(h1:n<=100000)(w:World):Calls prog 231 #[.slice none 0 0,.int .i64 n] w λ e w'=>∃q,e=.returned q/\w'.ownsRow w.heap.size 149 7 q 0 []/\Below w.heap.size w w':=by
 obtain⟨i,hi,f⟩:∃i,prog.info? 149=some i/\(i.zero,i.size,i.bytes)=(some (.agg #[.int .i64 0,.int .i64 0,.string ByteArray.empty,.slice none 0 0,.slice none 0 0,.slice none 0 0,.slice none 0 0]),7,128):=by
  have h:=Zli
  cases hx:prog.info? 149 with
  | none=>rw[hx] at h;cases h
  | some i=>rw[hx] at h;exact⟨i,rfl,Option.some.inj h⟩
 simp only[Prod.mk.injEq] at f;obtain⟨s,r,p⟩:=f;have c:∀ty,(Builtin.append_ #[147,3] ty #[.slice none 0 0,.int .i64 n]).run prog w=.ok (.slice (some ⟨w.heap.size,0,none⟩) n (grownCap w n 0 149)) (w.drew.alloc (.cells (Builtin.zeroCells _ n++Builtin.zeroCells _ (grownCap w n 0 149-n)) 149)):=λ ty =>
  Lib.run_append_nil_zeros w 147 3 ty 149 i _ .i64 .i64 Zj3 underlying3 hi s n h0 (by rw[r];decide) (by omega) (by rw[p];omega)
 have l:n<=grownCap w n 0 149:=grownCap_ge w _ _ _;have a:grownCap w n 0 149<=maxLen:=grownCap_le_maxLen w n 0 149 (by simp only[maxLen];omega);obtain⟨G,j⟩:=Yx (grownCap w n 0 149);rw[<- j] at l a;simp only[<- j] at c;have u:G<=9223372036854775807:=by simp only[maxLen] at a;omega
 have k1:decide ((n:Int)>0)=true:=decide_eq_true (by omega);have k2:decide ((n:Int)<0)=false:=decide_eq_false (by omega);have k3:(0:Int)<n:=by omega
 have m:=Ya a;obtain⟨t,d⟩:=Yx (Builtin.zeroCells (Value.agg #[.int .i64 0,.int .i64 0,.string ByteArray.empty,.slice none 0 0,.slice none 0 0,.slice none 0 0,.slice none 0 0]).cells n++Builtin.zeroCells (Value.agg #[.int .i64 0,.int .i64 0,.string ByteArray.empty,.slice none 0 0,.slice none 0 0,.slice none 0 0,.slice none 0 0]).cells (G-n));have o:=Ya (show t.size=G*7 by
  rw[d,Array.size_append,size_zeroCells,size_zeroCells]
  show n*7+(G-n)*7=G*7
  omega)
 simp only[<- d] at c;clear j d a hi s r p;go_enter func231,ntmps231
 go_wp2_with (at_builtin;refine Lib.wpList_append_run _ rfl _ _ _ _ rfl _ _ rfl rfl _ _ (c _) ?_)
 go_ret
 refine⟨_,rfl,⟨rfl,.inr ⟨w.heap.size,G,t,rfl,Yb _,heap_alloc_new _ _,Yae _,m.out,o.out,rfl⟩⟩,?_⟩;exact((Yh w.heap.size w).drew).alloc (Yb _) _
structure S.bf where
 A:Option Addr
 n:Nat
 c:Nat
 xs:List Value
def S.bf.val (p:bf):Value:=.slice p.A p.n p.c
def S.al (ps:List bf):Nat:=(ps.map bf.n).sum
def S.bj (ps:List bf):List Value:=ps.flatMap bf.xs
theorem Zgn {a:List bf}{i:Nat}(h:i<a.length):al (a.take (i+1))=al (a.take i)+a[i].n:=by
 unfold al;rw[Ya8,Yf h,Yay,List.sum_append];simp
theorem Zxy {a:List bf}{i:Nat}(h:i<a.length):bj (a.take (i+1))=bj (a.take i)++a[i].xs:=by
 unfold bj;rw[Ya8,Yf h,List.flatMap_append];simp
theorem Zm1 (a:List bf)(i:Nat):al (a.take i)<=al a:=by
 have h:al a=al (a.take i)+al (a.drop i):=by
  unfold al;rw[<- List.sum_append,<- Yay,Ya1]
 omega
structure S.cz (w:World)(p:bf):Prop where
 len:p.xs.length=p.n*7
 nil:p.A=none->p.n=0
 at_:Reads w w.heap.size p.A p.xs
 one:∀u∈p.xs,u.oneCell'=true
theorem Zxz (A:Option Addr)(k c:Nat)(a:List bf)(M:k=a.length)(w:World)(h:Reads w w.heap.size A (a.map bf.val))(hp:∀p∈a,cz w p)(h0:0<al a)(h1:al a<=100000)(a1:k<=1000) :
 Calls prog 184 #[.slice A k c] w λ e w'=>∃E,e=.returned E/\w'.ownsRow w.heap.size 149 7 E (al a) (bj a)/\Below w.heap.size w w':=by
 have I:=Ya M;have P:=Ya h;have Z:=Ya hp;have H0:=Ya h0;have H1:=Ya h1;clear M h hp h0 h1;go_enter func184,ntmps184
 go_wp2_with fail
 go_loopw [3,11] (λ Y q wr=>∃i:Nat,i<=k/\Y=.int .i64 (al (a.take i))/\q=.int .i64 i/\w=wr) (λ _ q _=>k-(intOf q).toNat)
 case atStart=>exact⟨0,Yae _,rfl,rfl,rfl⟩
 case round =>
  obtain⟨i,hi,rfl,rfl,rfl⟩:=hrel;have u:=Zm1 a i;have G:=H1.out;by_cases s:i<k
  .have hil:i<a.length:=by rw[<- I.out];exact s
   obtain⟨b1,o1,r,m,j⟩:=P.out (by rw[Yaa];omega);have C:=j i a[i].val (by rw[Y9,Yf hil];rfl);have o:=Ya (Zgn hil);have d:=Zm1 a (i+1);rw[Zgn hil] at d;obtain⟨p,hp⟩:=Yx a[i];rw[<- hp] at C d o;obtain⟨T,l⟩:=Yx (al (a.take i));rw[<- l] at u d o⊢;unfold bf.val at C;have d1:decide ((i:Int)<(k:Int))=true:=decide_eq_true (by omega);have i3:(i:Int)<(k:Int):=by omega
   have p1:IntKind.i64.wrap ((T:Int)+p.n)=((T+p.n:Nat):Int):=by rw[Yi _ ⟨by omega,by omega⟩];omega
   have W:IntKind.i64.wrap ((i:Int)+1)=(i:Int)+1:=Yi _ ⟨by omega,by omega⟩;have d2:decide (((T+p.n:Nat):Int)<0)=false:=decide_eq_false (by omega);subst r;clear j hp l;go_wp2_with fail
   go_roundw
   case rel=>exact⟨i+1,by omega,by rw[o.out];go_num,by go_num,trivial⟩
   case measure=>simp[intOf] <;> omega
  .have hie:k=i:=by omega
   subst hie;have d1:decide ((k:Int)<(k:Int))=false:=by simp
   have J:=Ya (show a.take k=a from by rw[I.out,List.take_length]);have y:=H0.out;obtain⟨N,D⟩:=Yx (al a);rw[J.out,<- D];have U:=Ya D;rw[<- D] at y G;clear u D;go_wp2_with fail
   refine(Z38 N y (by omega) w).mono ?_;rintro e w1 ⟨v1,rfl,x,m⟩;have K:=Ya x;have F:=Ya m;clear x m;go_wp2_with fail
   go_loopw [6,27] (λ v6 t V=>∃i:Nat,i<=k/\t=.int .i64 i/\Hid (V.ownsRow w.heap.size 149 7 v6 (al (a.take i)) (bj (a.take i)))/\Hid (Below w.heap.size w V)) (λ _ t _=>k-(intOf t).toNat)
   case atStart=>exact⟨0,Yae _,rfl,K,F⟩
   case round =>
    obtain⟨i,hi,rfl,B,v⟩:=hrel;obtain⟨A6,c6,rfl⟩:=Zc B.out;have u:=Zm1 a i;rw[<- U.out] at u;by_cases s:i<k
    .have hil:i<a.length:=by rw[<- I.out];exact s
     obtain⟨b1,o1,r,m,j⟩:=P.out.below v.out (by rw[Yaa];omega);have C:=j i a[i].val (by rw[Y9,Yf hil];rfl);have o:=Ya (Zgn hil);have O:=Ya (Zxy hil);have d:=Zm1 a (i+1);rw[Zgn hil,<- U.out] at d;have f:=Ya (Z.out a[i] (List.getElem_mem hil));obtain⟨p,hp⟩:=Yx a[i];rw[<- hp] at C d o O f;obtain⟨T,l⟩:=Yx (al (a.take i));rw[<- l] at u d o B⊢;unfold bf.val at C;have d1:decide ((i:Int)<(k:Int))=true:=decide_eq_true (by omega);have i3:(i:Int)<(k:Int):=by omega
     have W:IntKind.i64.wrap ((i:Int)+1)=(i:Int)+1:=Yi _ ⟨by omega,by omega⟩;subst r;clear j hp l;go_wp2_with (at_builtin;refine Zac rfl (.tmp 31) (.tmp 32) _ rfl w.heap.size 149 Zli Zj3 rfl (by decide) _ _ _ rfl B.out w.heap.size p.A p.n p.c p.xs rfl f.out.len f.out.nil (f.out.at_.below v.out) f.out.one (by simp only[maxLen];omega) (by omega) v.out.size ?_;intro E w4 z a0 L R;obtain⟨A4,c4,rfl⟩:=Zc z)
     go_roundw
     case rel=>exact⟨i+1,by omega,by go_num,Ya (by rw[o.out,O.out];exact z),Ya (v.out.trans L)⟩
     case measure=>simp[intOf] <;> omega
    .have hie:k=i:=by omega
     subst hie;have d1:decide ((k:Int)<(k:Int))=false:=by simp
     have Q:al (a.take k)=al a:=by rw[J.out]
     have X:bj (a.take k)=bj a:=by rw[J.out]
     rw[Q,X] at B;rw[Q];go_wp2_with fail
     go_ret
     exact⟨_,rfl,B.out,v.out⟩
namespace S
def ccRows:List AV->Option (Nat×List AV)
 | []=>some (0,[])
 | x::r=>match x with
  | .row n c=>if c.length=n*7 then(match ccRows r with|some y=>some (n+y.1,c++y.2) | none=>none) else none
  | _=>none
def concatA (x:AV):Option (AV×Tail):=match x with
 | .row k rows=>if k=rows.length/\k<=1000 then(match ccRows rows with|some y=>if 0<y.1/\y.1<=100000 then some (.row y.1 y.2,none) else none|none=>none) else none
 | _=>none
def orcN (f:FuncId)(xs:List AV):Option (AV×Tail) :=
 if f=184 then(match xs with | [x]=>concatA x|_=>none) else orcB f xs
end S
theorem Z0u {H:Zv}{w w':World}{n:Nat}{A:Option Addr}{c:Nat}{t:TypeId}{z:Nat}{cs:List S.AV}{xs:List Value}(a:∀b k,H b=some k->Bk w b)(s:Below w.heap.size w w')
 (x:w'.ownsRow w.heap.size t z (.slice A n c) n xs) (q:RepL H w cs xs) (hz:0<z):∃l:Zv,(∀b,b<w.heap.size->l b=H b)/\(∀b k,l b=some k->Bk w' b)/\RepV l w' (.row n cs) (.slice A n c):=by
 have E:∀l:Zv,(∀b,b<w.heap.size->l b=H b)->RepL l w' cs xs:=λ l h=>q.stay (λ b k f=>⟨k,by rw[h b (a b k f).lt];exact f,Yb _,λ o _=>s.cell (p:=⟨b,o,none⟩) (a b k f).lt⟩) _ _
 have d:cs.length=n*z:=by rw[<- x.1];exact(RepL.length q).symm
 rcases x.2 with⟨e,rfl⟩|⟨g,cap,C,e,hg,i,hn,y,B,m⟩
 .cases e
  refine⟨H,λ _ _=>rfl,λ b k f=>(a b k f).below s,?_⟩;rw[RepV];exact⟨none,0,rfl,λ _=>Y7 (by rw[d];simp),λ _=>rfl,.inl (Y7 (by rw[d];simp))⟩
 .cases e
  have hH:∀b,b<w.heap.size->(λ b=>if b=g then some cs.length else H b) b=H b:=λ b D=>by simp only;rw[if_neg (by omega)]
  refine⟨λ b=>if b=g then some cs.length else H b,hH,λ b k f=>?_,?_⟩
  .simp only at f
   by_cases h:b=g
   .rw[h];exact⟨_,_,i⟩
   .rw[if_neg h] at f;exact(a b k f).below s
  .rw[RepV]
   refine⟨_,_,rfl,λ h0=>Y7 (by rw[d,h0];simp),λ h0=>(by cases h0),.inr ⟨g,0,cs.length,rfl,by simp,by omega,Zjx (E _ hH) λ j u v=>?_⟩⟩;rw[Lib.cell_of_heap i,Nat.zero_add];have r:j<n*z:=by rw[<- x.1];exact(Yg.1 v).1
   rw[<- m,List.getElem?_take,if_pos r] at v
   simpa using v
theorem Zr8 {H:Zv}{w:World}(m:∀b k,H b=some k->b<w.heap.size):∀{d:List S.AV} {y:Nat×List S.AV} {vs:List Value},S.ccRows d=some y->RepL H w d vs->∃a:List bf,a.map bf.val=vs/\(∀p∈a,cz w p)/\al a=y.1/\RepL H w y.2 (bj a)
 | [],y,vs,h,hr=>by
  rw[RepL] at hr;subst hr
  cases h
  exact⟨[],rfl,λ p hp=>(by cases hp),rfl,by show RepL H w [] [];rw[RepL]⟩
 | x::r,y,vs,h,hr=>by
  rw[RepL] at hr;obtain⟨v,rs,rfl,C,q,f⟩:=hr;unfold S.ccRows at h
  split at h
  .rename_i n c
   split at h
   .rename_i hc
    split at h
    .rename_i y' hy'
     cases h
     obtain⟨a,E,t,I,z⟩:=Zr8 m hy' f;rw[RepV] at q;obtain⟨A,j,rfl,h0,hA,l⟩:=q;have e:∃xs,xs.length=n*7/\Reads w w.heap.size A xs/\(∀u∈xs,u.oneCell'=true)/\RepL H w c xs:=by
      rcases l with rfl|⟨b,o,k,rfl,D,_,i⟩
      .exact⟨[],hc,λ hp=>by simp at hp,λ u B=>(by cases B),by rw[RepL]⟩
      .obtain⟨us,q1,q2⟩:=Zdf i
       exact⟨us,by rw[RepL.length q1];exact hc,λ _=>⟨b,o,rfl,m b k D,q2⟩,RepL.one q1,q1⟩
     obtain⟨xs,G,k2,s,F⟩:=e;refine⟨⟨A,n,j,xs⟩::a,by rw[Yck,E];rfl,λ p hp=>?_,?_,?_⟩
     .rcases List.mem_cons.1 hp with rfl|hp
      .exact⟨G,hA,k2,s⟩
      .exact t p hp
     .show(List.map bf.n (⟨A,n,j,xs⟩::a)).sum=n+y'.1
      rw[Yck,List.sum_cons,<- I];rfl
     .show RepL H w (c++y'.2) (List.flatMap bf.xs (⟨A,n,j,xs⟩::a))
      rw[List.flatMap_cons];exact RepL.append F z
    .cases h
   .cases h
  .cases h
theorem Zpe {x:S.AV}{r:S.AV}{y:S.Tail}(h:S.concatA x=some (r,y)):AFn prog LVE 184 [x] r y:=by
 intro H w vs a hL d;rw[RepT] at d;obtain⟨v,G,rfl,u,f⟩:=d;rw[RepT] at f;subst f;unfold S.concatA at h
 split at h
 .rename_i k rows
  split at h
  .rename_i hk
   split at h
   .rename_i z j
    split at h
    .rename_i hN
     cases h
     rw[RepV] at u;obtain⟨A,c,rfl,h0,hA,q⟩:=u;rcases q with rfl|⟨b,o,I,rfl,m,_,l⟩
     .cases j
      have:=hN.1;simp at this
     .obtain⟨G,q1,q2⟩:=Zdf l
      obtain⟨B,t,D,p,F⟩:=Zr8 (λ b k h=>(a b k h).lt) j q1;have i:k=B.length:=by rw[hk.1,<- RepL.length q1,<- t,Yaa]
      refine(Zxz _ k c B i w (λ _=>⟨b,o,rfl,(a b I m).lt,by rw[t];exact q2⟩) D (by rw[p];exact hN.1) (by rw[p];exact hN.2) hk.2).mono ?_;rintro e w' ⟨v',rfl,n,s⟩;obtain⟨A',c',rfl⟩:=Zc n;rw[p] at n⊢;obtain⟨K,J,C,E⟩:=Z0u a s n F (by decide);exact⟨_,K,rfl,s,J,C,E,λ z j=>by cases j⟩
    .cases h
   .cases h
  .cases h
 .cases h
theorem Ztu (f:FuncId)(xs:List S.AV)(r:S.AV)(y:S.Tail)(h:S.orcN f xs=some (r,y)):AFn prog LVE f xs r y:=by
 unfold S.orcN at h
 split at h
 .rename_i hf
  subst hf
  split at h
  .exact Zpe h
  .cases h
 .exact Zkz f xs r y h
theorem Ztv {d n:Nat}{f:FuncId}{xs:List S.AV}{r:S.AV}{y:S.Tail}(h:runFn prog S.orcN d n f xs=some (r,y)):AFn prog LVE f xs r y :=
 Zls (λ w w' a c=>a.on c) Ztu n f xs r y h
section
set_option maxRecDepth 100000
open Go Go.RowKit Go.Proofs
theorem Zpf:runFn prog S.orcN 400 20 52 []=some (.row 22 (ag objs27),some (105,2)):=by kernel_rfl
theorem Zqz:AFn prog LVE 52 [] (.row 22 (ag objs27)) (some (105,2)):=Ztv Zpf
theorem Z39:runFn prog S.orcB 400 20 50 []=some (.agg (encObj kLow lowItems),none):=by kernel_rfl
theorem Z6h:AFn prog LVE 50 [] (.agg (encObj kLow lowItems)) none:=Znx Z39
theorem Zr9:bi objs27=true:=by kernel_rfl
theorem Z6i:bi [oLow]=true:=by kernel_rfl
structure OCg (w:World)(g:Option Nat)(os:List S.Obj)(oc:List Value):Prop where
 len:oc.length=os.length*2
 one:∀u∈oc,u.oneCell'=true
 at_:∀(i:Nat)(x:S.Obj),os[i]?=some x->∃A c,oc[i*2]?=some (.string x.name)/\oc[i*2+1]?=some (.slice A x.items.length c) /\
  (0<x.items.length->∃b off,A=some ⟨b,off,none⟩/\b<w.heap.size/\some b≠g/\∀j y,x.items[j]?=some y->ItemAt w b (off+j*8) y)/\x.name.size<=maxLen/\∀y∈x.items,y.label.size<=maxLen
theorem OCg.oc {w:World}{g:Option Nat}{os:List S.Obj}{oc:List Value}(h:OCg w g os oc):OC w w.heap.size os oc:=⟨h.len,h.one,λ i x f=>by
 obtain⟨A,c,h0,h1,h2,h3⟩:=h.at_ i x f;exact⟨A,c,h0,h1,λ hp=>by
  obtain⟨b,off,e,a,_,d⟩:=h2 hp;exact⟨b,off,e,a,d⟩,h3⟩⟩
theorem OCg.below {w w':World}{g:Option Nat}{os:List S.Obj}{oc:List Value}(h:OCg w g os oc)(d:Below w.heap.size w w'):OCg w' g os oc:=⟨h.len,h.one,λ i x m=>by
 obtain⟨A,c,h0,h1,h2,h3⟩:=h.at_ i x m;exact⟨A,c,h0,h1,λ hp=>by
  obtain⟨b,off,e,a,hg,f⟩:=h2 hp;have:=d.size;exact⟨b,off,e,by omega,hg,λ j y l=>(f j y l).block (d.block b a)⟩,h3⟩⟩
theorem OCg.grow {w w':World}{g f:Option Nat}{os:List S.Obj}{oc:List Value}(h:OCg w g os oc)(hg:w.grownBy w' g)(l:f=g\/∃k,f=some k/\w.heap.size<=k):OCg w' f os oc:=⟨h.len,h.one,λ i x o=>by
 obtain⟨A,c,h0,h1,h2,h3⟩:=h.at_ i x o;exact⟨A,c,h0,h1,λ hp=>by
  obtain⟨b,off,e,d,a,m⟩:=h2 hp;have:=hg.size;refine⟨b,off,e,by omega,?_,λ j y n=>(m j y n).block (hg.block b d a)⟩;rcases l with rfl|⟨k,rfl,hk⟩
  .exact a
  .intro e
   have e':b=k:=Option.some.inj e;omega,h3⟩⟩
theorem OCg.app {w:World}{g:Option Nat}{a b:List S.Obj}{l m:List Value}(h:OCg w g a l)(k:OCg w g b m):OCg w g (a++b) (l++m):=by
 refine⟨by rw[Yd,Yd,h.len,k.len];omega,λ u n=>(Y4.1 n).elim (h.one u) (k.one u),λ i x d=>?_⟩;by_cases c:i<a.length
 .rw[Yn c] at d
  obtain⟨j,e,h0,h1,h2⟩:=h.at_ i x d;have f:=h.len;exact⟨j,e,by rw[Yn (by omega)];exact h0,by rw[Yn (by omega)];exact h1,h2⟩
 .rw[Yo (by omega)] at d
  obtain⟨j,e,h0,h1,h2⟩:=k.at_ (i-a.length) x d;have f:=h.len;exact⟨j,e,by rw[Yo (by omega),f,show i*2-a.length*2=(i-a.length)*2 from by omega];exact h0,by rw[Yo (by omega),f,show i*2+1-a.length*2=(i-a.length)*2+1 from by omega];exact h1,h2⟩
theorem OC.g {w:World}{B:Nat}{g:Option Nat}{os:List S.Obj}{oc:List Value}(h:OC w B os oc)(hB:B<=w.heap.size)(hg:∀k,g=some k->B<=k):OCg w g os oc:=⟨h.len,h.one,λ i x d=>by
 obtain⟨A,c,h0,h1,h2,h3⟩:=h.at_ i x d;exact⟨A,c,h0,h1,λ hp=>by
  obtain⟨b,off,e,hb,a⟩:=h2 hp;exact⟨b,off,e,by omega,λ e=>by have:=hg b e.symm;omega,a⟩,h3⟩⟩
section
variable {H:Zv}{w:World}{g:Option Nat}(hH:∀b k,H b=some k->b<w.heap.size/\some b≠g)
include hH
theorem Zhb:∀{os:List S.Obj} {xs:List Value},RepL H w (ag os) xs->(∀x∈os,(∀y∈x.items,0<=y.word/\y.word<=4294967295)/\x.name.size<=maxLen/\∀y∈x.items,y.label.size<=maxLen)->OCg w g os xs
 | [],xs,h,_=>by
  have a:RepL H w [] xs:=h;rw[RepL] at a;subst a;exact { len:=rfl,one:=λ u q=>(List.not_mem_nil q).elim,at_:=λ i x m=>by simp at m }
 | o::r,xs,h,hw=>by
  have a:RepL H w (.str o.name::.row o.items.length (encItems o.items)::ag r) xs:=h;rw[RepL] at a;obtain⟨v0,rs,rfl,_,f,a⟩:=a;rw[RepL] at a;obtain⟨B,rs,rfl,_,d,a⟩:=a;rw[RepV] at f;subst f;obtain⟨s,z,C⟩:=hw o Yv;have ih:=Zhb a λ x m=>hw x (Yy _ m)
  have l:∃A c,B=.slice A o.items.length c/\(0<o.items.length->∃b off,A=some ⟨b,off,none⟩/\b<w.heap.size/\some b≠g/\∀j y,o.items[j]?=some y->ItemAt w b (off+j*8) y):=by
   rw[RepV] at d;obtain⟨A,c,rfl,_,_,t⟩:=d;refine⟨A,c,rfl,λ hp=>?_⟩;rcases t with e|⟨b,off,k,rfl,n,_,v⟩
   .have h8:=Zi2 o.items
    rw[e] at h8;simp at h8;omega
   .exact⟨b,off,rfl,(hH b k n).1,(hH b k n).2,Zg3 v s⟩
  obtain⟨A,c,rfl,hi⟩:=l;have h1:OCg w g [o] [.string o.name,.slice A o.items.length c]:=⟨rfl,by simp[Y1],λ i y p=>by
   cases i with
   | zero=>cases p;exact⟨A,c,rfl,rfl,hi,z,C⟩
   | succ i=>cases p⟩
  exact h1.app ih
end
end
section
namespace S
def dvB (b:Int):List Int->Int
 | []=>0
 | d::r=>d+b*dvB b r
def DgB (b:Int)(l:List Int):Prop:=∀d∈l,0<=d/\d<b
def Cn (b:Int)(l:List Int)(n:Int):Prop:=DgB b l/\(l=[]\/l.getD (l.length-1) 0≠0)/\dvB b l=n
def Nz (neg:Bool)(l:List Int)(z:Int):Prop:=Cn 10 l (if z<0 then -z else z)/\neg=decide (z<0)
def Wz (z:Int)(l:List Int):Prop :=
 (-536870912<=z/\z<536870912/\l=[u32m (4*z)]) \/
 ((z < -536870912\/536870912<=z)/\∃ds,Cn 65536 ds (if z<0 then -z else z)/\l=(32*((ds.length:Int)+1)+31)::(if z<0 then 4 else 0)::ds.map λ d=>4*d)
end S
section
variable {b:Int}
theorem Zap (a:0<=b):∀{l:List Int},S.DgB b l->0<=S.dvB b l
 | [],_=>Y5 _
 | d::r,h=>by
  have h1:=h d Yv;have h2:=Zap a (l:=r) λ x c=>h x (Yy _ c)
  have:=Int.mul_nonneg a h2;rw[S.dvB];omega
theorem Zm2:∀(x y:List Int),S.dvB b (x++y)=S.dvB b x+b^x.length*S.dvB b y
 | [],y=>by show S.dvB b y=0+b^0*S.dvB b y;simp
 | d::r,y=>by
  have h:=Zm2 r y
  show d+b*S.dvB b (r++y)=d+b*S.dvB b r+b^(r.length+1)*S.dvB b y
  rw[h,Int.pow_succ];generalize b^r.length=B
  grind
theorem Zgo (x:List Int)(d:Int):S.dvB b (x++[d])=S.dvB b x+b^x.length*d:=by
 rw[Zm2]
 show _+_*(d+b*0)=_
 rw[Int.mul_zero,Ybc]
theorem Zig:∀{l:List Int},(∀j:Nat,l.getD j 0=0)->S.dvB b l=0
 | [],_=>rfl
 | d::r,h=>by
  have h0:d=0:=h 0;have:=Zig (l:=r) λ j=>h (j+1)
  rw[S.dvB,this,h0];simp
theorem Ze7 (a:0<b):∀{l:List Int},S.DgB b l->S.dvB b l<b^l.length
 | [],_=>by show(0:Int)<b^0;simp
 | d::r,h=>by
  have h1:=h d Yv;have h2:=Ze7 a (l:=r) λ x c=>h x (Yy _ c)
  have h3:=Int.mul_le_mul_of_nonneg_left (show S.dvB b r+1<=b^r.length by omega) (Yaz a);have e:b*(S.dvB b r+1)=b*S.dvB b r+b:=by grind
  have e2:b*b^r.length=b^(r.length+1):=by rw[Int.pow_succ,Int.mul_comm]
  rw[S.dvB,List.length_cons];omega
theorem Zm3 {l:List Int}(h:S.DgB b l)(n:Nat):S.DgB b (l.take n):=λ d a=>h d (List.mem_of_mem_take a)
theorem Zb8 (a:0<b){l:List Int}(h:S.DgB b l)(j:Nat):0<=l.getD j 0/\l.getD j 0<b:=by
 rw[Ye]
 cases hq:l[j]? with
 | none=>exact⟨Y5 _,a⟩
 | some x=>exact h x (List.mem_of_getElem? hq)
theorem Z0v {l:List Int}{n:Nat}(h:Top l n):S.dvB b (l.take n)=S.dvB b l:=by
 have e:S.dvB b l=S.dvB b (l.take n++l.drop n):=by rw[Ya1]
 rw[e,Zm2,Zig (l:=l.drop n) λ j=>by rw[Zeo];exact h.2.1 _ (by omega),Int.mul_zero,Ybc]
theorem Zlj {l:List Int}{n:Nat}(a:S.DgB b l)(h:Top l n):S.Cn b (l.take n) (S.dvB b l):=by
 have d:(l.take n).length=n:=by rw[Yr];have:=h.1;omega
 refine⟨Zm3 a n,?_,Z0v h⟩;rcases h.2.2 with e|e
 .exact .inl (by rw[e];rfl)
 .by_cases c:n=0
  .exact .inl (by rw[c];rfl)
  .exact .inr (by rw[d,Zan (by omega)];exact e)
theorem Z0w (hb:2<=b){l:List Int}{n:Int}(h:S.Cn b l n)(d:0<l.length):b^(l.length-1)<=n:=by
 obtain⟨h1,h2,h3⟩:=h;have f:=h2.resolve_left (λ e=>by rw[e] at d;exact absurd d (by decide));have e:l=l.take (l.length-1)++l.drop (l.length-1):=(Ya1 _ _).symm;have i:l.drop (l.length-1)=[l.getD (l.length-1) 0]:=by
  have c:l.length-1<l.length:=by omega
  rw[Ybo c,List.drop_eq_nil_of_le (by omega),Ye,Yf c];rfl
 have a:(l.take (l.length-1)).length=l.length-1:=by rw[Yr];omega
 have h5:S.dvB b l=S.dvB b (l.take (l.length-1))+b^(l.length-1)*l.getD (l.length-1) 0:=by
  conv=>lhs;rw[e,i,Zgo,a]
 have h6:=Zap (show 0<=b by omega) (Zm3 h1 (l.length-1));have h7:=(Zb8 (show 0<b by omega) h1 (l.length-1)).1;have hp:0<b^(l.length-1):=Ya2 (by omega);have h8:=Int.mul_le_mul_of_nonneg_left (show 1<=l.getD (l.length-1) 0 by omega) (Yaz hp);omega
theorem Z4a (hb:2<=b){l:List Int}{n:Int}(h:S.Cn b l n):n<b^l.length:=by
 rw[<- h.2.2];exact Ze7 (by omega) h.1
theorem Za3 (hb:1<=b){i j:Nat}(h:i<=j):b^i<=b^j:=by
 obtain⟨c,rfl⟩:=Nat.le.dest h;rw[Int.pow_add];have h1:(0:Int)<b^i:=Ya2 (by omega);have h2:(0:Int)<b^c:=Ya2 (by omega);have:=Int.mul_le_mul_of_nonneg_left (show 1<=b^c by omega) (Yaz h1);omega
theorem Zgp (c:2<=b){l a:List Int}{n n':Int}(h:S.Cn b l n)(d:S.Cn b a n')(hl:l.length<a.length):n<n':=by
 have h1:=Z4a c h;have h2:=Z0w c d (by omega);have h3:=Za3 (b:=b) (by omega) (show l.length<=a.length-1 by omega);omega
theorem Zgq (c:0<b):∀(k:Nat) {x y:List Int},S.DgB b x->S.DgB b y->(∀j:Nat,k<j->x.getD j 0=y.getD j 0)->x.getD k 0<y.getD k 0->S.dvB b x<S.dvB b y:=by
 have ext:∀{x y:List Int},(∀j:Nat,x.getD j 0=y.getD j 0)->S.dvB b x=S.dvB b y:=by
  intro x
  induction x with
  | nil=>intro y h;exact(Zig λ j=>(h j).symm).symm
  | cons d r ih =>
   intro y h
   cases y with
   | nil=>exact Zig h
   | cons e s =>
    have h0:d=e:=h 0;have:=ih (y:=s) λ j=>h (j+1)
    rw[S.dvB,S.dvB,this,h0]
 have head:∀x:List Int,S.dvB b x=x.getD 0 0+b*S.dvB b x.tail:=λ x=>by
  cases x with
  | nil=>show(0:Int)=0+b*0;simp
  | cons d r=>rfl
 have tl:∀{x:List Int},S.DgB b x->S.DgB b x.tail:=λ h d l=>h d (List.mem_of_mem_tail l)
 intro k
 induction k with
 | zero =>
  intro x y i f h a;have:=ext (x:=x.tail) (y:=y.tail) λ j=>by rw[Zaw,Zaw];exact h (j+1) (by omega)
  rw[head x,head y,this];omega
 | succ k ih =>
  intro x y i f h a;have h1:=ih (tl i) (tl f) (λ j hj=>by rw[Zaw,Zaw];exact h (j+1) (by omega)) (by rw[Zaw,Zaw];exact a);have b1:=Zb8 c i 0;have b2:=Zb8 c f 0;have h2:=Int.mul_le_mul_of_nonneg_left (show S.dvB b x.tail+1<=S.dvB b y.tail by omega) (Yaz c);have e:b*(S.dvB b x.tail+1)=b*S.dvB b x.tail+b:=by grind
  rw[head x,head y];omega
theorem Z1y (p:2<=b){l a:List Int}{n:Int}(h:S.Cn b l n)(d:S.Cn b a n):l=a:=by
 have r:l.length=a.length:=by
  refine Y_c λ c=>?_
  rcases Nat.lt_or_gt_of_ne c with q|q
  .have:=Zgp p h d q;omega
  .have:=Zgp p d h q;omega
 have o:∀j:Nat,l.getD j 0=a.getD j 0:=by
  refine λ j=>Y_c λ c=>?_
  have hm:∀m:Nat,(∀j,m<=j->l.getD j 0=a.getD j 0)->False:=by
   intro m
   induction m with
   | zero=>exact λ q=>c (q j (Yae _))
   | succ m ih =>
    intro q;by_cases e:l.getD m 0=a.getD m 0
    .exact ih λ j f=>if ej:j=m then by rw[ej];exact e else q j (by omega)
    .rcases Int.lt_or_gt_of_ne e with q2|q2
     .have:=Zgq (show 0<b by omega) m h.1 d.1 (λ j f=>q j (by omega)) q2
      rw[h.2.2,d.2.2] at this;omega
     .have:=Zgq (show 0<b by omega) m d.1 h.1 (λ j f=>(q j (by omega)).symm) q2
      rw[h.2.2,d.2.2] at this;omega
  refine hm l.length λ j f=>?_
  rw[Ye,List.getElem?_eq_none f,Ye,List.getElem?_eq_none (by omega)]
 refine Yca r λ i h1 h2=>?_
 have:=o i;rw[Ye,Yf h1,Ye,Yf h2] at this;exact this
end
theorem Zsa:∀l:List Int,dval l=S.dvB 65536 l
 | []=>rfl
 | d::r=>by rw[dval,S.dvB,Zsa r]
theorem Zsb {z:Int}{l d:List Int}(h:S.Wz z l)(f:S.Wz z d):l=d:=by
 rcases h with⟨j,e,a⟩|⟨j,ds,e,a⟩ <;> rcases f with⟨b1,b2,c⟩|⟨b1,i,b2,c⟩
 .rw[a,c]
 .omega
 .omega
 .rw[a,c,Z1y (by decide) e b2]
end
theorem Zsc (A:Option Addr)(N c:Nat)(l:List Int)(u:N=l.length)(w:World)(B:Nat)(h:Ints w B A l)(hl:N<=1000000)(hA:A=none->N=0)(hc:N<=c) :
 Calls prog 80 #[.slice A N c] w λ e w'=>∃m n,Top l m/\e=.returned (.slice A m c)/\w'=w.drewN n:=by
 have s:=Ya u;have H:=Ya h;clear u h;go_enter func80,ntmps80
 go_wp2_with fail
 go_loopw [3] (λ i wr=>∃k n:Nat,k<=N/\i=.int .i64 k/\Hid (∀j,k<=j->l.getD j 0=0)/\wr=w.drewN n) (λ i _=>(intOf i).toNat)
 case atStart=>exact⟨N,0,Yb _,rfl,Ya λ j y=>by rw[Ye,List.getElem?_eq_none (by rw[<- s.out];exact y)];rfl,rfl⟩
 case round =>
  obtain⟨k,n,z,rfl,p,rfl⟩:=hrel;by_cases c0:k=0
  .subst c0
   have d:=Ya (show Top l 0 from⟨Yae _,p.out,.inl rfl⟩);go_wp2_with fail
   go_ret
   exact⟨0,_,d.out,rfl,rfl⟩
  .obtain⟨q,rfl⟩:∃q,k=q+1:=⟨k-1,by omega⟩
   obtain⟨b,off,o,D,r⟩:=H.out.at_ (k:=q) (by rw[<- s.out];omega);obtain⟨x,t⟩:=Yx (l.getD q 0);rw[<- t] at r;have v:=Ya t;have e2:IntKind.i64.wrap (((q+1:Nat):Int)-1)=(q:Int):=by rw[Yi _ (by omega)];omega
   have e3:IntKind.i64.wrap (q:Int)=(q:Int):=by rw[Yi _ (by omega)]
   have i1:((q+1:Nat):Int)<=(N:Int):=by omega
   have i3:(q:Int)<(N:Int):=by omega
   have i4:(0:Int)<=(q:Int):=by omega
   have d0:decide ((0:Int)<((q+1:Nat):Int))=true:=by simp
   subst o;clear t;by_cases a:x=0
   .have ex:(x==0)=true:=by simp[a]
    have f:=Ya a;clear a;go_wp2_with fail
    go_roundw
    case rel =>
     refine⟨q,_,by omega,by go_num,Ya λ j y=>?_,rfl⟩;by_cases C:j=q
     .rw[C,<- v.out];exact f.out
     .exact p.out j (by omega)
    case measure=>simp[intOf] <;> omega
   .have ex:(x==0)=false:=by simp[a]
    have d:=Ya (show Top l (q+1) from⟨by rw[<- s.out];exact z,p.out,.inr (by rw[Nat.add_sub_cancel,<- v.out];exact a)⟩);clear a;go_wp2_with fail
    go_ret
    exact⟨q+1,_,d.out,rfl,rfl⟩
def Zx (neg:Bool)(A:Option Addr)(n c:Nat):Value:=.agg #[.bool neg,.slice A n c]
theorem Zsd (neg:Bool)(A:Option Addr)(N c:Nat)(l:List Int)(a:N=l.length)(w:World)(B:Nat)(h:Ints w B A l)(f:B<=w.heap.size)(o:N<=1000000)(hA:A=none->N=0)(i:N<=c) :
 Calls prog 49 #[.bool neg,.slice A N c] w λ e w'=>∃m,Top l m/\e=.returned (Zx (neg && decide (0<m)) A m c)/\Below w.heap.size w w':=by
 have j:=Ya a;have H:=Ya h;clear a h;go_enter func49,ntmps49
 go_wp2_with fail
 refine(Zsc A N c l j.out _ B ?_ o hA i).mono ?_
 .exact H.out.below ((Yh _ _).alloc f _)
 rintro e w2 ⟨m,n,hm,rfl,rfl⟩;have d:=Ya hm;clear hm
 cases neg with
 | false =>
  go_wp2_with fail
  refine bodyPost_ret (v:=Zx (false && decide (0<m)) A m c) (by simp[results,results49,go_sem,Zx]) rfl ?_;refine⟨m,d.out,rfl,?_⟩;exact((below_drewN ((Yh _ _).alloc (Yb _) _) n).setCell (Yb _) _).setCell (Yb _) _
 | true =>
  have hd:decide ((m:Int)>0)=decide (0<m):=by simp
  go_wp2_with fail
  refine bodyPost_ret (v:=Zx (true && decide (0<m)) A m c) (by simp[results,results49,go_sem,Zx]) rfl ?_;refine⟨m,d.out,rfl,?_⟩;exact((below_drewN ((Yh _ _).alloc (Yb _) _) n).setCell (Yb _) _).setCell (Yb _) _
def S.ab (x y:Int):Int:=if x<y then -1 else if x=y then 0 else 1
theorem Zhc (A V:Option Addr)(N c d c':Nat)(l t:List Int)(x y:Int)(E:N=l.length)(o:d=t.length)(w:World)(B:Nat)(h:Ints w B A l)(U:Ints w B V t)(hl:N<=1000000)(a2:d<=1000000)(W:S.Cn 10 l x)(X:S.Cn 10 t y) :
 Calls prog 127 #[.slice A N c,.slice V d c'] w λ e w'=>e=.returned (.int .i64 (ab x y))/\Below w.heap.size w w':=by
 have C:=Ya E;have a:=Ya o;have H:=Ya h;have H':=Ya U;have p:=Ya W;have r:=Ya X;clear h U W X;by_cases c1:N=d
 .subst c1
  clear E o;have P:((N:Int) != (N:Int))=false:=by simp
  have a4:IntKind.i64.wrap ((N:Int)-1)=(N:Int)-1:=by rw[Yi _ (by omega)]
  go_enter func127,ntmps127
  go_wp2_with fail
  go_loopw [5] (λ i wr=>∃k:Int,-1<=k/\k<N/\i=.int .i64 k/\Hid (∀j:Nat,k<j->l.getD j 0=t.getD j 0)/\∃n,wr=w.drewN n) (λ i _=>(intOf i+1).toNat)
  case atStart=>exact⟨(N:Int)-1,by omega,by omega,rfl,Ya λ j K=>by rw[Ye,List.getElem?_eq_none (by rw[<- C.out];omega),Ye,List.getElem?_eq_none (by rw[<- a.out];omega)],0,rfl⟩
  case round =>
   obtain⟨k,a0,a1,rfl,F,n,rfl⟩:=hrel;by_cases c0:0<=k
   .obtain⟨q,rfl⟩:=Ya0 c0
    have T:q<N:=by omega
    obtain⟨b,off,G,a3,M⟩:=H.out.at_ (k:=q) (by rw[<- C.out];exact T);obtain⟨b',Z,D,Y,z⟩:=H'.out.at_ (k:=q) (by rw[<- a.out];exact T);obtain⟨u,I⟩:∃x,x=l.getD q 0:=⟨_,rfl⟩
    obtain⟨v,L⟩:∃x,x=t.getD q 0:=⟨_,rfl⟩
    rw[<- I] at M;rw[<- L] at z;have O:=Ya I;have Q:=Ya L;have e2:IntKind.i64.wrap ((q:Int)-1)=(q:Int)-1:=by rw[Yi _ (by omega)]
    have e3:IntKind.i64.wrap (q:Int)=(q:Int):=by rw[Yi _ (by omega)]
    have i3:(q:Int)<(N:Int):=by omega
    have i4:(0:Int)<=(q:Int):=by omega
    subst G D;clear I L;by_cases s:u=v
    .have en:(u != v)=false:=by simp[s]
     have Cu:=Ya s;clear s;go_wp2_with fail
     go_quiet (fail)
     go_wp2_with fail
     go_roundw
     case rel =>
      refine⟨(q:Int)-1,by omega,by omega,by go_num,Ya λ j K=>?_,_,rfl⟩;by_cases cj:j=q
      .rw[cj,<- O.out,<- Q.out];exact Cu.out
      .exact F.out j (by omega)
     case measure=>simp[intOf] <;> omega
    .have en:(u != v)=true:=by simp[s]
     by_cases m:u<v
     .have el:decide (u<v)=true:=by simp[m]
      have f:=Ya (show ab x y=-1 by
       have:=Zgq (show(0:Int)<10 by decide) q p.out.1 r.out.1 (λ j K=>F.out j (by omega)) (by rw[<- O.out,<- Q.out];exact m);rw[p.out.2.2,r.out.2.2] at this;unfold ab;rw[if_pos this])
      clear s m;go_wp2_with fail
      go_quiet (fail)
      go_wp2_with fail
      go_quiet (fail)
      go_wp2_with fail
      go_ret
      exact⟨by rw[f.out];rfl,by repeat (first|exact Yh _ _|refine below_drewN ?_ _)⟩
     .have el:decide (u<v)=false:=by simp[m]
      have f:=Ya (show ab x y=1 by
       have:=Zgq (show(0:Int)<10 by decide) q r.out.1 p.out.1 (λ j K=>(F.out j (by omega)).symm) (by rw[<- O.out,<- Q.out];omega);rw[p.out.2.2,r.out.2.2] at this;unfold ab;rw[if_neg (by omega),if_neg (by omega)])
      clear s m;go_wp2_with fail
      go_quiet (fail)
      go_wp2_with fail
      go_quiet (fail)
      go_wp2_with fail
      go_ret
      exact⟨by rw[f.out];rfl,by repeat (first|exact Yh _ _|refine below_drewN ?_ _)⟩
   .have ek:k=-1:=by omega
    subst ek;have f:=Ya (show ab x y=0 by
     have he:l=t:=by
      refine Yca (by rw[<- C.out];exact a.out) λ i h1 h2=>?_
      have:=F.out i (by omega);rw[Ye,Yf h1,Ye,Yf h2] at this;exact this
     have J:x=y:=by rw[<- p.out.2.2,<- r.out.2.2,he]
     unfold ab;rw[if_neg (by omega),if_pos J])
    go_wp2_with fail
    go_ret
    exact⟨by rw[f.out];rfl,by repeat (first|exact Yh _ _|refine below_drewN ?_ _)⟩
 .have P:((N:Int) != (d:Int))=true:=by simp;omega
  by_cases m:N<d
  .have el:decide ((N:Int)<(d:Int))=true:=by simp;omega
   have R:decide (N<d)=true:=by simp;omega
   have f:=Ya (show ab x y=-1 by
    have:=Zgp (by decide) p.out r.out (by rw[<- C.out,<- a.out];exact m);unfold ab;rw[if_pos this])
   clear c1 m E o;go_enter func127,ntmps127
   go_wp2_with fail
   go_ret
   exact⟨by rw[f.out];rfl,Yh _ _⟩
  .have el:decide ((N:Int)<(d:Int))=false:=by simp;omega
   have R:decide (N<d)=false:=by simp;omega
   have f:=Ya (show ab x y=1 by
    have:=Zgp (by decide) r.out p.out (by rw[<- C.out,<- a.out];omega);unfold ab;rw[if_neg (by omega),if_neg (by omega)])
   clear c1 m E o;go_enter func127,ntmps127
   go_wp2_with fail
   go_ret
   exact⟨by rw[f.out];rfl,Yh _ _⟩
theorem Zax {B:Nat}{w:World}(a:B<=w.heap.size)(o c:Obj):Below B w ((w.alloc o).alloc c):=((Yh B w).alloc a o).alloc (Ym a ((Yh B w).alloc a o).size) c
theorem Zcc {B:Nat}{w w1 a:World}(h:Below B w w1)(k:Below w1.heap.size w1 a)(c:B<=w1.heap.size):Below B w a:=h.trans (k.mono c)
structure NumW (w:World)(B:Nat)(z:Int)(neg:Bool)(A:Option Addr)(N c:Nat)(l:List Int):Prop where
 z:S.Nz neg l z
 len:N=l.length
 few:N<=1000000
 at_:Ints w B A l
 nil:A=none->N=0
 cap:N<=c
theorem NumW.below {w w':World}{B:Nat}{z:Int}{neg:Bool}{A:Option Addr}{N c:Nat}{l:List Int}(h:NumW w B z neg A N c l)(a:Below B w w'):NumW w' B z neg A N c l:=⟨h.z,h.len,h.few,h.at_.below a,h.nil,h.cap⟩
theorem NumW.more {w:World}{B B':Nat}{z:Int}{neg:Bool}{A:Option Addr}{N c:Nat}{l:List Int}(h:NumW w B z neg A N c l)(a:B<=B'):NumW w B' z neg A N c l:=⟨h.z,h.len,h.few,h.at_.more a,h.nil,h.cap⟩
theorem Ztw (neg neg':Bool)(A p:Option Addr)(N c n o:Nat)(l u:List Int)(z d:Int)(w:World)(B:Nat)(m:B<=w.heap.size)(h:NumW w B z neg A N c l)(x:NumW w B d neg' p n o u) :
 Calls prog 59 #[Zx neg A N c,Zx neg' p n o] w λ e w'=>e=.returned (.int .i64 (ab z d))/\Below w.heap.size w w':=by
 have H:=Ya h;have i:=Ya x;obtain⟨⟨D,f⟩,y,hf,s,_,_⟩:=h;obtain⟨⟨t,a⟩,v,r,j,_,_⟩:=x;unfold Zx;go_enter func59,ntmps59
 clear s j D t y v hf r
 cases neg <;> cases neg'
 .have Hr:=Ya (show ab (if z<0 then -z else z) (if d<0 then -d else d)=ab z d by
   have h1:=of_decide_eq_false f.symm;have h2:=of_decide_eq_false a.symm;rw[if_neg h1,if_neg h2])
  clear f a;go_wp2_with fail
  refine(Zhc A p N c n o l u _ _ H.out.len i.out.len _ B ?_ ?_ H.out.few i.out.few H.out.z.1 i.out.z.1).mono ?_
  .exact H.out.at_.below (Zax m _ _)
  .exact i.out.at_.below (Zax m _ _)
  rintro e C ⟨rfl,q⟩;rw[Hr.out];go_wp2_with fail
  go_ret
  exact⟨rfl,Zcc (Zax (Yb _) _ _) q (Zax (Yb _) _ _).size⟩
 .have Hr:=Ya (show ab z d=1 by
   have h1:=of_decide_eq_false f.symm;have h2:=of_decide_eq_true a.symm;unfold ab;rw[if_neg (by omega),if_neg (by omega)])
  clear f a;go_wp2_with fail
  go_ret
  exact⟨by rw[Hr.out];rfl,Zax (Yb _) _ _⟩
 .have Hr:=Ya (show ab z d=-1 by
   have h1:=of_decide_eq_true f.symm;have h2:=of_decide_eq_false a.symm;unfold ab;rw[if_pos (by omega)])
  clear f a;go_wp2_with fail
  go_ret
  exact⟨by rw[Hr.out];rfl,Zax (Yb _) _ _⟩
 .have Hr:=Ya (show ab (if d<0 then -d else d) (if z<0 then -z else z)=ab z d by
   have h1:=of_decide_eq_true f.symm;have h2:=of_decide_eq_true a.symm;rw[if_pos h2,if_pos h1];unfold ab
   split <;> (try split) <;> omega)
  clear f a;go_wp2_with fail
  refine(Zhc p A n o N c u l _ _ i.out.len H.out.len _ B ?_ ?_ i.out.few H.out.few i.out.z.1 H.out.z.1).mono ?_
  .exact i.out.at_.below (Zax m _ _)
  .exact H.out.at_.below (Zax m _ _)
  rintro e C ⟨rfl,q⟩;rw[Hr.out];go_wp2_with fail
  go_ret
  exact⟨rfl,Zcc (Zax (Yb _) _ _) q (Zax (Yb _) _ _).size⟩
theorem Ze8 {b:Int}(l:List Int)(q:Nat):S.dvB b (l.drop q)=l.getD q 0+b*S.dvB b (l.drop (q+1)):=by
 by_cases h:q<l.length
 .rw[Ybo h,Ye,Yf h]
  rfl
 .rw[List.drop_eq_nil_of_le (by omega),List.drop_eq_nil_of_le (by omega),Ye,List.getElem?_eq_none (by omega)]
  show(0:Int)=0+b*0
  simp
theorem drop_set {l:List Int}{q j:Nat}(x:Int)(h:q<j):(l.set q x).drop j=l.drop j:=by
 rw[List.drop_set,if_pos h]
theorem Ints.take_ {w:World}{B:Nat}{A:Option Addr}{xs:List Int}(h:Ints w B A xs)(m:Nat):Ints w B A (xs.take m):=λ hp=>by
 obtain⟨b,off,e,d,f⟩:=h (by rw[Yr] at hp;omega);refine⟨b,off,e,d,λ i x c=>f i x ?_⟩;have a:=(Yg.1 c).1;rw[Yr] at a;rw[List.getElem?_take_of_lt (by omega)] at c;exact c
theorem Ints.block {w w':World}{B g:Nat}{xs:List Int}(h:Ints w B (some ⟨g,0,none⟩) xs)(d:w'.heap[g]?=w.heap[g]?):Ints w' B (some ⟨g,0,none⟩) xs:=λ hp=>by
 obtain⟨b,off,e,c,f⟩:=h hp
 cases e
 exact⟨g,0,rfl,c,λ i x j=>(World.cell?_of_block (a:=⟨g,0+i,none⟩) d).trans (f i x j)⟩
theorem Zx0 (N:Nat):(madeCells #[.int .i64 0] N).toList=(Yt N (0:Int)).map (Ys .i64):=by
 rw[toList_madeCells_one,List.map_replicate]
theorem Z0x {w:World}{base:Nat}(a:base<=w.heap.size)(N:Nat)(hN:N<=1000000):(w.alloc (.cells (madeCells #[.int .i64 0] N) 3)).ownsRow base 3 1 (.slice (some ⟨w.heap.size,0,none⟩) N N) N ((Yt N (0:Int)).map (Ys .i64)):=by
 have c:(madeCells #[.int .i64 0] N).size=N:=by simp[madeCells]
 refine⟨by simp,.inr ⟨w.heap.size,N,madeCells #[.int .i64 0] N,rfl,a,heap_alloc_new w _,Yb _,by simp only[maxLen];omega,by rw[c,Nat.mul_one],?_⟩⟩;rw[Zx0,List.take_of_length_le (by simp)]
theorem Z0y (A:Option Addr)(N c:Nat)(l:List Int)(n:Int)(hN:N=l.length)(w:World)(B:Nat)(hB:B<=w.heap.size)(h:Ints w B A l)(hl:N<=1000000)(X:S.Cn 10 l n) :
 Calls prog 64 #[.slice A N c] w λ e w'=>∃(m c':Nat)(K:List Int),e=.returned (.tuple #[.slice (some ⟨w.heap.size,0,none⟩) m c',.int .i64 (n%65536)])/\S.Cn 10 K (n/65536)/\m=K.length/\m<=N/\Ints w' w'.heap.size (some ⟨w.heap.size,0,none⟩) K/\Below w.heap.size w w'/\w.heap.size<w'.heap.size:=by
 have Z:=Ya hN;have H:=Ya h;have Hx:=Ya X;clear hN h X;have a2:=run_make_row' (P:=prog) 54 3 (.int .i64 0) 8 underlying54 Zbb rfl .i64 .i64 N (by omega) (by omega);have a4:IntKind.i64.wrap ((N:Int)-1)=(N:Int)-1:=by rw[Yi _ (by omega)]
 go_enter func64,ntmps64
 go_wp2_with fail
 go_loopw [5,6] (λ v5 R wr=>∃(k r:Int)(a:List Int),-1<=k/\k<N/\R=.int .i64 k/\v5=.int .i64 r/\(0<=r/\r<65536)/\Hid (a.length=N)/\Hid (wr.ownsRow w.heap.size 3 1 (.slice (some ⟨w.heap.size,0,none⟩) N N) N (a.map (Ys .i64)))/\Hid (Below w.heap.size w wr)/\Hid (S.DgB 10 a)/\Hid (S.dvB 10 (l.drop (k+1).toNat)=65536*S.dvB 10 (a.drop (k+1).toNat)+r)) (λ _ R _=>(intOf R+1).toNat)
 case atStart =>
  refine⟨(N:Int)-1,0,Yt N 0,by omega,by omega,rfl,rfl,by decide,Ya (by simp),Ya (Z0x (Yb _) N hl),Ya ((Yh _ _).alloc (Yb _) _),Ya (λ d V=>by rw[List.eq_of_mem_replicate V];decide),Ya ?_⟩;rw[show((N:Int)-1+1).toNat=N by omega,List.drop_eq_nil_of_le (by rw[<- Z.out];exact Yb _),List.drop_eq_nil_of_le (by simp)];rfl
 case round =>
  obtain⟨k,r,a,a0,a3,rfl,rfl,W,i,f,t,F,hv⟩:=hrel;by_cases c0:0<=k
  .obtain⟨q,rfl⟩:=Ya0 c0
   have G:q<N:=by omega
   obtain⟨b,off,U,a1,Q⟩:=(H.out.below (t.out.mono hB)).at_ (k:=q) (by rw[<- Z.out];exact G);obtain⟨u,I⟩:∃x,x=l.getD q 0:=⟨_,rfl⟩
   rw[<- I] at Q;have Hu:=Ya I;have L:=Zb8 (by decide) Hx.out.1 q;rw[<- I] at L;have e2:IntKind.i64.wrap ((q:Int)-1)=(q:Int)-1:=by rw[Yi _ (by omega)]
   have e3:IntKind.i64.wrap (q:Int)=(q:Int):=by rw[Yi _ (by omega)]
   have i3:(q:Int)<(N:Int):=by omega
   have i4:(0:Int)<=(q:Int):=by omega
   have e4:IntKind.i64.wrap (10*r)=10*r:=by rw[Yi _ (by omega)]
   have e5:IntKind.i64.wrap (10*r+u)=10*r+u:=by rw[Yi _ (by omega)]
   have e6:(10*r+u).tdiv 65536=(10*r+u)/65536:=Int.tdiv_eq_ediv_of_nonneg (by omega);have e7:(10*r+u).tmod 65536=(10*r+u)%65536:=Int.tmod_eq_emod_of_nonneg (by omega);have e8:IntKind.i64.wrap ((10*r+u)/65536)=(10*r+u)/65536:=by rw[Yi _ (by omega)]
   have e9:IntKind.i64.wrap ((10*r+u)%65536)=(10*r+u)%65536:=by rw[Yi _ (by omega)]
   have D:q<a.length:=by rw[i.out];exact G
   have j:=f.out.cellAt q (by rw[Nat.mul_one];exact G);rw[Y9,Yf D,Option.map_some] at j;have M:=f.out.frozenAt q;obtain⟨old,z⟩:∃x,x=a[q]:=⟨_,rfl⟩
   rw[<- z] at j;have C:=f.out.stored q (.int .i64 ((10*r+u)/65536));have T:=Ya C.1;have E:=Ya (t.out.setCell (p:=⟨w.heap.size,q,none⟩) (Yb _) (.int .i64 ((10*r+u)/65536)));subst U;clear I z C D;go_wp2_with fail
   go_roundw
   case rel =>
    refine⟨(q:Int)-1,(10*r+u)%65536,a.set q ((10*r+u)/65536),by omega,by omega,by go_num,rfl,by omega,Ya (by rw[List.length_set];exact i.out),Ya (by rw[List.map_set];exact T.out),E,Ya λ d V=>?_,Ya ?_⟩
    .rcases List.mem_or_eq_of_mem_set V with h|h
     .exact F.out d h
     .rw[h];omega
    .have o:=hv.out
     rw[show((q:Int)+1).toNat=q+1 by omega] at o;rw[show((q:Int)-1+1).toNat=q by omega,Ze8,Ze8 (a.set q _),drop_set _ (by omega),o,<- Hu.out,Zgj _ _ _ _ (by rw[i.out];exact G),if_pos rfl];generalize S.dvB 10 (List.drop (q+1) a)=Dq;omega
   case measure=>simp[intOf] <;> omega
  .have ek:k=-1:=by omega
   subst ek;have o:=hv.out;rw[show((-1:Int)+1).toNat=0 by decide,Yak,Yak,Hx.out.2.2] at o;have y:=Zwy (show(0:Int)<65536 by decide) (show n=r+S.dvB 10 a*65536 by omega) W.1 W.2;have HD:=Ya y;have s:Ints wr wr.heap.size (some ⟨w.heap.size,0,none⟩) a:=Ints.of_own f.out;have Y:=Ya s;clear o y s;go_wp2_with fail
   refine(Zsc (some ⟨w.heap.size,0,none⟩) N N a i.out.symm _ _ Y.out hl (λ h=>by cases h) (Yb _)).mono ?_;rintro e w2 ⟨m,n2,hm,rfl,rfl⟩;have O:=Ya hm;clear hm;go_wp2_with fail
   refine bodyPost_ret (v:=.tuple #[.slice (some ⟨w.heap.size,0,none⟩) m N,.int .i64 r]) (by simp[results,results64,go_sem]) rfl ?_;have J:(a.take m).length=m:=by rw[Yr];have:=O.out.1;omega
   rw[HD.out.1,HD.out.2];exact⟨m,N,a.take m,rfl,Zlj F.out O.out,J.symm,by have:=O.out.1;rw[i.out] at this;exact this,(Y.out.take_ m).below (below_drewN (Yh _ _) n2),below_drewN t.out n2,(f.out.lt _ rfl).2⟩
def S.aw:Int:=65536^1000
def Z7u:Value->Nat | .slice _ n _=>n|_=>0
theorem Zx1:(prog.info? 51).map (λ i=>(i.zero,i.size,i.bytes))=some (some (.int .u16 0),1,2):=by kernel_rfl
theorem Zx2 {b:Int}(a:2<=b){l:List Int}{n:Int}(h:S.Cn b l n)(c:0<l.length):1<=n:=by
 have h1:=Z0w a h c;have h2:(0:Int)<b^(l.length-1):=Ya2 (by omega);omega
theorem Zx3 {b:Int}{l:List Int}{n:Int}(h:S.Cn b l n)(a:l.length=0):n=0:=by
 rw[<- h.2.2,List.length_eq_zero_iff.1 a];rfl
theorem Zm4 (neg:Bool)(A:Option Addr)(N c:Nat)(l:List Int)(n:Int)(hN:N=l.length)(w:World)(B:Nat)(T:B<=w.heap.size)(h:Ints w B A l)(hl:N<=1000000)(hx:S.Cn 10 l n)(hn:n<aw) :
 Calls prog 27 #[Zx neg A N c] w λ e w'=>∃(A':Option Addr)(k c':Nat)(a:List Int),e=.returned (.slice A' k c')/\k=a.length/\k<=1000/\S.Cn 65536 a n/\w'.ownsRow w.heap.size 51 1 (.slice A' k c') k (a.map (Ys .u16))/\Below w.heap.size w w':=by
 have HN:=Ya hN;have H:=Ya h;have Hx:=Ya hx;have Hn:=Ya hn;clear hN h hx hn;unfold Zx;go_enter func27,ntmps27
 go_wp2_with fail
 go_loopw [3,4,5,6] (λ v3 v4 _ _ wr=>∃(L:Option Addr)(N1 c1:Nat)(l1:List Int)(n1:Int)(K:Option Addr)(k c2:Nat)(a:List Int),v4=.slice L N1 c1/\v3=.slice K k c2/\N1<=N/\Hid (N1=l1.length)/\Hid (Ints wr wr.heap.size L l1)/\Hid (S.Cn 10 l1 n1)/\k<=1000/\Hid (k=a.length)/\Hid (S.DgB 65536 a)/\Hid (n=S.dvB 65536 a+65536^k*n1)/\Hid (wr.ownsRow w.heap.size 51 1 (.slice K k c2) k (a.map (Ys .u16)))/\Hid (Below w.heap.size w wr)/\Hid (n1=0->a=[]\/a.getD (a.length-1) 0≠0)) (λ _ v4 _ _ _=>Z7u v4)
 case atStart =>
  refine⟨A,N,c,l,n,none,0,0,[],rfl,rfl,Yb _,HN,Ya ?_,Hx,by omega,Ya rfl,Ya (λ d Z=>by cases Z),Ya ?_,Ya (World.ownsRow_nil _ _ _ _),Ya ((Yh _ _).alloc (Yb _) _),Ya (λ _=>.inl rfl)⟩
  .exact(H.out.below ((Yh _ _).alloc T _)).more (Ym T ((Yh B w).alloc T _).size)
  .show n=0+1*n
   omega
 case round =>
  obtain⟨L,N1,c1,l1,n1,K,k,c2,a,rfl,rfl,a7,t,a3,u,hk,v,C,p,j,f,y⟩:=hrel;by_cases c0:N1=0
  .subst c0
   have E:n1=0:=Zx3 u.out t.out.symm;have HR:=Ya (show S.Cn 65536 a n from⟨C.out,y.out E,by rw[p.out,E,Int.mul_zero,Ybc]⟩);clear E;go_wp2_with fail
   go_ret
   exact⟨K,k,c2,a,rfl,v.out,hk,HR.out,j.out,f.out⟩
  .have d0:decide ((N1:Int)>0)=true:=by simp;omega
   have d1:decide (0<N1)=true:=by simp;omega
   have o:=Zx2 (by decide) u.out (by rw[<- t.out];omega);have a1:k+1<=1000:=by
    refine Y_c λ c=>?_
    have Y:k=1000:=by omega
    have h1:n<65536^1000:=Hn.out;have h2:=p.out;rw[Y] at h2;have h3:=Zap (show(0:Int)<=65536 by decide) C.out;have a6:(0:Int)<65536^1000:=Ya2 (by decide);generalize (65536:Int)^1000=P at *;have hP:0<=P:=by omega
    have h4:=Int.mul_le_mul_of_nonneg_left o hP;omega
   go_wp2_with fail
   refine(Z0y L N1 c1 l1 n1 t.out _ _ (Yb _) a3.out (by omega) u.out).mono ?_;rintro e w2 ⟨m,c3,l3,rfl,x,z,a8,F,s,U⟩;have a2:=Ya x;have Q:=Ya z;have X:=Ya F;have a0:=Ya (f.out.trans (s.mono f.out.size));have HO:=Ya (Ze j.out s);have hz:=f.out.size;have V:=s.size;have i:0<=n1%65536/\n1%65536<65536:=⟨Int.emod_nonneg _ (by decide),Int.emod_lt_of_pos _ (by decide)⟩
   have W:m<N1:=by
    refine Y_c λ c=>?_
    have h1:=Z0w (by decide) x (by omega);have h2:=Z4a (by decide) u.out;rw[<- t.out] at h2;rw[<- z] at h1;have h3:=Za3 (b:=10) (by decide) (show N1-1<=m-1 by omega);have h4:(10:Int)^N1=10*10^(N1-1):=by
     rw[show N1=(N1-1)+1 by omega,Int.pow_succ,Nat.add_sub_cancel,Int.mul_comm]
    have h5:(0:Int)<10^(N1-1):=Ya2 (by decide);omega
   obtain⟨r,M⟩:=Yx (n1%65536);rw[<- M] at i⊢;have Hr:=Ya M;have a4:IntKind.u16.wrap r=r:=by
    exact IntWalk.u16_in r ⟨i.1,by omega⟩
   have J:=Ya o;clear x z F s M o;go_wp2_with (at_builtin;refine Zm rfl (.tmp 17) (.tmp 20) _ rfl w.heap.size 51 Zx1 underlying48 rfl (by decide) #[.int .u16 r] _ _ _ rfl HO.out rfl rfl rfl (by simp[Y1]) (by simp only[maxLen];omega) (by omega) (Ym hz V) ?_;intro v' w7 I O G a5;obtain⟨A8,c8,rfl⟩:=Zc I)
   go_roundw
   case rel =>
    have R:=G.size;refine⟨_,m,c3,l3,n1/65536,A8,k+1,c8,a++[r],rfl,rfl,by omega,Q,Ya ((X.out.block (O.block wr.heap.size U λ e=>?_)).more R),a2,a1,Ya (by rw[Yd,<- v.out];rfl),Ya (λ d Z=>?_),Ya ?_,Ya (by rw[Yay];exact I),Ya (a0.out.trans G),Ya (λ h0=>.inr ?_)⟩
    .have:=(j.out.lt _ e.symm).2
     omega
    .rcases Y4.1 Z with q|q
     .exact C.out d q
     .rw[List.mem_singleton] at q
      rw[q];exact i
    .rw[Zgo,<- v.out,p.out,Hr.out,Int.pow_succ]
     have e:n1=n1%65536+65536*(n1/65536):=by omega
     generalize (65536:Int)^k=P;generalize S.dvB 65536 a=D;generalize n1/65536=q1 at *;generalize n1%65536=r1 at *;subst e
     grind
    .rw[Yd]
     show(a++[r]).getD (a.length+1-1) 0≠0
     rw[Nat.add_sub_cancel,Zmq,if_neg (by omega),Nat.sub_self]
     show r≠0
     have hp:=J.out;rw[Hr.out];omega
   case measure=>exact W
