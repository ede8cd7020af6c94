/- Parts. -/
import Derived.Test.YtcjhmiijbojgeaaGreatDoorZExtC
import Derived.Test.YtcjhmiijbojgeaaGreatDoorZQj
import Derived.Lib.AppendZeros
set_option linter.all false
set_option maxHeartbeats 4000000
open Go.Lib renaming hid->Ya,cell_of_heap->Yb
open Nat renaming le_refl->Yc,zero_le->Yao
open List renaming length_append->Yd,getElem?_eq_getElem->Ye,mem_cons->Yr,not_mem_nil->Yv,eq_nil_of_length_eq_zero->Y4,length_map->Y8,getElem?_map->Yaf,take_add_one->Yan,map_append->Yba,map_cons->Ybr
open Go.IntWalk renaming i64_in->Ym
open Int renaming tmod_eq_emod_of_nonneg->Ya3
namespace Go.Proofs.YtcjhmiijbojgeaaGreatDoor
open S Go.Proofs.Tryz Go.RowKit
set_option maxRecDepth 100000
def S.aj (I:Img)(name:ByteArray)(behind:Bool)(st:Vw)(d ret:Int)(R:BO->Nat->Prop):Prop :=
 ∀V top,Mt I V st->V.reg 28=top->V.reg 31=ret->0<=ret->ret<I.size->I.lo<=top->top+d<=I.hi->∃o k,R o k/\Done I V (I.lab name) k top ret behind o
theorem Z1p {I:Img}(m:I.Ok)(r:BR)(hc:chkB r=0){i:Nat}(u:Seg I r.name i (bItems r)){dep:Int}(D:0<=dep)(st:Vw)(ret:Int)(R:BO->Nat->Prop)
 (hw:∀(env:List Int),(env.length:Int)=r.locals->(∀k:Nat,(k:Int)<r.params->env.getD k 0=st.reg (4+k)) ->
  wpSs I dep ret r.behind r.body env st (r.params.toNat+2) (λ _ t z=>R (.ret t) (z+(if r.behind=true then 5 else 3))) R) :
 aj I r.name r.behind st (r.locals+15+dep) ret R:=by
 obtain⟨hn,p0,p4,pL,A,v⟩:=Zc2 hc;intro V top l x Y r0 r1 M a4;have J:Cx I r.locals dep ret top:=⟨m,M,by omega,D,by omega,A,r0,r1⟩
 have q1:=m.lo0;have q2:=m.hisz;have q3:=m.size2;have Q:frameB r=r.locals+15:=by unfold frameB;rw[if_neg (by simp[hc])]
 obtain⟨c,E⟩:=Yx r.params.toNat;unfold bItems bHead at u;rw[Q,<- E] at u;have f:Seg I r.name i ([bL r.name,bI 25 0 28 31 0]:List S.Item):=u.left.left.left.left;have T:Seg I r.name (i+2) (bParams c):=u.left.left.left.right;have w:Seg I r.name (i+2+c) [bI 15 28 28 0 (r.locals+15)]:=by
  have h:=u.left.left.right;rw[Yd,Zaw] at h;have e:i+(([bL r.name,bI 25 0 28 31 0]:List S.Item).length+c)=i+2+c:=by simp;omega
  rw[e] at h;exact h
 have W:Seg I r.name (i+2+c+1) (bStmts (r.locals+15) r.locals r.behind r.body 0).1:=by
  have h:=u.left.right;rw[Yd,Yd,Zaw] at h;have e:i+(([bL r.name,bI 25 0 28 31 0]:List S.Item).length+c+([bI 15 28 28 0 (r.locals+15)]:List S.Item).length)=i+2+c+1:=by simp;omega
  rw[e] at h;exact h
 have L:Seg I r.name (i+2+c+1+(bStmts (r.locals+15) r.locals r.behind r.body 0).1.length) (bBack (r.locals+15) r.behind):=by
  have h:=u.right;rw[Yd,Yd,Yd,Zaw] at h;have e:i+(([bL r.name,bI 25 0 28 31 0]:List S.Item).length+c+([bI 15 28 28 0 (r.locals+15)]:List S.Item).length+(bStmts (r.locals+15) r.locals r.behind r.body 0).1.length)=i+2+c+1+(bStmts (r.locals+15) r.locals r.behind r.body 0).1.length:=by simp;omega
  rw[e] at h;exact h
 have B:I.lab r.name=I.adr i:=by
  have:=Zkf J f;rw[Zfl _ hn] at this;exact this
 have g0:=Zeg m f.lo f.lt (V:=V) f.head;have et:top=u32m (V.reg 28+0):=by rw[x];unfold u32m;omega
 have a2:¬I.code top:=by
  rintro⟨c0,c1⟩;rcases m.apart with h|h <;> omega
 have g1:=Zu1 m f.tail.lo f.tail.lt (V:=V) (a:=28) (b:=31) (n:=0) f.tail.head (by decide) (by decide) et (by omega) a2;rw[Y] at g1;obtain⟨g,g2,H,P,G,Z,K⟩:=Zin J (V:=V.sto top ret) x c (by omega) T;have g3:=Zd2 m w.lo w.lt (V:=g) (d:=28) (a:=28) (n:=r.locals+15) w.head (by decide) (by decide) (by decide);have e3:u32m (g.reg 28+(r.locals+15))=top+r.locals+15:=by
  have:g.reg 28=top:=by rw[H];exact x
  rw[this];unfold u32m;omega
 rw[e3] at g3;have gg:S.Go I V (I.lab r.name) (c+2) (g.set 28 (top+r.locals+15)) (I.adr (i+2+c+1)):=by
  rw[B];exact(((g0.trans g1).trans g2).trans g3).more (by omega)
 have p:∀a:Int,a<top\/top+1+c<=a->(g.set 28 (top+r.locals+15)).mem a=V.mem a:=λ a O=>by
  show g.mem a=_
  rw[G a (by omega),Zz _ _ (by omega)]
 obtain⟨env,q⟩:∃env:List Int,env=(List.range r.locals.toNat).map λ k:Nat=>(g.set 28 (top+r.locals+15)).mem (top+1+(k:Int)):=⟨_,rfl⟩
 have X:env.length=r.locals.toNat:=by rw[q];simp
 have F:∀k:Nat,k<env.length->env.getD k 0=(g.set 28 (top+r.locals+15)).mem (top+1+(k:Int)):=λ k y=>by
  rw[q,Zes _ _ _ (by rw[<- X];exact y)]
 have hF:Fm I (g.set 28 (top+r.locals+15)) st top ret env []:=by
  refine⟨⟨λ j hj=>?_,λ a a0 a1 O=>?_,?_,?_⟩,?_,?_,λ k y=>(F k y).symm,λ k y=>by simp at y⟩
  .have:=Zke hj
   rw[Zd _ _ (by omega),H];exact l.vis j hj
  .by_cases hin:top<=a/\a<top+1+c
   .exact absurd ⟨by omega,by omega⟩ O
   .rw[p a (by omega)];exact l.mem a a0 a1 O
  .show g.inp=_;rw[Z];exact l.inp
  .show g.out=_;rw[K];exact l.out
  .rw[Zg];omega
  .show g.mem top=ret
   rw[G top (by omega),Zc1]
 have s:∀k:Nat,(k:Int)<r.params->env.getD k 0=st.reg (4+k):=λ k y=>by
  rw[F k (by omega)]
  show g.mem (top+1+(k:Int))=_
  rw[P k (by omega)];exact l.vis _ (by unfold visB;rw[decide_eq_true_eq];omega)
 have hL:(env.length:Int)=r.locals:=by omega
 have C:Kp I top V (g.set 28 (top+r.locals+15)):=λ a a0 a1=>p a (by omega)
 have hb:=hw env hL s;rw[<- E] at hb;have h:=Zeh J (obj:=r.name) (behind:=r.behind) r.body 0 0 env _ st _ (c+2) _ _ hL v hb W hF;rcases h with⟨a3,t,z,V',h1,N,U,h4,h5,h6⟩|⟨o,z,h1,N,U⟩
 .have hbk:=Zo2 J (obj:=r.name) (behind:=r.behind) (r:=[]) U (by rw[List.append_nil];exact L) h5
  have hd:=Zav h4 h6 hbk (Yc _);refine⟨.ret t,z+(if r.behind=true then 5 else 3),N,Zav gg C hd ?_⟩;omega
 .exact⟨o,z,N,Zav gg C U (by omega)⟩
theorem Zj4 {I:Img}(d:I.Ok)(r:BR)(c:chkB r=0){i:Nat}(g:Seg I r.name i (bItems r)){dep:Int}(a:0<=dep)(st:Vw)(ret:Int)(R:BO->Nat->Prop)
 (e:∀(env:List Int),(env.length:Int)=r.locals->(∀k:Nat,(k:Int)<r.params->env.getD k 0=st.reg (4+k))->WS I dep ret r.behind r.body env st 8 (λ _ b f=>R (.ret b) (f+(if r.behind=true then 5 else 3))) R) :
 aj I r.name r.behind st (r.locals+15+dep) ret R:=by
 have p4:=(Zc2 c).2.2.1;exact Z1p d r c g a st ret R λ env h hp=>e env h hp st _ (.refl st) (by omega)
section
namespace S
def Z63:ByteArray:=⟨#[99,97,108,108]⟩
def Z64:List Obj:=objs26++Z5u
def nMid:List Item:=joined Z64
def Z0h:List ByteArray:=[kStatic,kMore,kCode]++tells nMid++[kF0,Z63,Z48,kEnd]
def nB:Bool:=nodupB Z0h && subB (names nMid) Z0h && nMid.all (λ x=>decide (chkItem x=0)) && nMid.all (λ x=>decide (0<=x.word/\x.word<=4294967295)) && decide (bulk nMid<=20000) &&
 ([8,9,10,11,12,13,14]:List Int).all (λ op=>(tells nMid).any λ t=>decide (t=kRt op))
end S
attribute [local irreducible] S.nMid
end
def Z65 (w:World)(g:Nat)(l:List Int):Prop:=∀j,j<l.length->w.cell? ⟨g,j,none⟩=some (.int .u8 (l.getD j 0))
theorem Zud (w:World)(l:List Int):Z65 (w.alloc (.cells (l.map (Value.int .u8)).toArray 5)) w.heap.size l:=λ j a=>by
 rw[Yb (heap_alloc_new _ _)];simp[List.getD_eq_getElem?_getD,Ye a]
theorem Zro {c:Int}(h:isU c=true):∀x∈bytesU c,0<=x/\x<=255:=λ x a=>by
 have hb:=Zqn h;unfold bytesU at a
 split at a
 .simp only[Yr,Yv,or_false] at a;omega
 .split at a
  .simp only[Yr,Yv,or_false] at a;omega
  .split at a <;> (simp only[Yr,Yv,or_false] at a;omega)
theorem Zx3 (c:Int)(l:isU c=true)(w:World):Calls prog 164 #[.int .i64 c] w λ e w'=>e=.returned (.slice (some ⟨w.heap.size,0,none⟩) (bytesU c).length (bytesU c).length)/\w'=w.alloc (.cells ((bytesU c).map (Value.int .u8)).toArray 5):=by
 have k:=Zqn l;clear l;have q (d:Int):Int.tdiv c d=c/d:=Int.tdiv_eq_ediv_of_nonneg k.1;have m (d:Int):Int.tmod c d=c%d:=Ya3 k.1;have q1:=q 64;have q2:=q 4096;have q3:=q 262144;have m1:=m 64;have m2:Int.tmod (c/64) 64=c/64%64:=Ya3 (by omega);have m3:Int.tmod (c/4096) 64=c/4096%64:=Ya3 (by omega);clear q m;by_cases b:c<128
 .have d1:decide (c<128)=true:=decide_eq_true b
  have h:IntKind.u8.wrap c=c:=IntWalk.u8_in _ ⟨by omega,by omega⟩;have a:bytesU c=[c]:=by unfold bytesU;rw[if_pos b]
  rw[a];go_enter func164,ntmps164
  go_wp2_with fail
  go_ret
  exact⟨rfl,rfl⟩
 have d1:decide (c<128)=false:=decide_eq_false b;by_cases f:c<2048
 .have d2:decide (c<2048)=true:=decide_eq_true f
  have s1:IntKind.i64.wrap (192+c/64)=192+c/64:=Ym _ ⟨by omega,by omega⟩;have j:IntKind.i64.wrap (128+c%64)=128+c%64:=Ym _ ⟨by omega,by omega⟩;have h:IntKind.u8.wrap (192+c/64)=192+c/64:=IntWalk.u8_in _ ⟨by omega,by omega⟩;have i:IntKind.u8.wrap (128+c%64)=128+c%64:=IntWalk.u8_in _ ⟨by omega,by omega⟩;have a:bytesU c=[192+c/64,128+c%64]:=by unfold bytesU;rw[if_neg b,if_pos f]
  rw[a];go_enter func164,ntmps164
  go_wp2_with fail
  go_ret
  exact⟨rfl,rfl⟩
 have d2:decide (c<2048)=false:=decide_eq_false f;by_cases g:c<65536
 .have d3:decide (c<65536)=true:=decide_eq_true g
  have s1:IntKind.i64.wrap (224+c/4096)=224+c/4096:=Ym _ ⟨by omega,by omega⟩;have j:IntKind.i64.wrap (128+c/64%64)=128+c/64%64:=Ym _ ⟨by omega,by omega⟩;have o:IntKind.i64.wrap (128+c%64)=128+c%64:=Ym _ ⟨by omega,by omega⟩;have h:IntKind.u8.wrap (224+c/4096)=224+c/4096:=IntWalk.u8_in _ ⟨by omega,by omega⟩;have i:IntKind.u8.wrap (128+c/64%64)=128+c/64%64:=IntWalk.u8_in _ ⟨by omega,by omega⟩;have n:IntKind.u8.wrap (128+c%64)=128+c%64:=IntWalk.u8_in _ ⟨by omega,by omega⟩;have a:bytesU c=[224+c/4096,128+c/64%64,128+c%64]:=by unfold bytesU;rw[if_neg b,if_neg f,if_pos g]
  rw[a];go_enter func164,ntmps164
  go_wp2_with fail
  go_ret
  exact⟨rfl,rfl⟩
 .have d3:decide (c<65536)=false:=decide_eq_false g
  have s1:IntKind.i64.wrap (240+c/262144)=240+c/262144:=Ym _ ⟨by omega,by omega⟩;have s4:IntKind.i64.wrap (128+c/4096%64)=128+c/4096%64:=Ym _ ⟨by omega,by omega⟩;have j:IntKind.i64.wrap (128+c/64%64)=128+c/64%64:=Ym _ ⟨by omega,by omega⟩;have o:IntKind.i64.wrap (128+c%64)=128+c%64:=Ym _ ⟨by omega,by omega⟩;have h:IntKind.u8.wrap (240+c/262144)=240+c/262144:=IntWalk.u8_in _ ⟨by omega,by omega⟩;have e4:IntKind.u8.wrap (128+c/4096%64)=128+c/4096%64:=IntWalk.u8_in _ ⟨by omega,by omega⟩;have i:IntKind.u8.wrap (128+c/64%64)=128+c/64%64:=IntWalk.u8_in _ ⟨by omega,by omega⟩;have n:IntKind.u8.wrap (128+c%64)=128+c%64:=IntWalk.u8_in _ ⟨by omega,by omega⟩;have a:bytesU c=[240+c/262144,128+c/4096%64,128+c/64%64,128+c%64]:=by unfold bytesU;rw[if_neg b,if_neg f,if_neg g]
  rw[a];go_enter func164,ntmps164
  go_wp2_with fail
  go_ret
  exact⟨rfl,rfl⟩
theorem Zj5:(prog.info? 123).map (λ i=>(i.zero,i.size,i.bytes))=some (some (.agg #[.int .i64 0,.int .i64 0,.string ByteArray.empty,.slice none 0 0,.slice none 0 0,.slice none 0 0,.slice none 0 0]),7,128):=by kernel_rfl
theorem Zh5:prog.underlying 121=some (.slice 123):=underlying121
theorem Z1q (n:Nat)(h0:0<n)(h1:n<=100000)(w:World):Calls prog 184 #[.slice none 0 0,.int .i64 n] w λ e w'=>∃r,e=.returned r/\w'.ownsRow w.heap.size 123 7 r 0 []/\Below w.heap.size w w':=by
 obtain⟨i,hi,d⟩:∃i,prog.info? 123=some i/\(i.zero,i.size,i.bytes)=(some (.agg #[.int .i64 0,.int .i64 0,.string ByteArray.empty,.slice none 0 0,.slice none 0 0,.slice none 0 0,.slice none 0 0]),7,128):=by
  have h:=Zj5
  cases hx:prog.info? 123 with
  | none=>rw[hx] at h;cases h
  | some i=>rw[hx] at h;exact⟨i,rfl,Option.some.inj h⟩
 simp only[Prod.mk.injEq] at d;obtain⟨q,s,p⟩:=d;have b:∀j,(Builtin.append_ #[121,3] j #[.slice none 0 0,.int .i64 n]).run prog w=.ok (.slice (some ⟨w.heap.size,0,none⟩) n (grownCap w n 0 123)) (w.drew.alloc (.cells (Builtin.zeroCells _ n++Builtin.zeroCells _ (grownCap w n 0 123-n)) 123)):=λ j =>
  Lib.run_append_nil_zeros w 121 3 j 123 i _ .i64 .i64 Zh5 underlying3 hi q n h0 (by rw[s];decide) (by omega) (by rw[p];omega)
 have k:n<=grownCap w n 0 123:=grownCap_ge w _ _ _;have a:grownCap w n 0 123<=maxLen:=grownCap_le_maxLen w n 0 123 (by simp only[maxLen];omega);obtain⟨G,g⟩:=Yx (grownCap w n 0 123);rw[<- g] at k a;simp only[<- g] at b;have o:G<=9223372036854775807:=by simp only[maxLen] at a;omega
 have k1:decide ((n:Int)>0)=true:=decide_eq_true (by omega);have k2:decide ((n:Int)<0)=false:=decide_eq_false (by omega);have k3:(0:Int)<n:=by omega
 have l:=Ya a;obtain⟨m,c⟩:=Yx (Builtin.zeroCells (Value.agg #[.int .i64 0,.int .i64 0,.string ByteArray.empty,.slice none 0 0,.slice none 0 0,.slice none 0 0,.slice none 0 0]).cells n++Builtin.zeroCells (Value.agg #[.int .i64 0,.int .i64 0,.string ByteArray.empty,.slice none 0 0,.slice none 0 0,.slice none 0 0,.slice none 0 0]).cells (G-n));have f:=Ya (show m.size=G*7 by
  rw[c,Array.size_append,size_zeroCells,size_zeroCells]
  show n*7+(G-n)*7=G*7
  omega)
 simp only[<- c] at b;clear g c a hi q s p;go_enter func184,ntmps184
 go_wp2_with (at_builtin;refine Lib.wpList_append_run _ rfl _ _ _ _ rfl _ _ rfl rfl _ _ (b _) ?_)
 go_ret
 refine⟨_,rfl,⟨rfl,.inr ⟨w.heap.size,G,m,rfl,Yc _,heap_alloc_new _ _,Yao _,l.out,f.out,rfl⟩⟩,?_⟩;exact((Below.refl w.heap.size w).drew).alloc (Yc _) _
structure S.aq where
 A:Option Addr
 n:Nat
 c:Nat
 xs:List Value
def S.aq.val (p:aq):Value:=.slice p.A p.n p.c
def S.ag (ps:List aq):Nat:=(ps.map aq.n).sum
def S.au (ps:List aq):List Value:=ps.flatMap aq.xs
theorem Zfi {a:List aq}{i:Nat}(h:i<a.length):ag (a.take (i+1))=ag (a.take i)+a[i].n:=by
 unfold ag;rw[Yan,Ye h,Yba,List.sum_append];simp
theorem Zue {a:List aq}{i:Nat}(h:i<a.length):au (a.take (i+1))=au (a.take i)++a[i].xs:=by
 unfold au;rw[Yan,Ye h,List.flatMap_append];simp
theorem Zla (a:List aq)(i:Nat):ag (a.take i)<=ag a:=by
 have h:ag a=ag (a.take i)+ag (a.drop i):=by
  unfold ag;rw[<- List.sum_append,<- Yba,List.take_append_drop]
 omega
structure S.cd (w:World)(p:aq):Prop where
 len:p.xs.length=p.n*7
 nil:p.A=none->p.n=0
 at_:Reads w w.heap.size p.A p.xs
 one:∀u∈p.xs,u.oneCell'=true
theorem Zuf (A:Option Addr)(k c:Nat)(a:List aq)(O:k=a.length)(w:World)(h:Reads w w.heap.size A (a.map aq.val))(hp:∀p∈a,cd w p)(h0:0<ag a)(M:ag a<=100000)(a0:k<=1000) :
 Calls prog 132 #[.slice A k c] w λ e w'=>∃H,e=.returned H/\w'.ownsRow w.heap.size 123 7 H (ag a) (au a)/\Below w.heap.size w w':=by
 have G:=Ya O;have K:=Ya h;have HP:=Ya hp;have H0:=Ya h0;have Z:=Ya M;clear O h hp h0 M;go_enter func132,ntmps132
 go_wp2_with fail
 go_loopw [3,11] (λ v3 q wr=>∃i:Nat,i<=k/\v3=.int .i64 (ag (a.take i))/\q=.int .i64 i/\w=wr) (λ _ q _=>k-(intOf q).toNat)
 case atStart=>exact⟨0,Yao _,rfl,rfl,rfl⟩
 case round =>
  obtain⟨i,hi,rfl,rfl,rfl⟩:=hrel;have x:=Zla a i;have C:=Z.out;by_cases m:i<k
  .have hil:i<a.length:=by rw[<- G.out];exact m
   obtain⟨Y,U,o,j,d⟩:=K.out (by rw[Y8];omega);have t:=d i a[i].val (by rw[Yaf,Ye hil];rfl);have l:=Ya (Zfi hil);have b:=Zla a (i+1);rw[Zfi hil] at b;obtain⟨p,hp⟩:=Yx a[i];rw[<- hp] at t b l;obtain⟨T,f⟩:=Yx (ag (a.take i));rw[<- f] at x b l⊢;unfold aq.val at t;have d1:decide ((i:Int)<(k:Int))=true:=decide_eq_true (by omega);have X:(i:Int)<(k:Int):=by omega
   have p1:IntKind.i64.wrap ((T:Int)+p.n)=((T+p.n:Nat):Int):=by rw[Ym _ ⟨by omega,by omega⟩];omega
   have p2:IntKind.i64.wrap ((i:Int)+1)=(i:Int)+1:=Ym _ ⟨by omega,by omega⟩;have d2:decide (((T+p.n:Nat):Int)<0)=false:=decide_eq_false (by omega);subst o;clear d hp f;go_wp2_with fail
   go_roundw
   case rel=>exact⟨i+1,by omega,by rw[l.out];go_num,by go_num,trivial⟩
   case measure=>simp[intOf] <;> omega
  .have hie:k=i:=by omega
   subst hie;have d1:decide ((k:Int)<(k:Int))=false:=by simp
   have F:=Ya (show a.take k=a from by rw[G.out,List.take_length]);have s:=H0.out;obtain⟨N,B⟩:=Yx (ag a);rw[F.out,<- B];have R:=Ya B;rw[<- B] at s C;clear x B;go_wp2_with fail
   refine(Z1q N s (by omega) w).mono ?_;rintro e w1 ⟨v1,rfl,z,j⟩;have I:=Ya z;have D:=Ya j;clear z j;go_wp2_with fail
   go_loopw [6,27] (λ V r J=>∃i:Nat,i<=k/\r=.int .i64 i/\Hid (J.ownsRow w.heap.size 123 7 V (ag (a.take i)) (au (a.take i)))/\Hid (Below w.heap.size w J)) (λ _ r _=>k-(intOf r).toNat)
   case atStart=>exact⟨0,Yao _,rfl,I,D⟩
   case round =>
    obtain⟨i,hi,rfl,u,v⟩:=hrel;obtain⟨A6,c6,rfl⟩:=Za u.out;have x:=Zla a i;rw[<- R.out] at x;by_cases m:i<k
    .have hil:i<a.length:=by rw[<- G.out];exact m
     obtain⟨Y,U,o,j,d⟩:=K.out.below v.out (by rw[Y8];omega);have t:=d i a[i].val (by rw[Yaf,Ye hil];rfl);have l:=Ya (Zfi hil);have Q:=Ya (Zue hil);have b:=Zla a (i+1);rw[Zfi hil,<- R.out] at b;have g:=Ya (HP.out a[i] (List.getElem_mem hil));obtain⟨p,hp⟩:=Yx a[i];rw[<- hp] at t b l Q g;obtain⟨T,f⟩:=Yx (ag (a.take i));rw[<- f] at x b l u⊢;unfold aq.val at t;have d1:decide ((i:Int)<(k:Int))=true:=decide_eq_true (by omega);have X:(i:Int)<(k:Int):=by omega
     have p2:IntKind.i64.wrap ((i:Int)+1)=(i:Int)+1:=Ym _ ⟨by omega,by omega⟩;subst o;clear d hp f;go_wp2_with (at_builtin;refine Zs rfl (.tmp 31) (.tmp 32) _ rfl w.heap.size 123 Zj5 Zh5 rfl (by decide) _ _ _ rfl u.out w.heap.size p.A p.n p.c p.xs rfl g.out.len g.out.nil (g.out.at_.below v.out) g.out.one (by simp only[maxLen];omega) (by omega) v.out.size ?_;intro H w4 y W E L;obtain⟨A4,c4,rfl⟩:=Za y)
     go_roundw
     case rel=>exact⟨i+1,by omega,by go_num,Ya (by rw[l.out,Q.out];exact y),Ya (v.out.trans E)⟩
     case measure=>simp[intOf] <;> omega
    .have hie:k=i:=by omega
     subst hie;have d1:decide ((k:Int)<(k:Int))=false:=by simp
     have P:ag (a.take k)=ag a:=by rw[F.out]
     have e2:au (a.take k)=au a:=by rw[F.out]
     rw[P,e2] at u;rw[P];go_wp2_with fail
     go_ret
     exact⟨_,rfl,u.out,v.out⟩
namespace S
def ccRows:List AV->Option (Nat×List AV)
 | []=>some (0,[])
 | x::r=>match x with
  | .row n c=>if c.length=n*7 then(match ccRows r with|some y=>some (n+y.1,c++y.2) | none=>none) else none
  | _=>none
def concatA (x:AV):Option (AV×Tail):=match x with
 | .row k rows=>if k=rows.length/\k<=1000 then(match ccRows rows with|some y=>if 0<y.1/\y.1<=100000 then some (.row y.1 y.2,none) else none|none=>none) else none
 | _=>none
def orcN (f:FuncId)(xs:List AV):Option (AV×Tail) :=
 if f=132 then(match xs with | [x]=>concatA x|_=>none) else orcB f xs
end S
theorem Zx4 {H:Zn}{w w':World}{n:Nat}{A:Option Addr}{c:Nat}{t:TypeId}{z:Nat}{cs:List S.AV}{xs:List Value}(a:∀b k,H b=some k->Bk w b)(s:Below w.heap.size w w')
 (r:w'.ownsRow w.heap.size t z (.slice A n c) n xs) (q:RepL H w cs xs) (hz:0<z):∃l:Zn,(∀b,b<w.heap.size->l b=H b)/\(∀b k,l b=some k->Bk w' b)/\RepV l w' (.row n cs) (.slice A n c):=by
 have C:∀l:Zn,(∀b,b<w.heap.size->l b=H b)->RepL l w' cs xs:=λ l h=>q.stay (λ b k f=>⟨k,by rw[h b (a b k f).lt];exact f,Yc _,λ o _=>s.cell (p:=⟨b,o,none⟩) (a b k f).lt⟩) _ _
 have d:cs.length=n*z:=by rw[<- r.1];exact(RepL.length q).symm
 rcases r.2 with⟨e,rfl⟩|⟨g,cap,E,e,hg,i,hn,B,hsz,m⟩
 .cases e
  refine⟨H,λ _ _=>rfl,λ b k f=>(a b k f).below s,?_⟩;rw[RepV];exact⟨none,0,rfl,λ _=>Y4 (by rw[d];simp),λ _=>rfl,.inl (Y4 (by rw[d];simp))⟩
 .cases e
  have y:∀b,b<w.heap.size->(λ b=>if b=g then some cs.length else H b) b=H b:=λ b D=>by simp only;rw[if_neg (by omega)]
  refine⟨λ b=>if b=g then some cs.length else H b,y,λ b k f=>?_,?_⟩
  .simp only at f
   by_cases h:b=g
   .rw[h];exact⟨_,_,i⟩
   .rw[if_neg h] at f;exact(a b k f).below s
  .rw[RepV]
   refine⟨_,_,rfl,λ h0=>Y4 (by rw[d,h0];simp),λ h0=>(by cases h0),.inr ⟨g,0,cs.length,rfl,by simp,by omega,Zil (C _ y) λ j u v=>?_⟩⟩;rw[Yb i,Nat.zero_add];have x:j<n*z:=by rw[<- r.1];exact(List.getElem?_eq_some_iff.1 v).1
   rw[<- m,List.getElem?_take,if_pos x] at v
   simpa using v
theorem Zp4 {H:Zn}{w:World}(l:∀b k,H b=some k->b<w.heap.size):∀{a:List S.AV} {y:Nat×List S.AV} {vs:List Value},S.ccRows a=some y->RepL H w a vs->∃d:List aq,d.map aq.val=vs/\(∀p∈d,cd w p)/\ag d=y.1/\RepL H w y.2 (au d)
 | [],y,vs,h,hr=>by
  rw[RepL] at hr;subst hr
  cases h
  exact⟨[],rfl,λ p hp=>(by cases hp),rfl,by show RepL H w [] [];rw[RepL]⟩
 | x::r,y,vs,h,hr=>by
  rw[RepL] at hr;obtain⟨v,rs,rfl,s,m,g⟩:=hr;unfold S.ccRows at h
  split at h
  .rename_i n c
   split at h
   .rename_i hc
    split at h
    .rename_i y' hy'
     cases h
     obtain⟨d,E,B,z,t⟩:=Zp4 l hy' g;rw[RepV] at m;obtain⟨A,j,rfl,h0,hA,e⟩:=m;have i:∃xs,xs.length=n*7/\Reads w w.heap.size A xs/\(∀u∈xs,u.oneCell'=true)/\RepL H w c xs:=by
      rcases e with rfl|⟨b,o,k,rfl,D,_,f⟩
      .exact⟨[],hc,λ hp=>by simp at hp,λ u G=>(by cases G),by rw[RepL]⟩
      .obtain⟨us,q1,q2⟩:=Zc0 f
       exact⟨us,by rw[RepL.length q1];exact hc,λ _=>⟨b,o,rfl,l b k D,q2⟩,RepL.one q1,q1⟩
     obtain⟨xs,F,k2,q,C⟩:=i;refine⟨⟨A,n,j,xs⟩::d,by rw[Ybr,E];rfl,λ p hp=>?_,?_,?_⟩
     .rcases Yr.1 hp with rfl|hp
      .exact⟨F,hA,k2,q⟩
      .exact B p hp
     .show(List.map aq.n (⟨A,n,j,xs⟩::d)).sum=n+y'.1
      rw[Ybr,List.sum_cons,<- z];rfl
     .show RepL H w (c++y'.2) (List.flatMap aq.xs (⟨A,n,j,xs⟩::d))
      rw[List.flatMap_cons];exact RepL.append C t
    .cases h
   .cases h
  .cases h
theorem Zmn {x:S.AV}{r:S.AV}{y:S.Tail}(h:S.concatA x=some (r,y)):AFn prog LVE 132 [x] r y:=by
 intro H w vs a hL d;rw[RepT] at d;obtain⟨v,G,rfl,u,g⟩:=d;rw[RepT] at g;subst g;unfold S.concatA at h
 split at h
 .rename_i k rows
  split at h
  .rename_i hk
   split at h
   .rename_i z i
    split at h
    .rename_i hN
     cases h
     rw[RepV] at u;obtain⟨A,c,rfl,h0,hA,j⟩:=u;rcases j with rfl|⟨b,o,F,rfl,n,_,p⟩
     .cases i
      have:=hN.1;simp at this
     .obtain⟨G,q1,q2⟩:=Zc0 p
      obtain⟨s,t,E,l,D⟩:=Zp4 (λ b k h=>(a b k h).lt) i q1;have f:k=s.length:=by rw[hk.1,<- RepL.length q1,<- t,Y8]
      refine(Zuf _ k c s f w (λ _=>⟨b,o,rfl,(a b F n).lt,by rw[t];exact q2⟩) E (by rw[l];exact hN.1) (by rw[l];exact hN.2) hk.2).mono ?_;rintro e w' ⟨v',rfl,m,q⟩;obtain⟨A',c',rfl⟩:=Za m;rw[l] at m⊢;obtain⟨B,p1,p2,C⟩:=Zx4 a q m D (by decide);exact⟨_,B,rfl,q,p1,p2,C,λ z i=>by cases i⟩
    .cases h
   .cases h
  .cases h
 .cases h
theorem Zj6 (f:FuncId)(xs:List S.AV)(r:S.AV)(y:S.Tail)(h:S.orcN f xs=some (r,y)):AFn prog LVE f xs r y:=by
 unfold S.orcN at h
 split at h
 .rename_i hf
  subst hf
  split at h
  .exact Zmn h
  .cases h
 .exact Zks f xs r y h
theorem Zj7 {a n:Nat}{f:FuncId}{xs:List S.AV}{r:S.AV}{y:S.Tail}(h:runFn prog S.orcN a n f xs=some (r,y)):AFn prog LVE f xs r y :=
 Zhj (λ w w' c b=>c.on b) Zj6 n f xs r y h
