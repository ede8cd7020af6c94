/- Parts. -/
import Derived.Test.YtldbnjajjfgipaaGreatDoorZAsmN
import Derived.BigRegion
set_option linter.all false
set_option maxHeartbeats 8000000
open Go.Lib renaming hid->Ya
open Nat renaming le_refl->Yb,lt_of_lt_of_le->Y3,le_of_lt->Ya3
open List renaming length_append->Yd,getElem?_eq_getElem->Yf,getElem?_eq_some_iff->Yg,mem_of_getElem?->Y0,getElem?_map->Y9,map_append->Yay,getElem_of_mem->Ycl,mem_map->Ycy
open Go.RowKit.Below renaming refl->Yh,heap_setCell->Ybm
open Go.Value renaming int->Ys,oneCell'->Y1,ownBlock->Yap
open Array renaming getElem?_eq_some_iff->Yw
open Go.World renaming ownsRow_nil->Yaf,ownsRow_lit->Ybt,setCell->Ybv
namespace Go.Proofs.YtldbnjajjfgipaaGreatDoor
open S Go.Proofs.Tryz Go.RowKit
set_option maxRecDepth 100000
theorem Zc8:(prog.info? 31).map (λ i=>(i.zero,i.size,i.bytes))=some (some (.int .u32 0),1,4):=by kernel_rfl
def Told (w:World)(L:List Int)(e:Ending)(w':World):Prop :=
 ∃v,e=.returned v/\w'.ownsRow w.heap.size 31 1 v L.length (L.map (Ys .u32))/\Below w.heap.size w w'
theorem Ze0 {w w1:World}{L:List Int}{cs:Array Value}{n:Nat}(d:n=L.length)(b:Below w.heap.size w w1)(a:cs=(L.map (Ys .u32)).toArray)(h:L.length<=1000) :
 Told w L (.returned (.slice (some ⟨w1.heap.size,0,none⟩) n n)) (w1.alloc (.cells cs 31)):=by
 subst a d;refine⟨_,rfl,?_,b.alloc b.size _⟩;have h1:=Ybt (base:=w.heap.size) (size:=1) (e:=31) w1 (L.map (Ys .u32)).toArray L.length b.size (by simp only[maxLen];omega) (by simp)
 simpa using h1
theorem Zv2 (x:Int)(h0:0<=x)(h1:x<=4294967295):bits .and .i64 x 65535=x%65536:=by
 have h:(BitVec.ofInt 64 x &&& BitVec.ofInt 64 65535).toNat=(x%65536).toNat:=by
  rw[BitVec.toNat_and];have h1:(BitVec.ofInt 64 65535).toNat=2^16-1:=by decide
  rw[h1,Nat.and_two_pow_sub_one_eq_mod,BitVec.toNat_ofInt];omega
 show IntKind.i64.wrap ((BitVec.ofInt 64 x &&& BitVec.ofInt 64 65535).toNat:Int)=_
 rw[h,IntKind.wrap_i64];omega
theorem Zv3 (d a:Int)(w:World)(h0:0<=a)(h1:a<=4294967295) :
 Calls prog 243 #[.int .i64 d,.int .i64 a] w (Told w [wordOf ⟨23,d,0,0,a/65536⟩,wordOf ⟨17,d,d,0,a%65536⟩]):=by
 go_enter func243,ntmps243
 go_wp2_with fail
 refine(asm_word _ _ _ _ _ _).mono ?_;rintro e w1 ⟨rfl,b⟩;go_wp2_with fail
 refine(asm_word _ _ _ _ _ _).mono ?_;rintro e w2 ⟨rfl,f⟩;have g:=b.size;have h:=b.trans (f.mono g);go_wp2_with fail
 go_ret
 exact Ze0 (by simp) h (by rw[Zv2 a h0 h1];simp) (by simp)
theorem Zoh (d a at_:Int)(w:World)(h:0<=a)(g:a<=67108864)(f:0<=at_)(i:at_<=67108865) :
 Calls prog 242 #[.int .i64 d,.int .i64 1,.int .i64 a,.int .i64 at_] w (Told w [wordOf ⟨32,d,0,0,a-at_-1⟩]):=by
 go_enter func242,ntmps242
 go_wp2_with fail
 refine(asm_word _ _ _ _ _ _).mono ?_;rintro e w1 ⟨rfl,b⟩;go_wp2_with fail
 go_ret
 exact Ze0 (by simp) b (by simp) (by simp)
theorem Zoi (d f at_:Int)(w:World)(k:0<=f)(q:f<=67108864) :
 Calls prog 242 #[.int .i64 d,.int .i64 2,.int .i64 f,.int .i64 at_] w (Told w [lui f,ori f,wordOf ⟨33,d,25,0,0⟩]):=by
 go_enter func242,ntmps242
 go_wp2_with fail
 refine(Zv3 _ _ _ k (by omega)).mono ?_;rintro e w1 ⟨v,rfl,n,g⟩;obtain⟨A,c,rfl⟩:=Zc n;go_wp2_with fail
 refine(asm_word _ _ _ _ _ _).mono ?_;rintro e w2 ⟨rfl,a⟩;have j:=Ze n a;have h:=g.size;have s:=a.size;have o:=g.trans (a.mono h);go_wp2_with (at_builtin;refine Zm rfl (.tmp 20) (.tmp 24) _ rfl w.heap.size 31 Zc8 underlying28 rfl (by decide) #[.int .u32 (wordOf ⟨33,d,25,0,0⟩)] _ _ _ rfl j rfl rfl rfl (by simp[Y1]) (by simp[maxLen]) (by simp) (by omega) ?_;intro v' w' b r i l)
 go_ret
 exact⟨_,rfl,by simpa[lui,ori] using b,o.trans i⟩
theorem Zv4 (w:World){B g gF gA m n:Nat}{A:Option Addr}{c:Nat}{xs:List S.Item}{base:Int}{F:List Int}(h:Work w B g gF gA m n A c xs base F (Zfw xs F base (xs.length+1)) (Zfc xs))(hi:Items w B A xs)(hB:B<=w.heap.size)
 (i:Nat) (x:S.Item) (hx:xs[i]?=some x) (K:FormOk xs F) (b2:named x=true->0<=stands xs x.label) (T:x.label.size<=maxLen)
 (hl:xs.length<=1048576) (c9:0<=base) (b5:addr xs F base xs.length<=67108864) (P:1<=x.kind/\x.kind<=8) (hw:∀x∈xs,0<=x.word/\x.word<=4294967295) :
 Calls prog 190 #[.pointer (some ⟨g,0,none⟩),.int .i64 i] w (Told w (wordsAt xs F base i)):=by
 have a9:i<xs.length:=(Yg.1 hx).1;obtain⟨k0,k1,k2,k3,k4⟩:=h.cells;obtain⟨l1,l2,l3,l4⟩:=h.lts;obtain⟨d3,d2⟩:=h.form a9;have b3:=(h.at_ (k:=i) (by omega)).1;rw[Zcd xs F base _ i (by omega)] at b3;obtain⟨b,off,x',rfl,hb,b4,c2,b9,b7,c4,c5,b6,c1,b8,c6,d0⟩:=hi.at_ a9;rw[hx] at b4
 cases b4
 have e6:b<w.heap.size:=by omega
 obtain⟨h3,h4,h5⟩:=K.2 i x hx;have a1:wordsAt xs F base i=wordsOf x (F.getD i 0) (addr xs F base i) (toOf xs F base x):=by simp[wordsAt,hx]
 have c8:=Zuh (base:=base) K hw c9 b5 x;have d7:=Zec (base:=base) K hw (i:=i) (n:=xs.length) (by omega);have c3:=Zec (base:=base) K hw (i:=i+1) (n:=xs.length) a9;have e7:=(Zdi (base:=base) K hw i).1;have d5:addr xs F base (i+1)=addr xs F base i+S.size x (F.getD i 0):=by rw[addr];simp[sizeAt,hx]
 have Y:x.kind=8->x.word<=67108864:=by
  intro h;have:S.size x (F.getD i 0)=x.word:=by simp[S.size,h]
  omega
 have l:named x=true->∃j:Nat,Zfc xs x.label=some (j:Int)/\j<=xs.length/\(Zfw xs F base (xs.length+1)).getD j 0=toOf xs F base x:=by
  intro q;have h0:=b2 q;rcases Zav xs x.label with⟨e,_⟩|⟨j,y,e,hj,_⟩
  .omega
  .have hjl:=(Yg.1 hj).1
   refine⟨j,by unfold Zfc;rw[if_neg (by omega),e],by omega,?_⟩;rw[Zcd xs F base _ j (by omega)];simp[toOf,q,e]
 have o:named x=false->toOf xs F base x=0:=λ q=>by simp[toOf,q]
 have r:=Ya a1;clear a1 hx d5 c3 b2 h5 K hw;generalize toOf xs F base x=tg at *;generalize addr xs F base i=ai at *;generalize wordsAt xs F base i=W at *;generalize hfk:F.getD i 0=fk at *;have e9:=Ya hfk;clear hfk;obtain⟨kind,⟨op,d,a,N,imm⟩,lab,X⟩:=x;simp only at c2 b9 b7 c4 c5 b6 c1 b8 c6 d0 h3 h4 Y T P;obtain⟨t0,t1⟩:=c8;have O:kind=1\/kind=2\/(kind=3/\(fk=1\/fk=2\/fk=3))\/(kind=4/\(fk=1\/fk=2))\/kind=5\/kind=6\/kind=7\/kind=8:=by
  by_cases k3:kind=3
  .have:=h3 k3;omega
  .by_cases k4:kind=4
   .have:=h4 k4;omega
   .omega
 have a6:=Ya O;clear h3 h4 P O;go_enter func190,ntmps190
 go_wp2_with fail
 go_region
 as_aux_lemma =>
  go_wp2_with fail
  refine(Zod _ _ _ _ _ _ _ _ _).mono ?_;rintro e w2 ⟨rfl,b0⟩;have C:Below w.heap.size w w2:=((Yh _ _).alloc (Yb _) _).drew.trans (b0.mono (by simp));have e0:w.heap.size<w2.heap.size:=by have:=b0.size;simp at this;omega
  have hX:∀(j:Nat)(v:Value),(#[Ys .i64 kind,.int .i64 op,.int .i64 d,.int .i64 a,.int .i64 N,.int .i64 imm,.string lab,.int .u32 X])[j]?=some v->w2.cell? ⟨w.heap.size,j,none⟩=some v:=by
   intro j v hv;rw[b0.cell (p:=⟨_,j,none⟩) (by simp),<- hv];exact Zas _ _ _ _
  have e3:=hX 0 (.int .i64 kind) rfl;have e5:=hX 1 (.int .i64 op) rfl;have e8:=hX 2 (.int .i64 d) rfl;have f0:=hX 3 (.int .i64 a) rfl;have d9:=hX 4 (.int .i64 N) rfl;have e4:=hX 5 (.int .i64 imm) rfl;have d8:=hX 6 (.string lab) rfl;have e2:=hX 7 (.int .u32 X) rfl;have a0:=h.below C;have H:=C.size;clear hX k0 k1 k2 k3 k4 l1 l2 l3 l4 d3 d2 b3 c2 b9 b7 c4 c5 b6 c1 b8 h hi;rcases a6.out with rfl|rfl|⟨rfl,k⟩|⟨rfl,k⟩|rfl|rfl|rfl|rfl
  .as_aux_lemma =>
    have q:named ⟨1,⟨op,d,a,N,imm⟩,lab,X⟩=false:=by simp[named]
    have h0:=o q;subst h0;rw[q];clear q l o Y;go_wp2_with fail
    refine(asm_word _ _ _ _ _ _).mono ?_;rintro e w3 ⟨rfl,f⟩;go_wp2_with fail
    go_ret
    rw[r.out];exact Ze0 (by simp[wordsOf]) (C.trans (f.mono H)) (by simp[wordsOf]) (by simp[wordsOf])
  .as_aux_lemma =>
    have q:named ⟨2,⟨op,d,a,N,imm⟩,lab,X⟩=false:=by simp[named]
    have h0:=o q;subst h0;rw[q];clear q l o Y;go_wp2_with fail
    go_ret
    rw[r.out];refine⟨_,rfl,?_,C⟩
    simpa[wordsOf] using Yaf _ _ _ _
  .as_aux_lemma =>
    have q:named ⟨3,⟨op,d,a,N,imm⟩,lab,X⟩=true:=by simp[named]
    obtain⟨j,t,I,z⟩:=l q;have J:=Ya t;have G:=Ya z;rw[q];clear q l o Y t z;go_wp2_with fail
    refine(Zbg _ a0 lab T j J.out I hl tg G.out).mono ?_;rintro e w3 ⟨rfl,f⟩;have s:=C.trans (f.mono H);have a8:=f.size;obtain⟨a5,a7⟩:=Zih f;rcases k with rfl|rfl|rfl
    .go_wp2_with fail
     refine(asm_word _ _ _ _ _ _).mono ?_;rintro e L ⟨rfl,u⟩;go_wp2_with fail
     go_ret
     rw[r.out];exact Ze0 (by simp[wordsOf]) ((s.alloc (by omega) _).trans (u.mono (by simp;omega))) (by simp[wordsOf]) (by simp[wordsOf])
    .go_wp2_with (go_at_call 241;refine(asm_Turned _ _).mono ?_;rintro e w' ⟨rfl,rfl⟩)
     refine(asm_word _ _ _ _ _ _).mono ?_;rintro e L ⟨rfl,u⟩;have D:Below w.heap.size w L:=(s.alloc (by omega) _).trans (u.mono (by simp;omega));have R:=D.size;go_wp2_with fail
     refine(Zoh _ _ _ _ t0 t1 (by omega) (by omega)).mono ?_;rintro e w5 ⟨v,rfl,M,V⟩;have Q:Below L.heap.size L w5:=((Yh _ _).alloc (Yb _) _).trans (V.mono (by simp));have a2:=Ybt (base:=w.heap.size) (size:=1) (e:=31) L #[.int .u32 (wordOf ⟨turned op,0,a,N,1⟩)] 1 R (by simp[maxLen]) rfl;have U:=Ze a2 V;have E:=D.trans (Q.mono R);have c7:=E.size;obtain⟨Aw,cw,rfl⟩:=Zc M;have a3:=Reads.of_own M;have a4:Aw=none->1=0:=Zcv M;go_wp2_with (at_builtin;refine Zb2 rfl (.tmp 76) (.tmp 82) _ rfl w.heap.size 31 Zc8 underlying28 rfl _ _ _ rfl U _ Aw 1 cw _ rfl (by simp) a4 a3 (by simp[Y1]) (by simp[maxLen]) (by simp) (by omega) ?_;intro d6 w6 Z d4 b1 c0)
     go_ret
     rw[r.out];refine⟨_,rfl,?_,E.trans b1⟩;have e:tg-(ai+1)-1=tg-ai-2:=by omega
     rw[e] at Z
     simpa[wordsOf] using Z
    .go_wp2_with (go_at_call 241;refine(asm_Turned _ _).mono ?_;rintro e w' ⟨rfl,rfl⟩)
     refine(asm_word _ _ _ _ _ _).mono ?_;rintro e L ⟨rfl,u⟩;have D:Below w.heap.size w L:=(s.alloc (by omega) _).trans (u.mono (by simp;omega));have R:=D.size;go_wp2_with fail
     refine(Zoi _ _ _ _ t0 t1).mono ?_;rintro e w5 ⟨v,rfl,M,V⟩;have Q:Below L.heap.size L w5:=((Yh _ _).alloc (Yb _) _).trans (V.mono (by simp));have a2:=Ybt (base:=w.heap.size) (size:=1) (e:=31) L #[.int .u32 (wordOf ⟨turned op,0,a,N,3⟩)] 1 R (by simp[maxLen]) rfl;have U:=Ze a2 V;have E:=D.trans (Q.mono R);have c7:=E.size;obtain⟨Aw,cw,rfl⟩:=Zc M;have a3:=Reads.of_own M;have a4:Aw=none->3=0:=Zcv M;go_wp2_with (at_builtin;refine Zb2 rfl (.tmp 76) (.tmp 82) _ rfl w.heap.size 31 Zc8 underlying28 rfl _ _ _ rfl U _ Aw 3 cw _ rfl (by simp) a4 a3 (by simp[Y1]) (by simp[maxLen]) (by simp) (by omega) ?_;intro d6 w6 Z d4 b1 c0)
     go_ret
     rw[r.out];refine⟨_,rfl,?_,E.trans b1⟩
     simpa[wordsOf] using Z
  .as_aux_lemma =>
    have q:named ⟨4,⟨op,d,a,N,imm⟩,lab,X⟩=true:=by simp[named]
    obtain⟨j,t,I,z⟩:=l q;have J:=Ya t;have G:=Ya z;rw[q];clear q l o Y t z;go_wp2_with fail
    refine(Zbg _ a0 lab T j J.out I hl tg G.out).mono ?_;rintro e w3 ⟨rfl,f⟩;have s:=C.trans (f.mono H);have a8:=f.size;obtain⟨a5,a7⟩:=Zih f;rcases k with rfl|rfl
    .go_wp2_with fail
     refine(Zoh _ _ _ _ t0 t1 (by omega) (by omega)).mono ?_;rintro e L ⟨v,rfl,M,u⟩;go_wp2_with fail
     go_ret
     rw[r.out];refine⟨_,rfl,?_,s.trans (u.mono (by omega))⟩;exact Z3 (by simpa[wordsOf] using M) (by omega)
    .go_wp2_with fail
     refine(Zoi _ _ _ _ t0 t1).mono ?_;rintro e L ⟨v,rfl,M,u⟩;go_wp2_with fail
     go_ret
     rw[r.out];refine⟨_,rfl,?_,s.trans (u.mono (by omega))⟩;exact Z3 (by simpa[wordsOf] using M) (by omega)
  .as_aux_lemma =>
    have q:named ⟨5,⟨op,d,a,N,imm⟩,lab,X⟩=true:=by simp[named]
    obtain⟨j,t,I,z⟩:=l q;have J:=Ya t;have G:=Ya z;rw[q];clear q l o Y t z;go_wp2_with fail
    refine(Zbg _ a0 lab T j J.out I hl tg G.out).mono ?_;rintro e w3 ⟨rfl,f⟩;have s:=C.trans (f.mono H);have a8:=f.size;obtain⟨a5,a7⟩:=Zih f;go_wp2_with fail
    refine(Zv3 _ _ _ (by omega) (by omega)).mono ?_;rintro e L ⟨v,rfl,M,u⟩;go_wp2_with fail
    go_ret
    rw[r.out];refine⟨_,rfl,?_,s.trans (u.mono (by omega))⟩;exact Z3 (by simpa[wordsOf] using M) (by omega)
  .as_aux_lemma =>
    have q:named ⟨6,⟨op,d,a,N,imm⟩,lab,X⟩=false:=by simp[named]
    have h0:=o q;subst h0;rw[q];clear q l o Y;go_wp2_with fail
    go_ret
    rw[r.out];exact Ze0 (by simp[wordsOf]) C (by simp[wordsOf]) (by simp[wordsOf])
  .as_aux_lemma =>
    have q:named ⟨7,⟨op,d,a,N,imm⟩,lab,X⟩=true:=by simp[named]
    obtain⟨j,t,I,z⟩:=l q;have J:=Ya t;have G:=Ya z;rw[q];clear q l o Y t z;go_wp2_with fail
    refine(Zbg _ a0 lab T j J.out I hl tg G.out).mono ?_;rintro e w3 ⟨rfl,f⟩;have s:=C.trans (f.mono H);have a8:=f.size;obtain⟨a5,a7⟩:=Zih f;go_wp2_with fail
    go_ret
    rw[r.out];exact Ze0 (by simp[wordsOf]) s (by simp[wordsOf,Int.mul_comm tg 4]) (by simp[wordsOf])
  .as_aux_lemma =>
    have q:named ⟨8,⟨op,d,a,N,imm⟩,lab,X⟩=false:=by simp[named]
    have h0:=o q;subst h0;rw[q];have e1:=Y rfl;clear q l o Y;obtain⟨n,rfl⟩:=Int.eq_ofNat_of_zero_le c6;go_wp2_with (refine Zn7 rfl (.tmp 122) (.tmp 122) _ rfl w.heap.size 31 Zc8 underlying28 rfl .u32 .u32 _ _ n rfl rfl rfl rfl (by omega) (by simp only[maxLen];omega) H ?_;intro w3 d1 f)
    go_ret
    rw[r.out];refine⟨_,rfl,?_,C.trans (f.mono H)⟩
    simpa[wordsOf] using d1
theorem Ztb:(prog.info? 166).map (λ i=>(i.zero,i.size,i.bytes))=some (some (.agg #[.string ByteArray.empty,.int .i64 0]),2,24):=by kernel_rfl
def Zag (p:ByteArray×Int):List Value:=[.string p.1,.int .i64 p.2]
def Zv5 (w:World)(xs:List S.Item)(base:Int)(e:Ending)(w':World):Prop :=
 ∃vo vp r F,e=.returned (.tuple #[vo,vp,.int .i64 r])/\FormsRes xs base r F /\
  w'.ownsRow w.heap.size 31 1 vo (if r=0 then outTo xs F base xs.length else []).length ((if r=0 then outTo xs F base xs.length else []).map (Ys .u32)) /\
  w'.ownsRow w.heap.size 166 2 vp (if r=0 then placesTo xs F base xs.length else []).length ((if r=0 then placesTo xs F base xs.length else []).flatMap Zag) /\
  Below w.heap.size w w'
theorem Zoj {w w':World}{k:Nat}{cs:Array Value}{t:TypeId}{z:Nat×Nat}(h:w.heap[k]?=some (.cells cs t z)){b:Nat}{i:TypeId}{a n':Nat}{g:Value}{e:List Value}(o:w.ownsRow b i a g n' e)(f:t≠i)
 (hg:w.grownBy w' g.ownBlock):w'.heap[k]?=some (.cells cs t z):=by
 rw[hg.block k (Zhi h) ?_,h];intro j;rcases o.2 with⟨rfl,_⟩|⟨l,cap,n,rfl,_,d,_⟩
 .simp[Yap] at j
 .have:k=l:=by simpa[Yap] using j
  subst this;rw[h] at d
  injection d with d
  injection d with _ ht
  exact f ht
theorem Work.other {w w':World}{B g x y m n:Nat}{A:Option Addr}{c:Nat}{xs:List S.Item}{base:Int}{F T:List Int}{f:ByteArray->Option Int}(h:Work w B g x y m n A c xs base F T f)
 {d:Nat} {t:TypeId} {b n':Nat} {o:Value} {r:List Value} (q:w.ownsRow d t b o n' r) (l:3≠t) (j:214≠t) (hg:w.grownBy w' o.ownBlock) :
 Work w' B g x y m n A c xs base F T f:=by
 have e:some g≠o.ownBlock:=by
  intro k;rcases q.2 with⟨rfl,_⟩|⟨s,cap,u,rfl,_,a,_⟩
  .simp[Yap] at k
  .have:g=s:=by simpa[Yap] using k
   subst this;rw[h.blk] at a
   injection a with a
   injection a with _ ht
   exact j ht
 have i:some m≠o.ownBlock:=by
  intro k;obtain⟨D,⟨es,v,hm,_⟩,_⟩:=h.labels;rcases q.2 with⟨rfl,_⟩|⟨s,cap,u,rfl,_,a,_⟩
  .simp[Yap] at k
  .have:m=s:=by simpa[Yap] using k
   subst this;rw[hm] at a
   cases a
 exact⟨(hg.block g (Zhi h.blk) e).trans h.blk,Zbu h.forms q l hg,Zbu h.ats q l hg,h.labels.kept hg i,h.hg,h.hF,h.hA,h.hm,h.ne1⟩
theorem Zje (w:World){A:Option Addr}{c:Nat}{xs:List S.Item}{base:Int}(h:base<0\/67108864<base) :
 Calls prog 189 #[.slice A xs.length c,.int .i64 base] w (Zfi w A c xs base):=by
 have a:FormsRes xs base 2 []:=.inl ⟨by simp,.inl ⟨h,rfl⟩,rfl⟩;have b:=Ya a;clear a;by_cases h0:base<0
 .clear h
  go_enter func189,ntmps189
  go_wp2_with fail
  go_step3
  go_wp2_with fail
  rw[Exit.noGoto_ret]
  go_ret2
  exact⟨Yh _ _,.inl ⟨_,by simp,rfl,b.out⟩⟩
 .have h1:67108864<base:=by omega
  have h2:decide (base<0)=false:=by simpa using h0
  clear h;go_enter func189,ntmps189
  go_wp2_with fail
  go_step3
  go_wp2_with fail
  rw[Exit.noGoto_ret]
  go_ret2
  exact⟨Yh _ _,.inl ⟨_,by simp,rfl,b.out⟩⟩
theorem Zqi (w:World){A:Option Addr}{c:Nat}{xs:List S.Item}{base:Int}(hi:Items w w.heap.size A xs)(b:xs.length<=1048576)
 (a:∀(k:Nat)(x:S.Item),xs[k]?=some x->x.label.size<=maxLen) :
 Calls prog 189 #[.slice A xs.length c,.int .i64 base] w (Zfi w A c xs base):=by
 by_cases h:base<0\/67108864<base
 .exact Zje w h
 .exact Zj9 w hi (by omega) (by omega) b a hi.words
theorem Zok (A:Option Addr)(c:Nat)(xs:List S.Item)(base:Int)(w:World)(hi:Items w w.heap.size A xs)(hl:xs.length<=1048576)(M:∀(k:Nat)(x:S.Item),xs[k]?=some x->x.label.size<=maxLen) :
 Calls prog 122 #[.slice A xs.length c,.int .i64 base] w (Zv5 w xs base):=by
 have hw:=Ya hi.words;have J:=Ya M;clear M;go_enter func122,ntmps122
 go_wp2_with fail
 refine(Zqi w hi hl J.out).mono ?_;rintro e w1 ⟨V,⟨r,hr,rfl,o⟩|⟨g,gF,gA,m,n,F,hn,rfl,o,c0⟩⟩
 .have hd:=Zcp hr
  have Hr:=Ya hr;clear hr;go_wp2_with fail
  go_ret3
  refine⟨_,_,r,[],rfl,o,?_,?_,V⟩
  .rw[if_neg Hr.out];exact Yaf _ _ _ _
  .rw[if_neg Hr.out];exact Yaf _ _ _ _
 .have hz1:=V.size
  have c7:CheckRes xs base 0/\S.Inv xs base F/\Stable xs base F/\addr xs F base xs.length<=67108864:=by
   rcases o with⟨h,_⟩|⟨_,h,_⟩|⟨h1,_,h3,h4,h5⟩
   .exact absurd rfl h
   .omega
   .exact⟨h1,h3,h4,h5⟩
  have b1:=Ya o;obtain⟨s,O,b3,b0⟩:=c7;have c6:=Ya s;have hk:=Ya (Zcu (Zin s));obtain⟨c8,e1⟩:=Z18 s;have u:=Ya O.1;clear o s O b3;go_wp2_with fail
  go_loopw [4,5,21] (λ vo vp i wr=>∃k:Nat,k<=xs.length/\i=.int .i64 k/\wr.ownsRow w.heap.size 31 1 vo (outTo xs F base k).length ((outTo xs F base k).map (Ys .u32)) /\
   wr.ownsRow w.heap.size 166 2 vp (placesTo xs F base k).length ((placesTo xs F base k).flatMap Zag) /\
   Work wr w.heap.size g gF gA m n A c xs base F (Zfw xs F base (xs.length+1)) (Zfc xs)/\Below w.heap.size w wr) (λ _ _ i _=>xs.length-(intOf i).toNat)
  case atStart=>exact⟨0,by omega,rfl,Yaf _ _ _ _,Yaf _ _ _ _,c0,V⟩
  case round =>
   obtain⟨k,d4,rfl,R,a0,a2,E⟩:=hrel;clear c0;have a4:=E.size;by_cases b8:k<xs.length
   .obtain⟨b,off,x,rfl,hb,hx,hc0,hc1,hc2,hc3,hc4,hc5,hc6,hc7,hw0,hw1⟩:=(hi.below E).at_ b8
    have f3:b<wr.heap.size:=Y3 hb a4;have a5:=hk.out x (Y0 hx);have e3:=Zec (base:=base) u.out hw.out (i:=k) (n:=xs.length) d4;have e7:=Zec (base:=base) u.out hw.out (i:=k+1) (n:=xs.length) b8;have f4:=(Zdi (base:=base) u.out hw.out k).1;have a7:=Ya (Zbj (base:=base) u.out hk.out hw.out k);have N:placeAt xs F base k=if x.kind=2 then [(x.label,addr xs F base k)] else []:=by simp[placeAt,hx]
    have e8:((outTo xs F base k).length:Int)<=67108864:=by rw[a7.out];omega
    have e9:(wordsAt xs F base k).length<=67108864:=by
     have h9:=Za4 (base:=base) u.out hk.out hw.out k;have f5:addr xs F base (k+1)=addr xs F base k+sizeAt xs F k:=rfl;omega
    have I:=Ya N;have f1:=Zcg xs F base k;have c4:=Ya (Znf (x:=x) c6.out hx);have Hx:=Ya hx;have b6:=J.out k x hx;clear N hx;obtain⟨kind,⟨op,d,a,T,imm⟩,lab,Y⟩:=x;simp only at hc0 hc1 hc2 hc3 hc4 hc5 hc6 hc7 hw0 hw1 a5 b6;generalize hak:addr xs F base k=ak at *;have e0:=Ya hak;clear hak;have C:Below wr.heap.size wr (wr.alloc (.cells #[.int .i64 kind,.int .i64 op,.int .i64 d,.int .i64 a,.int .i64 T,.int .i64 imm,.string lab,.int .u32 Y] 135)):=(Yh _ _).alloc (Yb _) _;have U:=a2.below C;have a6:=Ze R C;have c1:=Ze a0 C;have D:=E.trans (C.mono a4);have c3:(wr.alloc (.cells #[.int .i64 kind,.int .i64 op,.int .i64 d,.int .i64 a,.int .i64 T,.int .i64 imm,.string lab,.int .u32 Y] 135)).heap[wr.heap.size]?=some (.cells #[.int .i64 kind,.int .i64 op,.int .i64 d,.int .i64 a,.int .i64 T,.int .i64 imm,.string lab,.int .u32 Y] 135 (0,0)):=heap_alloc_new _ _;have b7:=Ya c3;clear c3;have hX:∀(j:Nat)(v:Value),(#[Ys .i64 kind,.int .i64 op,.int .i64 d,.int .i64 a,.int .i64 T,.int .i64 imm,.string lab,.int .u32 Y])[j]?=some v->(wr.alloc (.cells #[.int .i64 kind,.int .i64 op,.int .i64 d,.int .i64 a,.int .i64 T,.int .i64 imm,.string lab,.int .u32 Y] 135)).cell? ⟨wr.heap.size,j,none⟩=some v:=by
     intro j v hv;rw[<- hv];exact Zas _ _ _ _
    have d1:=hX 0 (.int .i64 kind) rfl;have c9:=hX 6 (.string lab) rfl;have a8:wr.heap.size<(wr.alloc (.cells #[.int .i64 kind,.int .i64 op,.int .i64 d,.int .i64 a,.int .i64 T,.int .i64 imm,.string lab,.int .u32 Y] 135)).heap.size:=by simp
    clear hX a2 R a0 C;go_wp2_with fail
    generalize wr.alloc (.cells #[.int .i64 kind,.int .i64 op,.int .i64 d,.int .i64 a,.int .i64 T,.int .i64 imm,.string lab,.int .u32 Y] 135)=wX at *;have L:=D.size;refine(Zv4 wX U (hi.below D) L k _ Hx.out u.out c4.out b6 hl c8 b0 a5 hw.out).mono ?_;rintro e w2 ⟨vw,rfl,W,q⟩;obtain⟨Aw,cw,rfl⟩:=Zc W;have f2:=q.size;have K:=D.trans (q.mono L);have l:=Ze a6 q;have c5:=Ze c1 q;have b5:=U.below q;have a1:=Reads.of_own W;have a3:Aw=none->(wordsAt xs F base k).length=0:=Zcv W;have hY:∀j:Nat,w2.cell? ⟨wr.heap.size,j,none⟩=wX.cell? ⟨wr.heap.size,j,none⟩:=λ j=>q.cell (p:=⟨_,j,none⟩) a8
    rw[<- hY] at d1 c9;have e6:wr.heap.size<w2.heap.size:=by omega
    have b9:=Ya ((q.block _ a8).trans b7.out);clear hY U a6 c1 c4 b7;by_cases c2:kind=2
    .have d2:=Zvv c2
     have C2:=Ya c2;clear c2;go_wp2_with (at_builtin;refine Zb2 rfl (.tmp 26) (.tmp 29) _ rfl w.heap.size 31 Zc8 underlying28 rfl _ _ _ rfl l _ Aw _ cw ((wordsAt xs F base k).map (Ys .u32)) rfl (by simp) a3 a1 (by simp[Y1]) (by simp only[maxLen];omega) (by omega) (by omega) ?_;intro d9 w3 X f Q a9;have Z:=Zbu c5 l (by decide) f;have t:=b5.other l (by decide) (by decide) f;have z:=K.trans Q;have d7:=f.size;have y:=Zoj b9.out l (by decide) f;have b2:w3.cell? ⟨wr.heap.size,0,none⟩=some (.int .i64 kind):=Zfx y 0;have e5:w3.cell? ⟨wr.heap.size,6,none⟩=some (.string lab):=Zfx y 6;clear y;obtain⟨p0,p1,p2,p3,p4⟩:=t.cells;obtain⟨q1,q2⟩:=t.at_ (k:=k) (by omega);rw[Zcd xs F base _ k (by omega),e0.out] at q1;obtain⟨r1,r2,r3,r4⟩:=t.lts;have e2:wr.heap.size<w3.heap.size:=by omega)
     have hE:=Zn w3;refine Za5 11 1 [0,1,2,3,4,5,6,7,8,9,10] (by kernel_rfl) (by kernel_rfl) (λ _ _ _ _ _ h=>h) ?_
     repeat (first
      | (refine Zf7 rfl ?_;go_big_quiet_step (fail)))
     refine wpQuiet_nil ?_;rintro _ ⟨⟨w4,G⟩,rfl⟩;simp only[List.drop_succ_cons,List.drop_zero];clear hE p0 p1 p2 p3 p4 q1 q2;have d3:=Ze X G;have P:=Ze Z G;have d6:=t.below G;have H:=z.trans (G.mono (by omega));have d5:=H.size;go_wp2_with (at_builtin;refine Zm rfl (.tmp 34) (.tmp 45) _ rfl w.heap.size 166 Ztb underlying33 rfl (by decide) #[.string lab,.int .i64 ak] _ _ _ rfl P rfl rfl rfl (by simp[Y1]) (by simp only[maxLen];omega) (by omega) d5 ?_;intro f0 w5 d0 b4 d8 e4)
     go_roundw
     case rel =>
      refine⟨k+1,by omega,by go_num,?_,?_,d6.other P (by decide) (by decide) b4,H.trans d8⟩
      .rw[outTo,Yd,Yay]
       exact Zbu d3 P (by decide) b4
      .have e:placeAt xs F base k=[(lab,ak)]:=by rw[I.out];simp[C2.out]
       rw[placesTo,e,Yd,List.flatMap_append]
       simpa[Zag] using d0
     case measure=>simp[intOf];omega
    .have d2:=Zcp c2
     have C2:=Ya c2;clear c2;go_wp2_with (at_builtin;refine Zb2 rfl (.tmp 26) (.tmp 29) _ rfl w.heap.size 31 Zc8 underlying28 rfl _ _ _ rfl l _ Aw _ cw ((wordsAt xs F base k).map (Ys .u32)) rfl (by simp) a3 a1 (by simp[Y1]) (by simp only[maxLen];omega) (by omega) (by omega) ?_;intro d9 w3 X f Q a9;have Z:=Zbu c5 l (by decide) f;have t:=b5.other l (by decide) (by decide) f;have z:=K.trans Q;have d7:=f.size;have y:=Zoj b9.out l (by decide) f;have b2:w3.cell? ⟨wr.heap.size,0,none⟩=some (.int .i64 kind):=Zfx y 0;clear y)
     go_roundw
     case rel =>
      refine⟨k+1,by omega,by go_num,?_,?_,t,z⟩
      .rw[outTo,Yd,Yay]
       exact X
      .have e:placeAt xs F base k=[]:=by rw[I.out];simp[C2.out]
       rw[placesTo,e,List.append_nil];exact Z
     case measure=>simp[intOf];omega
   .have hkn:k=xs.length:=by omega
    subst hkn;go_wp2_with fail
    go_ret3
    exact⟨_,_,0,F,rfl,b1.out,R,a0,E⟩
theorem Zjf {xs:List S.Item}{base:Int}{F:List Int}(h:FormsRes xs base 0 F)(b:∀x∈xs,0<=x.word/\x.word<=4294967295):(outTo xs F base xs.length).length<=67108864:=by
 rcases h with⟨h,_⟩|⟨_,h,_⟩|⟨h1,_,h3,h4,a⟩
 .exact absurd rfl h
 .omega
 .have h6:=Zbj (base:=base) h3.1 (Zcu (Zin h1)) b xs.length
  have h7:0<=base:=by
   rcases h1 with⟨_,h⟩|⟨h,_⟩|⟨h,_⟩|⟨h,_⟩|⟨h,_⟩
   .omega
   all_goals exact h
  have h8:addr xs F base xs.length<=67108864:=a;omega
theorem Zol {w:World}{B:Nat}{A:Option Addr}{os:List S.Obj}(hi:Objs w B A os):∀x∈joined os,0<=x.word/\x.word<=4294967295:=by
 intro x a;obtain⟨o,e,a⟩:=List.mem_flatMap.1 a;obtain⟨y,f,rfl⟩:=Ycy.1 a;obtain⟨k,d,rfl⟩:=Ycl e;obtain⟨b,off,o',_,_,h1,_,⟨A',c',_,h2⟩,_,_⟩:=hi.at_ d;rw[Yf d] at h1
 cases h1
 exact h2.words y f
theorem Zmh {os:List S.Obj}(b:∀(k:Nat)(o:S.Obj),os[k]?=some o->∀x∈o.items,o.name.size+x.label.size<=9223372036854775807):∀x∈joined os,x.label.size<=maxLen:=by
 intro x a;obtain⟨o,d,a⟩:=List.mem_flatMap.1 a;obtain⟨y,e,rfl⟩:=Ycy.1 a;obtain⟨k,f,rfl⟩:=Ycl d;have h1:=b k _ (Yf f) y e;have h2:=Zsr os[k].name y.label
 show(owned os[k].name y.label).size<=maxLen
 unfold maxLen;omega
def Zv6 (os:List S.Obj)(base r:Int)(L:List Int)(P:List (ByteArray×Int)):Prop :=
 (r≠0/\NamesRes os r/\L=[]/\P=[]) \/
 (NamesRes os 0/\∃F,FormsRes (joined os) base r F/\L=(if r=0 then outTo (joined os) F base (joined os).length else [])/\P=(if r=0 then placesTo (joined os) F base (joined os).length else []))
def Z5j (os:List S.Obj)(base:Int)(w:World)(e:Ending)(w':World):Prop :=
 ∃vo vp r L P,e=.returned (.tuple #[.agg #[vo,vp],.int .i64 r])/\Zv6 os base r L P /\
  w'.ownsRow w.heap.size 31 1 vo L.length (L.map (Ys .u32))/\w'.ownsRow w.heap.size 166 2 vp P.length (P.flatMap Zag)/\Below w.heap.size w w'
theorem Zv7 (A:Option Addr)(c:Nat)(os:List S.Obj)(base:Int)(w:World)(hi:Objs w w.heap.size A os)(hl:os.length<=1048576)(Y:(joined os).length<=1048576)
 (I:∀(k:Nat)(o:S.Obj),os[k]?=some o->∀x∈o.items,o.name.size+x.label.size<=9223372036854775807) :
 Calls prog 54 #[.slice A os.length c,.int .i64 base] w (Z5j os base w):=by
 have L:=Ya I;clear I;go_enter func54,ntmps54
 go_wp2_with fail
 refine(Zog _ _ _ _ ((hi.below ((Yh _ _).alloc (Yb _) _)).more (by simp)) hl).mono ?_;rintro e w1 ⟨T,rfl,M,l⟩;have D:=Ya M;clear M;obtain⟨C,a1⟩:=Zih l;have P:=l.size;simp at P;have J:w.heap.size<w1.heap.size:=by omega
 have u:=Below.trans ((Yh w.heap.size w).alloc (Yb _) _) (l.mono (by simp));have f:=Ya u;clear u l;by_cases n:T=0
 .subst n
  go_wp2_with fail
  refine(Zpn _ _ _ _ ((hi.below f.out).more (by omega)) hl Y L.out).mono ?_;rintro e R ⟨v2,rfl,G,i⟩;obtain⟨A2,c2,rfl⟩:=Zc G;have E:∀x∈joined os,0<=x.word/\x.word<=4294967295:=Zol hi;have K:∀(k:Nat)(x:S.Item),(joined os)[k]?=some x->x.label.size<=maxLen:=λ k x hx=>Zmh L.out x (Y0 hx)
  have a4:=i.size;have d:=f.out.trans (i.mono (by omega));have a0:=Ya d;go_wp2_with fail
  refine(Zok _ _ _ _ _ (Items.of_own G E) Y K).mono ?_;rintro e X ⟨vo,vp,r,F,rfl,j,W,hp,g⟩;have a3:=g.size;have s:=d.trans (g.mono (by omega));have t:=Ya s;obtain⟨Ao,co,rfl⟩:=Zc W;obtain⟨Ap,cp,rfl⟩:=Zc hp;have q:=Ya j;have b:w.heap.size<R.heap.size:=by omega
  have Ho:=Ya W;have Hp:=Ya hp;have O:∀o,X.cell? ⟨w.heap.size,o,none⟩=w1.cell? ⟨w.heap.size,o,none⟩:=λ o =>
   (g.cell (p:=⟨w.heap.size,o,none⟩) (show w.heap.size<R.heap.size by omega)).trans (i.cell (p:=⟨w.heap.size,o,none⟩) J)
  have a2:∀o,X.frozen? ⟨w.heap.size,o,none⟩=w1.frozen? ⟨w.heap.size,o,none⟩:=λ o =>
   (g.frozen (p:=⟨w.heap.size,o,none⟩) (show w.heap.size<R.heap.size by omega)).trans (i.frozen (p:=⟨w.heap.size,o,none⟩) J)
  have N:r=0->(outTo (joined os) F base (joined os).length).length<=67108864:=λ h=>by
   subst h;exact Zjf j E
  have U:=Ya N;clear G E K i d j W hp g s N;by_cases n:r=0
  .subst n
   have Z:=U.out rfl;have z:=Ho.out;have y:=Hp.out;simp only[if_true] at z y;have Q:=Ya z;have V:=Ya y;clear z y;simp only[if_true];go_wp2_with fail
   refine bodyPost_ret (v:=.tuple #[.agg #[.slice Ao (outTo (joined os) F base (joined os).length).length co,.slice Ap (placesTo (joined os) F base (joined os).length).length cp],.int .i64 0]) (by simp[results,results54,go_sem,C,O,J]) rfl ⟨_,_,0,_,_,rfl,.inr ⟨D.out,F,q.out,rfl,rfl⟩,?_,?_,?_⟩
   .exact Z3 (ownsRow_setCell_below (ownsRow_setCell_below Q.out (a:=⟨w.heap.size,0,none⟩) b _) (a:=⟨w.heap.size,1,none⟩) b _) (Ya3 b)
   .exact Z3 (ownsRow_setCell_below (ownsRow_setCell_below V.out (a:=⟨w.heap.size,0,none⟩) b _) (a:=⟨w.heap.size,1,none⟩) b _) (Ya3 b)
   .exact(t.out.setCell (p:=⟨w.heap.size,0,none⟩) (Yb _) _).setCell (p:=⟨w.heap.size,1,none⟩) (Yb _) _
  .have hd:=Zcp n
   have H:=Ya n;clear n;rw[if_neg H.out,if_neg H.out];go_wp2_with fail
   refine bodyPost_ret (v:=.tuple #[.agg #[.slice none 0 0,.slice none 0 0],.int .i64 r]) (by simp[results,results54,go_sem,C,O,J]) rfl ⟨_,_,r,[],[],rfl,.inr ⟨D.out,F,q.out,by rw[if_neg H.out],by rw[if_neg H.out]⟩,Yaf _ _ _ _,Yaf _ _ _ _,?_⟩;exact(t.out.setCell (p:=⟨w.heap.size,0,none⟩) (Yb _) _).setCell (p:=⟨w.heap.size,1,none⟩) (Yb _) _
 .have hd:=Zcp n
  have H:=Ya n;clear n;go_wp2_with fail
  refine bodyPost_ret (v:=.tuple #[.agg #[.slice none 0 0,.slice none 0 0],.int .i64 T]) (by simp[results,results54,go_sem,C,J]) rfl ⟨_,_,T,[],[],rfl,.inl ⟨H.out,D.out,rfl,rfl⟩,Yaf _ _ _ _,Yaf _ _ _ _,?_⟩;exact(f.out.setCell (p:=⟨w.heap.size,0,none⟩) (Yb _) _).setCell (p:=⟨w.heap.size,1,none⟩) (Yb _) _
section
structure Only (F:Nat->Prop)(w w':World):Prop where
 os:w'.os=w.os
 tape:w'.tape=w.tape
 output:w'.output=w.output
 size:w.heap.size<=w'.heap.size
 block:∀k,k<w.heap.size->¬F k->w'.heap[k]?=w.heap[k]?
theorem Only.refl (F:Nat->Prop)(w:World):Only F w w:=⟨rfl,rfl,rfl,Yb _,λ _ _ _=>rfl⟩
theorem Only.trans {F G:Nat->Prop}{a b c:World}(h:Only F a b)(k:Only G b c)(e:∀i,i<a.heap.size->G i->F i):Only F a c :=
 ⟨k.os.trans h.os,k.tape.trans h.tape,k.output.trans h.output,Nat.le_trans h.size k.size,λ i hi d=>(k.block i (Y3 hi h.size) (λ hg=>d (e i hi hg))).trans (h.block i hi d)⟩
theorem Only.of_below {F:Nat->Prop}{w w':World}(h:Below w.heap.size w w'):Only F w w':=⟨h.os,h.tape,h.output,h.size,λ k a _=>h.block k a⟩
theorem Only.setCell {F:Nat->Prop}(w:World){p:Addr}(hp:F p.block)(u:Value):Only F w (w.setCell p u) :=
 ⟨rfl,rfl,rfl,by simp[Ybv],λ k _ a=>Ybm _ _ _ _ (λ e=>a (e ▸ hp))⟩
theorem Only.of_grown {F:Nat->Prop}{w w':World}{row:Option Nat}(hg:w.grownBy w' row)(a:∀k,row=some k->F k):Only F w w' :=
 ⟨hg.os,hg.tape,hg.output,hg.size,λ k d b=>hg.block k d (λ e=>b (a k e.symm))⟩
theorem Only.below {F:Nat->Prop}{w w':World}{B:Nat}(h:Only F w w')(hB:B<=w.heap.size)(hF:∀k,F k->B<=k):Below B w w' :=
 ⟨h.os,h.tape,h.output,h.size,λ k hk=>h.block k (by omega) (λ hf=>by have:=hF k hf;omega)⟩
theorem Only.weaken {F G:Nat->Prop}{w w':World}(h:Only F w w')(a:∀k,k<w.heap.size->F k->G k):Only G w w' :=
 ⟨h.os,h.tape,h.output,h.size,λ k b d=>h.block k b (λ hf=>d (a k b hf))⟩
theorem Zau {w w':World}{base:Nat}{e:TypeId}{size:Nat}{v:Value}{n:Nat}{xs:List Value}(h:w.ownsRow base e size v n xs)(b:∀k,v.ownBlock=some k->w'.heap[k]?=w.heap[k]?):w'.ownsRow base e size v n xs:=by
 refine⟨h.1,?_⟩;rcases h.2 with h2|⟨g,cap,a,rfl,h3,d,f⟩
 .exact .inl h2
 .exact .inr ⟨g,cap,a,rfl,h3,by rw[b g rfl];exact d,f⟩
def Zfg (m:Mach)(vm:Value)(A:Option Addr)(l c rd:Nat)(vo:Value):List Value :=
 m.reg.map (Ys .u32)++[vm,.int .u32 m.place,.slice A l c,.int .i64 rd,vo,.int .i64 m.state,.int .u32 m.code,.int .i64 m.trap,.int .i64 m.steps]
structure MAt (w:World)(B p:Nat)(vm vo:Value)(A:Option Addr)(c:Nat)(inp:List Int)(rd:Nat)(m:Mach):Prop where
 ok:m.Ok
 low:B<=p
 blk:∃cs,w.heap[p]?=some (.cells cs 86 (0,0))/\cs.toList=Zfg m vm A inp.length c rd vo
 mem:w.ownsRow B 31 1 vm m.mem.length (m.mem.map (Ys .u32))
 out:w.ownsRow B 5 1 vo m.out.length (m.out.map (Ys .u8))
 rin:Reads w w.heap.size A (inp.map (Ys .u8))
 left:m.input=inp.drop rd
 rdle:rd<=inp.length
 inl:inp.length<=4611686018427387904
 low0:m.mem.length<=4611686018427387904
 la:∀b o s,A=some ⟨b,o,s⟩->b<w.heap.size
 d1:∀b o s,A=some ⟨b,o,s⟩->b≠p/\vm.ownBlock≠some b/\vo.ownBlock≠some b
 d2:vm.ownBlock≠some p/\vo.ownBlock≠some p
def Za0 (p:Nat)(vm vo:Value)(k:Nat):Prop:=k=p\/vm.ownBlock=some k\/vo.ownBlock=some k
theorem Reads.same {w w':World}{A:Option Addr}{xs:List Value}(h:Reads w w.heap.size A xs)(hz:w.heap.size<=w'.heap.size)(d:∀b o s,A=some ⟨b,o,s⟩->w'.heap[b]?=w.heap[b]?):Reads w' w'.heap.size A xs:=λ hp=>by
 obtain⟨b,off,e,g,f⟩:=h hp;exact⟨b,off,e,by omega,λ i x j=>(World.cell?_of_block (w:=w) (a:=⟨b,off+i,none⟩) (d b off none e)).trans (f i x j)⟩
section
variable {w w':World}{B p:Nat}{vm vo:Value}{A:Option Addr}{c:Nat}{inp:List Int}{rd:Nat}{m:Mach}
theorem MAt.cell (h:MAt w B p vm vo A c inp rd m)(k:Nat):w.cell? ⟨p,k,none⟩=(Zfg m vm A inp.length c rd vo)[k]?:=by
 obtain⟨cs,h1,h2⟩:=h.blk;rw[cell_of_row w p k cs _ (0,0) h1,<- h2];simp
theorem MAt.fz (h:MAt w B p vm vo A c inp rd m)(k:Nat):w.frozen? ⟨p,k,none⟩=false:=by
 obtain⟨cs,h1,h2⟩:=h.blk;exact frozen_of_row w p k cs _ h1
theorem MAt.lt (h:MAt w B p vm vo A c inp rd m):p<w.heap.size:=by
 obtain⟨cs,h1,h2⟩:=h.blk;exact(Yw.1 h1).1
theorem Ztc (h:m.Ok)(l:Nat){k:Nat}(a:k<32):(Zfg m vm A l c rd vo)[k]?=some (.int .u32 (m.reg.getD k 0)):=by
 unfold Zfg;rw[List.getElem?_append_left (by simp[h.regs];exact a),Y9];have:k<m.reg.length:=by rw[h.regs];exact a
 simp[this]
theorem Zv8 (h:m.Ok)(l:Nat)(k:Nat):(Zfg m vm A l c rd vo)[32+k]?=([vm,.int .u32 m.place,.slice A l c,.int .i64 rd,vo,.int .i64 m.state,.int .u32 m.code,.int .i64 m.trap,.int .i64 m.steps]:List Value)[k]?:=by
 unfold Zfg;rw[List.getElem?_append_right (by simp[h.regs])];simp[h.regs]
theorem MAt.reg (h:MAt w B p vm vo A c inp rd m){k:Nat}(a:k<32):w.cell? ⟨p,k,none⟩=some (.int .u32 (m.reg.getD k 0)):=(h.cell k).trans (Ztc h.ok _ a)
theorem MAt.hi (h:MAt w B p vm vo A c inp rd m)(k:Nat):w.cell? ⟨p,32+k,none⟩=([vm,.int .u32 m.place,.slice A inp.length c,.int .i64 rd,vo,.int .i64 m.state,.int .u32 m.code,.int .i64 m.trap,.int .i64 m.steps]:List Value)[k]?:=(h.cell _).trans (Zv8 h.ok _ k)
theorem MAt.cells (h:MAt w B p vm vo A c inp rd m):w.cell? ⟨p,32,none⟩=some vm/\w.cell? ⟨p,33,none⟩=some (.int .u32 m.place)/\w.cell? ⟨p,34,none⟩=some (.slice A inp.length c)/\w.cell? ⟨p,35,none⟩=some (.int .i64 rd) /\
 w.cell? ⟨p,36,none⟩=some vo/\w.cell? ⟨p,37,none⟩=some (.int .i64 m.state)/\w.cell? ⟨p,38,none⟩=some (.int .u32 m.code)/\w.cell? ⟨p,39,none⟩=some (.int .i64 m.trap)/\w.cell? ⟨p,40,none⟩=some (.int .i64 m.steps) :=
 ⟨h.hi 0,h.hi 1,h.hi 2,h.hi 3,h.hi 4,h.hi 5,h.hi 6,h.hi 7,h.hi 8⟩
theorem MAt.memv (h:MAt w B p vm vo A c inp rd m):∃g cap,vm=.slice (some ⟨g,0,none⟩) m.mem.length cap/\g<w.heap.size/\(∀i,i<m.mem.length->w.cell? ⟨g,i,none⟩=some (.int .u32 (m.mem.getD i 0)))/\∀i,w.frozen? ⟨g,i,none⟩=false:=by
 have hm:=h.ok.mem;rcases h.mem.2 with⟨_,h2⟩|⟨g,cap,a,rfl,h3,b,h5,h6,h7,h8⟩
 .omega
 .refine⟨g,cap,rfl,(Yw.1 b).1,λ i hi=>?_,λ i=>h.mem.frozenAt i⟩
  rw[h.mem.cellAt i (by omega),Y9];simp[hi]
theorem MAt.keep (h:MAt w B p vm vo A c inp rd m)(f:w.heap.size<=w'.heap.size)(a:∀k,(Za0 p vm vo k\/∃o s,A=some ⟨k,o,s⟩)->w'.heap[k]?=w.heap[k]?):MAt w' B p vm vo A c inp rd m:=by
 refine⟨h.ok,h.low,?_,?_,?_,?_,h.left,h.rdle,h.inl,h.low0,λ b o s e=>Y3 (h.la b o s e) f,h.d1,h.d2⟩
 .obtain⟨cs,h1,h2⟩:=h.blk
  exact⟨cs,by rw[a p (.inl (.inl rfl))];exact h1,h2⟩
 .exact Zau h.mem λ k d=>a k (.inl (.inr (.inl d)))
 .exact Zau h.out λ k d=>a k (.inl (.inr (.inr d)))
 .exact h.rin.same f λ b o s e=>a b (.inr ⟨o,s,e⟩)
theorem MAt.foot_lt (h:MAt w B p vm vo A c inp rd m){k:Nat}(a:Za0 p vm vo k):B<=k/\k<w.heap.size:=by
 rcases a with rfl|a|a
 .exact⟨h.low,h.lt⟩
 .exact h.mem.lt k a
 .exact h.out.lt k a
theorem MAt.below (h:MAt w B p vm vo A c inp rd m)(b:Below w.heap.size w w'):MAt w' B p vm vo A c inp rd m:=by
 refine h.keep b.size λ k a=>b.block k ?_
 rcases a with a|⟨o,s,e⟩
 .exact(h.foot_lt a).2
 .exact h.la k o s e
theorem Zqj (h:MAt w B p vm vo A c inp rd m):vm.ownBlock=none\/vm.ownBlock≠vo.ownBlock:=Zp9 h.mem h.out (by decide)
theorem MAt.mem_ne (h:MAt w B p vm vo A c inp rd m){k:Nat}(a:vm.ownBlock=some k):k≠p/\vo.ownBlock≠some k:=by
 refine⟨λ e=>h.d2.1 (e ▸ a),λ e=>?_⟩;rcases Zqj h with h1|h1
 .rw[h1] at a;cases a
 .exact h1 (a.trans e.symm)
theorem MAt.stored (h:MAt w B p vm vo A c inp rd m)(k:Nat)(u:Value){g:Mach}{d:Nat}(n:g.Ok)(f:g.mem=m.mem)(i:g.out=m.out)(t:g.input=inp.drop d)(q:d<=inp.length)
 (r:Zfg g vm A inp.length c d vo=(Zfg m vm A inp.length c rd vo).set k u):MAt (w.setCell ⟨p,k,none⟩ u) B p vm vo A c inp d g:=by
 have a:∀j,j≠p->(w.setCell ⟨p,k,none⟩ u).heap[j]?=w.heap[j]?:=λ j l=>Ybm _ _ _ _ l
 refine⟨n,h.low,?_,?_,?_,?_,t,q,h.inl,by rw[f];exact h.low0,λ b o s e=>by have:=h.la b o s e;simpa[Ybv] using this,h.d1,h.d2⟩
 .obtain⟨cs,h1,h2⟩:=h.blk
  refine⟨cs.setIfInBounds k u,heap_setCell_same w p k cs _ u h1,?_⟩;rw[Array.toList_setIfInBounds,h2,r]
 .rw[f]
  exact Zau h.mem λ j l=>a j λ e=>h.d2.1 (e ▸ l)
 .rw[i]
  exact Zau h.out λ j l=>a j λ e=>h.d2.2 (e ▸ l)
 .exact h.rin.same (by simp[Ybv]) λ b o s e=>a b (h.d1 b o s e).1
end
end
