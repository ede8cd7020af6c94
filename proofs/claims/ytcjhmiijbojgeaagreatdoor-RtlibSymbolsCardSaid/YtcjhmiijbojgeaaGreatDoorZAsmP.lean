/- Parts. -/
import Derived.Test.YtcjhmiijbojgeaaGreatDoorZExtB
import Derived.BigRegion
set_option linter.all false
set_option maxHeartbeats 4000000
open Go.Lib renaming hid->Ya
open List renaming getElem?_eq_some_iff->Yg
namespace Go.Proofs.YtcjhmiijbojgeaaGreatDoor
open S Go.Proofs.Tryz Go.RowKit
set_option maxRecDepth 100000
theorem Zs6 (x:Int)(h0:0<=x)(a:x<=4294967295):bits .and .i64 x 65535=x%65536:=by
 have h:(BitVec.ofInt 64 x &&& BitVec.ofInt 64 65535).toNat=(x%65536).toNat:=by
  rw[BitVec.toNat_and];have a:(BitVec.ofInt 64 65535).toNat=2^16-1:=by decide
  rw[a,Nat.and_two_pow_sub_one_eq_mod,BitVec.toNat_ofInt];omega
 show IntKind.i64.wrap ((BitVec.ofInt 64 x &&& BitVec.ofInt 64 65535).toNat:Int)=_
 rw[h,IntKind.wrap_i64];omega
theorem Zs7 (d a:Int)(w:World)(h0:0<=a)(h:a<=4294967295) :
 Calls prog 203 #[.int .i64 d,.int .i64 a] w (Told w [wordOf ⟨23,d,0,0,a/65536⟩,wordOf ⟨17,d,d,0,a%65536⟩]):=by
 go_enter func203,ntmps203
 go_wp2_with fail
 refine(asm_word _ _ _ _ _ _).mono ?_;rintro e w1 ⟨rfl,b⟩;go_wp2_with fail
 refine(asm_word _ _ _ _ _ _).mono ?_;rintro e w2 ⟨rfl,c⟩;have f:=b.size;have g:=b.trans (c.mono f);go_wp2_with fail
 go_ret
 exact Zea (by simp) g (by rw[Zs6 a h0 h];simp) (by simp)
theorem Zma (d a at_:Int)(w:World)(f:0<=a)(c:a<=67108864)(h:0<=at_)(g:at_<=67108865) :
 Calls prog 202 #[.int .i64 d,.int .i64 1,.int .i64 a,.int .i64 at_] w (Told w [wordOf ⟨32,d,0,0,a-at_-1⟩]):=by
 go_enter func202,ntmps202
 go_wp2_with fail
 refine(asm_word _ _ _ _ _ _).mono ?_;rintro e w1 ⟨rfl,b⟩;go_wp2_with fail
 go_ret
 exact Zea (by simp) b (by simp) (by simp)
theorem Zmb (d g at_:Int)(w:World)(h:0<=g)(o:g<=67108864) :
 Calls prog 202 #[.int .i64 d,.int .i64 2,.int .i64 g,.int .i64 at_] w (Told w [lui g,ori g,wordOf ⟨33,d,25,0,0⟩]):=by
 go_enter func202,ntmps202
 go_wp2_with fail
 refine(Zs7 _ _ _ h (by omega)).mono ?_;rintro e w1 ⟨v,rfl,l,f⟩;obtain⟨A,c,rfl⟩:=Za l;go_wp2_with fail
 refine(asm_word _ _ _ _ _ _).mono ?_;rintro e w2 ⟨rfl,a⟩;have k:=Zc l a;have i:=f.size;have n:=a.size;have p:=f.trans (a.mono i);go_wp2_with (at_builtin;refine Zl rfl (.tmp 20) (.tmp 24) _ rfl w.heap.size 31 Zcu underlying28 rfl (by decide) #[.int .u32 (wordOf ⟨33,d,25,0,0⟩)] _ _ _ rfl k rfl rfl rfl (by simp[Value.oneCell']) (by simp[maxLen]) (by simp) (by omega) ?_;intro v' w' b q j m)
 go_ret
 exact⟨_,rfl,by simpa[lui,ori] using b,p.trans j⟩
theorem Zs8 (w:World){B g gF gA m n:Nat}{A:Option Addr}{c:Nat}{xs:List S.Item}{base:Int}{F:List Int}(h:Work w B g gF gA m n A c xs base F (Zfe xs F base (xs.length+1)) (Zen xs))(hi:Items w B A xs)(hB:B<=w.heap.size)
 (i:Nat) (x:S.Item) (hx:xs[i]?=some x) (L:FormOk xs F) (c6:named x=true->0<=stands xs x.label) (R:x.label.size<=maxLen)
 (hl:xs.length<=1048576) (d2:0<=base) (b4:addr xs F base xs.length<=67108864) (U:1<=x.kind/\x.kind<=8) (hw:∀x∈xs,0<=x.word/\x.word<=4294967295) :
 Calls prog 172 #[.pointer (some ⟨g,0,none⟩),.int .i64 i] w (Told w (wordsAt xs F base i)):=by
 have a7:i<xs.length:=(Yg.1 hx).1;obtain⟨k0,k1,k2,k3,k4⟩:=h.cells;obtain⟨l1,l2,l3,l4⟩:=h.lts;obtain⟨c9,c7⟩:=h.form a7;have c2:=(h.at_ (k:=i) (by omega)).1;rw[Zbu xs F base _ i (by omega)] at c2;obtain⟨b,off,x',rfl,hb,c3,b3,b2,c4,b6,b9,c0,b7,c1,b5,d3⟩:=hi.at_ a7;rw[hx] at c3
 cases c3
 have e3:b<w.heap.size:=by omega
 obtain⟨h3,h4,h5⟩:=L.2 i x hx;have a1:wordsAt xs F base i=wordsOf x (F.getD i 0) (addr xs F base i) (toOf xs F base x):=by simp[wordsAt,hx]
 have d4:=Zuw (base:=base) L hw d2 b4 x;have d7:=Zco (base:=base) L hw (i:=i) (n:=xs.length) (by omega);have b8:=Zco (base:=base) L hw (i:=i+1) (n:=xs.length) a7;have e7:=(Zcm (base:=base) L hw i).1;have d6:addr xs F base (i+1)=addr xs F base i+S.size x (F.getD i 0):=by rw[addr];simp[sizeAt,hx]
 have X:x.kind=8->x.word<=67108864:=by
  intro h;have:S.size x (F.getD i 0)=x.word:=by simp[S.size,h]
  omega
 have l:named x=true->∃j:Nat,Zen xs x.label=some (j:Int)/\j<=xs.length/\(Zfe xs F base (xs.length+1)).getD j 0=toOf xs F base x:=by
  intro q;have h0:=c6 q;rcases Zaj xs x.label with⟨e,_⟩|⟨j,y,e,hj,_⟩
  .omega
  .have hjl:=(Yg.1 hj).1
   refine⟨j,by unfold Zen;rw[if_neg (by omega),e],by omega,?_⟩;rw[Zbu xs F base _ j (by omega)];simp[toOf,q,e]
 have o:named x=false->toOf xs F base x=0:=λ q=>by simp[toOf,q]
 have r:=Ya a1;clear a1 hx d6 b8 c6 h5 L hw;generalize toOf xs F base x=tg at *;generalize addr xs F base i=ai at *;generalize wordsAt xs F base i=W at *;generalize hfk:F.getD i 0=fk at *;have e8:=Ya hfk;clear hfk;obtain⟨kind,⟨op,d,a,N,imm⟩,lab,wd⟩:=x;simp only at b3 b2 c4 b6 b9 c0 b7 c1 b5 d3 h3 h4 X R U;obtain⟨t0,t1⟩:=d4;have V:kind=1\/kind=2\/(kind=3/\(fk=1\/fk=2\/fk=3))\/(kind=4/\(fk=1\/fk=2))\/kind=5\/kind=6\/kind=7\/kind=8:=by
  by_cases k3:kind=3
  .have:=h3 k3;omega
  .by_cases k4:kind=4
   .have:=h4 k4;omega
   .omega
 have a8:=Ya V;clear h3 h4 U V;go_enter func172,ntmps172
 go_wp2_with fail
 go_region
 as_aux_lemma =>
  go_wp2_with fail
  refine(Zm0 _ _ _ _ _ _ _ _ _).mono ?_;rintro e w2 ⟨rfl,a4⟩;have C:Below w.heap.size w w2:=((Below.refl _ _).alloc (Nat.le_refl _) _).drew.trans (a4.mono (by simp));have e1:w.heap.size<w2.heap.size:=by have:=a4.size;simp at this;omega
  have Z:∀(j:Nat)(v:Value),(#[Value.int .i64 kind,.int .i64 op,.int .i64 d,.int .i64 a,.int .i64 N,.int .i64 imm,.string lab,.int .u32 wd])[j]?=some v->w2.cell? ⟨w.heap.size,j,none⟩=some v:=by
   intro j v hv;rw[a4.cell (p:=⟨_,j,none⟩) (by simp),<- hv];exact Zac _ _ _ _
  have e9:=Z 0 (.int .i64 kind) rfl;have e0:=Z 1 (.int .i64 op) rfl;have d9:=Z 2 (.int .i64 d) rfl;have d8:=Z 3 (.int .i64 a) rfl;have e5:=Z 4 (.int .i64 N) rfl;have e2:=Z 5 (.int .i64 imm) rfl;have e4:=Z 6 (.string lab) rfl;have e6:=Z 7 (.int .u32 wd) rfl;have Y:=h.below C;have J:=C.size;clear Z k0 k1 k2 k3 k4 l1 l2 l3 l4 c9 c7 c2 b3 b2 c4 b6 b9 c0 b7 c1 h hi;rcases a8.out with rfl|rfl|⟨rfl,k⟩|⟨rfl,k⟩|rfl|rfl|rfl|rfl
  .as_aux_lemma =>
    have q:named ⟨1,⟨op,d,a,N,imm⟩,lab,wd⟩=false:=by simp[named]
    have h0:=o q;subst h0;rw[q];clear q l o X;go_wp2_with fail
    refine(asm_word _ _ _ _ _ _).mono ?_;rintro e w3 ⟨rfl,f⟩;go_wp2_with fail
    go_ret
    rw[r.out];exact Zea (by simp[wordsOf]) (C.trans (f.mono J)) (by simp[wordsOf]) (by simp[wordsOf])
  .as_aux_lemma =>
    have q:named ⟨2,⟨op,d,a,N,imm⟩,lab,wd⟩=false:=by simp[named]
    have h0:=o q;subst h0;rw[q];clear q l o X;go_wp2_with fail
    go_ret
    rw[r.out];refine⟨_,rfl,?_,C⟩
    simpa[wordsOf] using World.ownsRow_nil _ _ _ _
  .as_aux_lemma =>
    have q:named ⟨3,⟨op,d,a,N,imm⟩,lab,wd⟩=true:=by simp[named]
    obtain⟨j,u,I,z⟩:=l q;have G:=Ya u;have H:=Ya z;rw[q];clear q l o X u z;go_wp2_with fail
    refine(Zar _ Y lab R j G.out I hl tg H.out).mono ?_;rintro e w3 ⟨rfl,f⟩;have s:=C.trans (f.mono J);have a9:=f.size;obtain⟨b1,a3⟩:=Zh9 f;rcases k with rfl|rfl|rfl
    .go_wp2_with fail
     refine(asm_word _ _ _ _ _ _).mono ?_;rintro e K ⟨rfl,t⟩;go_wp2_with fail
     go_ret
     rw[r.out];exact Zea (by simp[wordsOf]) ((s.alloc (by omega) _).trans (t.mono (by simp;omega))) (by simp[wordsOf]) (by simp[wordsOf])
    .go_wp2_with (go_at_call 201;refine(asm_Turned _ _).mono ?_;rintro e w' ⟨rfl,rfl⟩)
     refine(asm_word _ _ _ _ _ _).mono ?_;rintro e K ⟨rfl,t⟩;have D:Below w.heap.size w K:=(s.alloc (by omega) _).trans (t.mono (by simp;omega));have T:=D.size;go_wp2_with fail
     refine(Zma _ _ _ _ t0 t1 (by omega) (by omega)).mono ?_;rintro e w5 ⟨v,rfl,M,O⟩;have Q:Below K.heap.size K w5:=((Below.refl _ _).alloc (Nat.le_refl _) _).trans (O.mono (by simp));have b0:=World.ownsRow_lit (base:=w.heap.size) (size:=1) (e:=31) K #[.int .u32 (wordOf ⟨turned op,0,a,N,1⟩)] 1 T (by simp[maxLen]) rfl;have P:=Zc b0 O;have E:=D.trans (Q.mono T);have d5:=E.size;obtain⟨Aw,cw,rfl⟩:=Za M;have a2:=Reads.of_own M;have a6:Aw=none->1=0:=Zch M;go_wp2_with (at_builtin;refine Zbf rfl (.tmp 76) (.tmp 82) _ rfl w.heap.size 31 Zcu underlying28 rfl _ _ _ rfl P _ Aw 1 cw _ rfl (by simp) a6 a2 (by simp[Value.oneCell']) (by simp[maxLen]) (by simp) (by omega) ?_;intro d1 w6 a0 c8 a5 c5)
     go_ret
     rw[r.out];refine⟨_,rfl,?_,E.trans a5⟩;have e:tg-(ai+1)-1=tg-ai-2:=by omega
     rw[e] at a0
     simpa[wordsOf] using a0
    .go_wp2_with (go_at_call 201;refine(asm_Turned _ _).mono ?_;rintro e w' ⟨rfl,rfl⟩)
     refine(asm_word _ _ _ _ _ _).mono ?_;rintro e K ⟨rfl,t⟩;have D:Below w.heap.size w K:=(s.alloc (by omega) _).trans (t.mono (by simp;omega));have T:=D.size;go_wp2_with fail
     refine(Zmb _ _ _ _ t0 t1).mono ?_;rintro e w5 ⟨v,rfl,M,O⟩;have Q:Below K.heap.size K w5:=((Below.refl _ _).alloc (Nat.le_refl _) _).trans (O.mono (by simp));have b0:=World.ownsRow_lit (base:=w.heap.size) (size:=1) (e:=31) K #[.int .u32 (wordOf ⟨turned op,0,a,N,3⟩)] 1 T (by simp[maxLen]) rfl;have P:=Zc b0 O;have E:=D.trans (Q.mono T);have d5:=E.size;obtain⟨Aw,cw,rfl⟩:=Za M;have a2:=Reads.of_own M;have a6:Aw=none->3=0:=Zch M;go_wp2_with (at_builtin;refine Zbf rfl (.tmp 76) (.tmp 82) _ rfl w.heap.size 31 Zcu underlying28 rfl _ _ _ rfl P _ Aw 3 cw _ rfl (by simp) a6 a2 (by simp[Value.oneCell']) (by simp[maxLen]) (by simp) (by omega) ?_;intro d1 w6 a0 c8 a5 c5)
     go_ret
     rw[r.out];refine⟨_,rfl,?_,E.trans a5⟩
     simpa[wordsOf] using a0
  .as_aux_lemma =>
    have q:named ⟨4,⟨op,d,a,N,imm⟩,lab,wd⟩=true:=by simp[named]
    obtain⟨j,u,I,z⟩:=l q;have G:=Ya u;have H:=Ya z;rw[q];clear q l o X u z;go_wp2_with fail
    refine(Zar _ Y lab R j G.out I hl tg H.out).mono ?_;rintro e w3 ⟨rfl,f⟩;have s:=C.trans (f.mono J);have a9:=f.size;obtain⟨b1,a3⟩:=Zh9 f;rcases k with rfl|rfl
    .go_wp2_with fail
     refine(Zma _ _ _ _ t0 t1 (by omega) (by omega)).mono ?_;rintro e K ⟨v,rfl,M,t⟩;go_wp2_with fail
     go_ret
     rw[r.out];refine⟨_,rfl,?_,s.trans (t.mono (by omega))⟩;exact Zo (by simpa[wordsOf] using M) (by omega)
    .go_wp2_with fail
     refine(Zmb _ _ _ _ t0 t1).mono ?_;rintro e K ⟨v,rfl,M,t⟩;go_wp2_with fail
     go_ret
     rw[r.out];refine⟨_,rfl,?_,s.trans (t.mono (by omega))⟩;exact Zo (by simpa[wordsOf] using M) (by omega)
  .as_aux_lemma =>
    have q:named ⟨5,⟨op,d,a,N,imm⟩,lab,wd⟩=true:=by simp[named]
    obtain⟨j,u,I,z⟩:=l q;have G:=Ya u;have H:=Ya z;rw[q];clear q l o X u z;go_wp2_with fail
    refine(Zar _ Y lab R j G.out I hl tg H.out).mono ?_;rintro e w3 ⟨rfl,f⟩;have s:=C.trans (f.mono J);have a9:=f.size;obtain⟨b1,a3⟩:=Zh9 f;go_wp2_with fail
    refine(Zs7 _ _ _ (by omega) (by omega)).mono ?_;rintro e K ⟨v,rfl,M,t⟩;go_wp2_with fail
    go_ret
    rw[r.out];refine⟨_,rfl,?_,s.trans (t.mono (by omega))⟩;exact Zo (by simpa[wordsOf] using M) (by omega)
  .as_aux_lemma =>
    have q:named ⟨6,⟨op,d,a,N,imm⟩,lab,wd⟩=false:=by simp[named]
    have h0:=o q;subst h0;rw[q];clear q l o X;go_wp2_with fail
    go_ret
    rw[r.out];exact Zea (by simp[wordsOf]) C (by simp[wordsOf]) (by simp[wordsOf])
  .as_aux_lemma =>
    have q:named ⟨7,⟨op,d,a,N,imm⟩,lab,wd⟩=true:=by simp[named]
    obtain⟨j,u,I,z⟩:=l q;have G:=Ya u;have H:=Ya z;rw[q];clear q l o X u z;go_wp2_with fail
    refine(Zar _ Y lab R j G.out I hl tg H.out).mono ?_;rintro e w3 ⟨rfl,f⟩;have s:=C.trans (f.mono J);have a9:=f.size;obtain⟨b1,a3⟩:=Zh9 f;go_wp2_with fail
    go_ret
    rw[r.out];exact Zea (by simp[wordsOf]) s (by simp[wordsOf,Int.mul_comm tg 4]) (by simp[wordsOf])
  .as_aux_lemma =>
    have q:named ⟨8,⟨op,d,a,N,imm⟩,lab,wd⟩=false:=by simp[named]
    have h0:=o q;subst h0;rw[q];have f0:=X rfl;clear q l o X;obtain⟨n,rfl⟩:=Int.eq_ofNat_of_zero_le b5;go_wp2_with (refine Zmt rfl (.tmp 122) (.tmp 122) _ rfl w.heap.size 31 Zcu underlying28 rfl .u32 .u32 _ _ n rfl rfl rfl rfl (by omega) (by simp only[maxLen];omega) J ?_;intro w3 d0 f)
    go_ret
    rw[r.out];refine⟨_,rfl,?_,C.trans (f.mono J)⟩
    simpa[wordsOf] using d0
