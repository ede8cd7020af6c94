/- Parts. -/
import Derived.Test.YtldbnjajjfgipaaGreatDoorZQb
import Derived.BigRegion
set_option linter.all false
set_option maxHeartbeats 4000000
open Go.Lib renaming hid->Ya
open List renaming getElem?_eq_some_iff->Yg
namespace Go.Proofs.YtldbnjajjfgipaaGreatDoor
open S Go.Proofs.Tryz Go.RowKit
set_option maxRecDepth 100000
theorem Zqw (x:Int)(h0:0<=x)(a:x<=4294967295):bits .and .i64 x 65535=x%65536:=by
 have h:(BitVec.ofInt 64 x &&& BitVec.ofInt 64 65535).toNat=(x%65536).toNat:=by
  rw[BitVec.toNat_and];have a:(BitVec.ofInt 64 65535).toNat=2^16-1:=by decide
  rw[a,Nat.and_two_pow_sub_one_eq_mod,BitVec.toNat_ofInt];omega
 show IntKind.i64.wrap ((BitVec.ofInt 64 x &&& BitVec.ofInt 64 65535).toNat:Int)=_
 rw[h,IntKind.wrap_i64];omega
theorem Zqx (d a:Int)(w:World)(h0:0<=a)(h:a<=4294967295) :
 Calls prog 243 #[.int .i64 d,.int .i64 a] w (Told w [wordOf ⟨23,d,0,0,a/65536⟩,wordOf ⟨17,d,d,0,a%65536⟩]):=by
 go_enter func243,ntmps243
 go_wp2_with fail
 refine(asm_word _ _ _ _ _ _).mono ?_;rintro e w1 ⟨rfl,b⟩;go_wp2_with fail
 refine(asm_word _ _ _ _ _ _).mono ?_;rintro e w2 ⟨rfl,c⟩;have f:=b.size;have g:=b.trans (c.mono f);go_wp2_with fail
 go_ret
 exact Zdq (by simp) g (by rw[Zqw a h0 h];simp) (by simp)
theorem Zku (d a at_:Int)(w:World)(c:0<=a)(g:a<=67108864)(h:0<=at_)(f:at_<=67108865) :
 Calls prog 242 #[.int .i64 d,.int .i64 1,.int .i64 a,.int .i64 at_] w (Told w [wordOf ⟨32,d,0,0,a-at_-1⟩]):=by
 go_enter func242,ntmps242
 go_wp2_with fail
 refine(asm_word _ _ _ _ _ _).mono ?_;rintro e w1 ⟨rfl,b⟩;go_wp2_with fail
 go_ret
 exact Zdq (by simp) b (by simp) (by simp)
theorem Zkv (d f at_:Int)(w:World)(h:0<=f)(p:f<=67108864) :
 Calls prog 242 #[.int .i64 d,.int .i64 2,.int .i64 f,.int .i64 at_] w (Told w [lui f,ori f,wordOf ⟨33,d,25,0,0⟩]):=by
 go_enter func242,ntmps242
 go_wp2_with fail
 refine(Zqx _ _ _ h (by omega)).mono ?_;rintro e w1 ⟨v,rfl,m,g⟩;obtain⟨A,c,rfl⟩:=Za m;go_wp2_with fail
 refine(asm_word _ _ _ _ _ _).mono ?_;rintro e w2 ⟨rfl,b⟩;have k:=Zc m b;have i:=g.size;have q:=b.size;have o:=g.trans (b.mono i);go_wp2_with (at_builtin;refine Zk rfl (.tmp 20) (.tmp 24) _ rfl w.heap.size 31 Zb7 underlying28 rfl (by decide) #[.int .u32 (wordOf ⟨33,d,25,0,0⟩)] _ _ _ rfl k rfl rfl rfl (by simp[Value.oneCell']) (by simp[maxLen]) (by simp) (by omega) ?_;intro v' w' a n j l)
 go_ret
 exact⟨_,rfl,by simpa[lui,ori] using a,o.trans j⟩
theorem Zqy (w:World){B g gF gA m n:Nat}{A:Option Addr}{c:Nat}{xs:List S.Item}{base:Int}{F:List Int}(h:Work w B g gF gA m n A c xs base F (Zek xs F base (xs.length+1)) (Zd4 xs))(hi:Items w B A xs)(hB:B<=w.heap.size)
 (i:Nat) (x:S.Item) (hx:xs[i]?=some x) (K:FormOk xs F) (b8:named x=true->0<=stands xs x.label) (T:x.label.size<=maxLen)
 (hl:xs.length<=1048576) (c9:0<=base) (c3:addr xs F base xs.length<=67108864) (O:1<=x.kind/\x.kind<=8) (hw:∀x∈xs,0<=x.word/\x.word<=4294967295) :
 Calls prog 190 #[.pointer (some ⟨g,0,none⟩),.int .i64 i] w (Told w (wordsAt xs F base i)):=by
 have a4:i<xs.length:=(Yg.1 hx).1;obtain⟨k0,k1,k2,k3,k4⟩:=h.cells;obtain⟨l1,l2,l3,l4⟩:=h.lts;obtain⟨d5,d2⟩:=h.form a4;have b6:=(h.at_ (k:=i) (by omega)).1;rw[Zbd xs F base _ i (by omega)] at b6;obtain⟨b,off,x',rfl,hb,b4,b3,c0,b9,c5,c4,c2,b5,c1,b7,d4⟩:=hi.at_ a4;rw[hx] at b4
 cases b4
 have f0:b<w.heap.size:=by omega
 obtain⟨h3,h4,h5⟩:=K.2 i x hx;have a1:wordsAt xs F base i=wordsOf x (F.getD i 0) (addr xs F base i) (toOf xs F base x):=by simp[wordsAt,hx]
 have c8:=Zsy (base:=base) K hw c9 c3 x;have d7:=Zby (base:=base) K hw (i:=i) (n:=xs.length) (by omega);have b2:=Zby (base:=base) K hw (i:=i+1) (n:=xs.length) a4;have e0:=(Zbv (base:=base) K hw i).1;have d0:addr xs F base (i+1)=addr xs F base i+S.size x (F.getD i 0):=by rw[addr];simp[sizeAt,hx]
 have X:x.kind=8->x.word<=67108864:=by
  intro h;have:S.size x (F.getD i 0)=x.word:=by simp[S.size,h]
  omega
 have o:named x=true->∃j:Nat,Zd4 xs x.label=some (j:Int)/\j<=xs.length/\(Zek xs F base (xs.length+1)).getD j 0=toOf xs F base x:=by
  intro q;have h0:=b8 q;rcases Zag xs x.label with⟨e,_⟩|⟨j,y,e,hj,_⟩
  .omega
  .have hjl:=(Yg.1 hj).1
   refine⟨j,by unfold Zd4;rw[if_neg (by omega),e],by omega,?_⟩;rw[Zbd xs F base _ j (by omega)];simp[toOf,q,e]
 have l:named x=false->toOf xs F base x=0:=λ q=>by simp[toOf,q]
 have r:=Ya a1;clear a1 hx d0 b2 b8 h5 K hw;generalize toOf xs F base x=tg at *;generalize addr xs F base i=ai at *;generalize wordsAt xs F base i=W at *;generalize hfk:F.getD i 0=fk at *;have e3:=Ya hfk;clear hfk;obtain⟨kind,⟨op,d,a,N,imm⟩,lab,wd⟩:=x;simp only at b3 c0 b9 c5 c4 c2 b5 c1 b7 d4 h3 h4 X T O;obtain⟨t0,t1⟩:=c8;have V:kind=1\/kind=2\/(kind=3/\(fk=1\/fk=2\/fk=3))\/(kind=4/\(fk=1\/fk=2))\/kind=5\/kind=6\/kind=7\/kind=8:=by
  by_cases k3:kind=3
  .have:=h3 k3;omega
  .by_cases k4:kind=4
   .have:=h4 k4;omega
   .omega
 have a6:=Ya V;clear h3 h4 O V;go_enter func190,ntmps190
 go_wp2_with fail
 go_region
 as_aux_lemma =>
  go_wp2_with fail
  refine(Zkp _ _ _ _ _ _ _ _ _).mono ?_;rintro e w2 ⟨rfl,a3⟩;have C:Below w.heap.size w w2:=((Below.refl _ _).alloc (Nat.le_refl _) _).drew.trans (a3.mono (by simp));have e8:w.heap.size<w2.heap.size:=by have:=a3.size;simp at this;omega
  have Z:∀(j:Nat)(v:Value),(#[Value.int .i64 kind,.int .i64 op,.int .i64 d,.int .i64 a,.int .i64 N,.int .i64 imm,.string lab,.int .u32 wd])[j]?=some v->w2.cell? ⟨w.heap.size,j,none⟩=some v:=by
   intro j v hv;rw[a3.cell (p:=⟨_,j,none⟩) (by simp),<- hv];exact Zaa _ _ _ _
  have d8:=Z 0 (.int .i64 kind) rfl;have e4:=Z 1 (.int .i64 op) rfl;have e9:=Z 2 (.int .i64 d) rfl;have e5:=Z 3 (.int .i64 a) rfl;have e6:=Z 4 (.int .i64 N) rfl;have e1:=Z 5 (.int .i64 imm) rfl;have e2:=Z 6 (.string lab) rfl;have e7:=Z 7 (.int .u32 wd) rfl;have a0:=h.below C;have I:=C.size;clear Z k0 k1 k2 k3 k4 l1 l2 l3 l4 d5 d2 b6 b3 c0 b9 c5 c4 c2 b5 c1 h hi;rcases a6.out with rfl|rfl|⟨rfl,k⟩|⟨rfl,k⟩|rfl|rfl|rfl|rfl
  .as_aux_lemma =>
    have q:named ⟨1,⟨op,d,a,N,imm⟩,lab,wd⟩=false:=by simp[named]
    have h0:=l q;subst h0;rw[q];clear q o l X;go_wp2_with fail
    refine(asm_word _ _ _ _ _ _).mono ?_;rintro e w3 ⟨rfl,f⟩;go_wp2_with fail
    go_ret
    rw[r.out];exact Zdq (by simp[wordsOf]) (C.trans (f.mono I)) (by simp[wordsOf]) (by simp[wordsOf])
  .as_aux_lemma =>
    have q:named ⟨2,⟨op,d,a,N,imm⟩,lab,wd⟩=false:=by simp[named]
    have h0:=l q;subst h0;rw[q];clear q o l X;go_wp2_with fail
    go_ret
    rw[r.out];refine⟨_,rfl,?_,C⟩
    simpa[wordsOf] using World.ownsRow_nil _ _ _ _
  .as_aux_lemma =>
    have q:named ⟨3,⟨op,d,a,N,imm⟩,lab,wd⟩=true:=by simp[named]
    obtain⟨j,z,J,u⟩:=o q;have G:=Ya z;have H:=Ya u;rw[q];clear q o l X z u;go_wp2_with fail
    refine(Zal _ a0 lab T j G.out J hl tg H.out).mono ?_;rintro e w3 ⟨rfl,f⟩;have s:=C.trans (f.mono I);have a9:=f.size;obtain⟨a2,a7⟩:=Zhf f;rcases k with rfl|rfl|rfl
    .go_wp2_with fail
     refine(asm_word _ _ _ _ _ _).mono ?_;rintro e M ⟨rfl,t⟩;go_wp2_with fail
     go_ret
     rw[r.out];exact Zdq (by simp[wordsOf]) ((s.alloc (by omega) _).trans (t.mono (by simp;omega))) (by simp[wordsOf]) (by simp[wordsOf])
    .go_wp2_with (go_at_call 241;refine(asm_Turned _ _).mono ?_;rintro e w' ⟨rfl,rfl⟩)
     refine(asm_word _ _ _ _ _ _).mono ?_;rintro e M ⟨rfl,t⟩;have D:Below w.heap.size w M:=(s.alloc (by omega) _).trans (t.mono (by simp;omega));have P:=D.size;go_wp2_with fail
     refine(Zku _ _ _ _ t0 t1 (by omega) (by omega)).mono ?_;rintro e w5 ⟨v,rfl,L,U⟩;have R:Below M.heap.size M w5:=((Below.refl _ _).alloc (Nat.le_refl _) _).trans (U.mono (by simp));have b0:=World.ownsRow_lit (base:=w.heap.size) (size:=1) (e:=31) M #[.int .u32 (wordOf ⟨turned op,0,a,N,1⟩)] 1 P (by simp[maxLen]) rfl;have Q:=Zc b0 U;have E:=D.trans (R.mono P);have c7:=E.size;obtain⟨Aw,cw,rfl⟩:=Za L;have b1:=Reads.of_own L;have a5:Aw=none->1=0:=Zbs L;go_wp2_with (at_builtin;refine Za2 rfl (.tmp 76) (.tmp 82) _ rfl w.heap.size 31 Zb7 underlying28 rfl _ _ _ rfl Q _ Aw 1 cw _ rfl (by simp) a5 b1 (by simp[Value.oneCell']) (by simp[maxLen]) (by simp) (by omega) ?_;intro d6 w6 Y d1 a8 c6)
     go_ret
     rw[r.out];refine⟨_,rfl,?_,E.trans a8⟩;have e:tg-(ai+1)-1=tg-ai-2:=by omega
     rw[e] at Y
     simpa[wordsOf] using Y
    .go_wp2_with (go_at_call 241;refine(asm_Turned _ _).mono ?_;rintro e w' ⟨rfl,rfl⟩)
     refine(asm_word _ _ _ _ _ _).mono ?_;rintro e M ⟨rfl,t⟩;have D:Below w.heap.size w M:=(s.alloc (by omega) _).trans (t.mono (by simp;omega));have P:=D.size;go_wp2_with fail
     refine(Zkv _ _ _ _ t0 t1).mono ?_;rintro e w5 ⟨v,rfl,L,U⟩;have R:Below M.heap.size M w5:=((Below.refl _ _).alloc (Nat.le_refl _) _).trans (U.mono (by simp));have b0:=World.ownsRow_lit (base:=w.heap.size) (size:=1) (e:=31) M #[.int .u32 (wordOf ⟨turned op,0,a,N,3⟩)] 1 P (by simp[maxLen]) rfl;have Q:=Zc b0 U;have E:=D.trans (R.mono P);have c7:=E.size;obtain⟨Aw,cw,rfl⟩:=Za L;have b1:=Reads.of_own L;have a5:Aw=none->3=0:=Zbs L;go_wp2_with (at_builtin;refine Za2 rfl (.tmp 76) (.tmp 82) _ rfl w.heap.size 31 Zb7 underlying28 rfl _ _ _ rfl Q _ Aw 3 cw _ rfl (by simp) a5 b1 (by simp[Value.oneCell']) (by simp[maxLen]) (by simp) (by omega) ?_;intro d6 w6 Y d1 a8 c6)
     go_ret
     rw[r.out];refine⟨_,rfl,?_,E.trans a8⟩
     simpa[wordsOf] using Y
  .as_aux_lemma =>
    have q:named ⟨4,⟨op,d,a,N,imm⟩,lab,wd⟩=true:=by simp[named]
    obtain⟨j,z,J,u⟩:=o q;have G:=Ya z;have H:=Ya u;rw[q];clear q o l X z u;go_wp2_with fail
    refine(Zal _ a0 lab T j G.out J hl tg H.out).mono ?_;rintro e w3 ⟨rfl,f⟩;have s:=C.trans (f.mono I);have a9:=f.size;obtain⟨a2,a7⟩:=Zhf f;rcases k with rfl|rfl
    .go_wp2_with fail
     refine(Zku _ _ _ _ t0 t1 (by omega) (by omega)).mono ?_;rintro e M ⟨v,rfl,L,t⟩;go_wp2_with fail
     go_ret
     rw[r.out];refine⟨_,rfl,?_,s.trans (t.mono (by omega))⟩;exact Zn (by simpa[wordsOf] using L) (by omega)
    .go_wp2_with fail
     refine(Zkv _ _ _ _ t0 t1).mono ?_;rintro e M ⟨v,rfl,L,t⟩;go_wp2_with fail
     go_ret
     rw[r.out];refine⟨_,rfl,?_,s.trans (t.mono (by omega))⟩;exact Zn (by simpa[wordsOf] using L) (by omega)
  .as_aux_lemma =>
    have q:named ⟨5,⟨op,d,a,N,imm⟩,lab,wd⟩=true:=by simp[named]
    obtain⟨j,z,J,u⟩:=o q;have G:=Ya z;have H:=Ya u;rw[q];clear q o l X z u;go_wp2_with fail
    refine(Zal _ a0 lab T j G.out J hl tg H.out).mono ?_;rintro e w3 ⟨rfl,f⟩;have s:=C.trans (f.mono I);have a9:=f.size;obtain⟨a2,a7⟩:=Zhf f;go_wp2_with fail
    refine(Zqx _ _ _ (by omega) (by omega)).mono ?_;rintro e M ⟨v,rfl,L,t⟩;go_wp2_with fail
    go_ret
    rw[r.out];refine⟨_,rfl,?_,s.trans (t.mono (by omega))⟩;exact Zn (by simpa[wordsOf] using L) (by omega)
  .as_aux_lemma =>
    have q:named ⟨6,⟨op,d,a,N,imm⟩,lab,wd⟩=false:=by simp[named]
    have h0:=l q;subst h0;rw[q];clear q o l X;go_wp2_with fail
    go_ret
    rw[r.out];exact Zdq (by simp[wordsOf]) C (by simp[wordsOf]) (by simp[wordsOf])
  .as_aux_lemma =>
    have q:named ⟨7,⟨op,d,a,N,imm⟩,lab,wd⟩=true:=by simp[named]
    obtain⟨j,z,J,u⟩:=o q;have G:=Ya z;have H:=Ya u;rw[q];clear q o l X z u;go_wp2_with fail
    refine(Zal _ a0 lab T j G.out J hl tg H.out).mono ?_;rintro e w3 ⟨rfl,f⟩;have s:=C.trans (f.mono I);have a9:=f.size;obtain⟨a2,a7⟩:=Zhf f;go_wp2_with fail
    go_ret
    rw[r.out];exact Zdq (by simp[wordsOf]) s (by simp[wordsOf,Int.mul_comm tg 4]) (by simp[wordsOf])
  .as_aux_lemma =>
    have q:named ⟨8,⟨op,d,a,N,imm⟩,lab,wd⟩=false:=by simp[named]
    have h0:=l q;subst h0;rw[q];have d9:=X rfl;clear q o l X;obtain⟨n,rfl⟩:=Int.eq_ofNat_of_zero_le b7;go_wp2_with (refine Zlr rfl (.tmp 122) (.tmp 122) _ rfl w.heap.size 31 Zb7 underlying28 rfl .u32 .u32 _ _ n rfl rfl rfl rfl (by omega) (by simp only[maxLen];omega) I ?_;intro w3 d3 f)
    go_ret
    rw[r.out];refine⟨_,rfl,?_,C.trans (f.mono I)⟩
    simpa[wordsOf] using d3
