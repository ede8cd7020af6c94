/- Parts. -/
import Derived.Test.YtfhiobkkdcdmiaaGreatDoorZAsmN
import Derived.BigRegion
set_option linter.all false
set_option maxHeartbeats 8000000
open Go.Lib renaming hid->Ya
open Nat renaming le_refl->Yb,lt_of_lt_of_le->Yy,le_of_lt->Ya8
open List renaming length_append->Yd,getElem?_eq_getElem->Yf,getElem?_eq_some_iff->Yg,mem_of_getElem?->Y1,getElem?_map->Y3,map_append->Yau,getElem_of_mem->Ych,mem_map->Ycw
open Go.RowKit.Below renaming refl->Yh,heap_setCell->Ybk
open Go.Value renaming int->Yr,oneCell'->Y6,ownBlock->Yao
open Array renaming getElem?_eq_some_iff->Yv
open Go.World renaming ownsRow_nil->Yak,ownsRow_lit->Ybs,setCell->Ybt
namespace Go.Proofs.YtfhiobkkdcdmiaaGreatDoor
open Go.RowKit
set_option maxRecDepth 100000
theorem Zc8:(Tryz.prog.info? 37).map (λ i=>(i.zero,i.size,i.bytes))=some (some (.int .u32 0),1,4):=by kernel_rfl
def Told (w:World)(L:List Int)(e:Ending)(w':World):Prop :=
 ∃v,e=.returned v/\w'.ownsRow w.heap.size 37 1 v L.length (L.map (Yr .u32))/\Below w.heap.size w w'
theorem Zeu {w w1:World}{L:List Int}{cs:Array Value}{n:Nat}(hn:n=L.length)(hb:Below w.heap.size w w1)(hcs:cs=(L.map (Yr .u32)).toArray)(h:L.length<=1000) :
 Told w L (.returned (.slice (some ⟨w1.heap.size,0,none⟩) n n)) (w1.alloc (.cells cs 37)):=by
 subst hcs hn;refine⟨_,rfl,?_,hb.alloc hb.size _⟩;have h1:=Ybs (base:=w.heap.size) (size:=1) (e:=37) w1 (L.map (Yr .u32)).toArray L.length hb.size (by simp only[maxLen];omega) (by simp)
 simpa using h1
theorem Zvm (x:Int)(h0:0<=x)(h1:x<=4294967295):bits .and .i64 x 65535=x%65536:=by
 have h:(BitVec.ofInt 64 x &&& BitVec.ofInt 64 65535).toNat=(x%65536).toNat:=by
  rw[BitVec.toNat_and];have h1:(BitVec.ofInt 64 65535).toNat=2^16-1:=by decide
  rw[h1,Nat.and_two_pow_sub_one_eq_mod,BitVec.toNat_ofInt];omega
 show IntKind.i64.wrap ((BitVec.ofInt 64 x &&& BitVec.ofInt 64 65535).toNat:Int)=_
 rw[h,IntKind.wrap_i64];omega
theorem Zvn (d ad:Int)(w:World)(h0:0<=ad)(h1:ad<=4294967295) :
 Calls Tryz.prog 199 #[.int .i64 d,.int .i64 ad] w (Told w [S.wordOf ⟨23,d,0,0,ad/65536⟩,S.wordOf ⟨17,d,d,0,ad%65536⟩]):=by
 go_enter Tryz.func199,Tryz.ntmps199
 go_wp2_with fail
 refine(asm_word _ _ _ _ _ _).mono ?_;rintro e w1 ⟨rfl,hb1⟩;go_wp2_with fail
 refine(asm_word _ _ _ _ _ _).mono ?_;rintro e w2 ⟨rfl,hb2⟩;have hz1:=hb1.size;have hb:=hb1.trans (hb2.mono hz1);go_wp2_with fail
 go_ret
 exact Zeu (by simp) hb (by rw[Zvm ad h0 h1];simp) (by simp)
theorem Znz (d tg at_:Int)(w:World)(ht0:0<=tg)(ht1:tg<=67108864)(ha0:0<=at_)(ha1:at_<=67108865) :
 Calls Tryz.prog 198 #[.int .i64 d,.int .i64 1,.int .i64 tg,.int .i64 at_] w (Told w [S.wordOf ⟨32,d,0,0,tg-at_-1⟩]):=by
 go_enter Tryz.func198,Tryz.ntmps198
 go_wp2_with fail
 refine(asm_word _ _ _ _ _ _).mono ?_;rintro e w1 ⟨rfl,hb1⟩;go_wp2_with fail
 go_ret
 exact Zeu (by simp) hb1 (by simp) (by simp)
theorem Zn0 (d tg at_:Int)(w:World)(ht0:0<=tg)(ht1:tg<=67108864) :
 Calls Tryz.prog 198 #[.int .i64 d,.int .i64 2,.int .i64 tg,.int .i64 at_] w (Told w [S.lui tg,S.ori tg,S.wordOf ⟨33,d,25,0,0⟩]):=by
 go_enter Tryz.func198,Tryz.ntmps198
 go_wp2_with fail
 refine(Zvn _ _ _ ht0 (by omega)).mono ?_;rintro e w1 ⟨v,rfl,ho,hb1⟩;obtain⟨A,c,rfl⟩:=Zb ho;go_wp2_with fail
 refine(asm_word _ _ _ _ _ _).mono ?_;rintro e w2 ⟨rfl,hb2⟩;have ho2:=Zd ho hb2;have hz1:=hb1.size;have hz2:=hb2.size;have hb:=hb1.trans (hb2.mono hz1);go_wp2_with (at_builtin;refine Zt rfl (.tmp 20) (.tmp 24) _ rfl w.heap.size 37 Zc8 Tryz.underlying51 rfl (by decide) #[.int .u32 (S.wordOf ⟨33,d,25,0,0⟩)] _ _ _ rfl ho2 rfl rfl rfl (by simp[Y6]) (by simp[maxLen]) (by simp) (by omega) ?_;intro v' w' hown1 hg1 hb3 hat1)
 go_ret
 exact⟨_,rfl,by simpa[S.lui,S.ori] using hown1,hb.trans hb3⟩
theorem Zvo (w:World){B g gF gA m n:Nat}{A:Option Addr}{c:Nat}{xs:List S.Item}{base:Int}{F:List Int}(h:Work w B g gF gA m n A c xs base F (Zfq xs F base (xs.length+1)) (Ze5 xs))(hi:Items w B A xs)(hB:B<=w.heap.size)
 (i:Nat) (x:S.Item) (hx:xs[i]?=some x) (hok:S.FormOk xs F) (hst:S.named x=true->0<=S.stands xs x.label) (hls:x.label.size<=maxLen)
 (hl:xs.length<=1048576) (hb0:0<=base) (htot:S.addr xs F base xs.length<=67108864) (hkind:1<=x.kind/\x.kind<=8) (hw:∀x∈xs,0<=x.word/\x.word<=4294967295) :
 Calls Tryz.prog 161 #[.pointer (some ⟨g,0,none⟩),.int .i64 i] w (Told w (S.wordsAt xs F base i)):=by
 have hlt:i<xs.length:=(Yg.1 hx).1;obtain⟨k0,k1,k2,k3,k4⟩:=h.cells;obtain⟨l1,l2,l3,l4⟩:=h.lts;obtain⟨hcF,hfF⟩:=h.form hlt;have hcA:=(h.at_ (k:=i) (by omega)).1;rw[Zcb xs F base _ i (by omega)] at hcA;obtain⟨b,off,x',rfl,hb,hx',hc0,hc1,hc2,hc3,hc4,hc5,hc6,hc7,hw0,hw1⟩:=hi.at_ hlt;rw[hx] at hx'
 cases hx'
 have hbr:b<w.heap.size:=by omega
 obtain⟨h3,h4,h5⟩:=hok.2 i x hx;have hwat:S.wordsAt xs F base i=S.wordsOf x (F.getD i 0) (S.addr xs F base i) (S.toOf xs F base x):=by simp[S.wordsAt,hx]
 have htb:=Ztp (base:=base) hok hw hb0 htot x;have hle1:=Zd6 (base:=base) hok hw (i:=i) (n:=xs.length) (by omega);have hle2:=Zd6 (base:=base) hok hw (i:=i+1) (n:=xs.length) hlt;have hge:=(Zdh (base:=base) hok hw i).1;have hsa:S.addr xs F base (i+1)=S.addr xs F base i+S.size x (F.getD i 0):=by rw[S.addr];simp[S.sizeAt,hx]
 have h8:x.kind=8->x.word<=67108864:=by
  intro h;have:S.size x (F.getD i 0)=x.word:=by simp[S.size,h]
  omega
 have hnam:S.named x=true->∃j:Nat,Ze5 xs x.label=some (j:Int)/\j<=xs.length/\(Zfq xs F base (xs.length+1)).getD j 0=S.toOf xs F base x:=by
  intro hn;have h0:=hst hn;rcases Zax xs x.label with⟨e,_⟩|⟨j,y,e,hj,_⟩
  .omega
  .have hjl:=(Yg.1 hj).1
   refine⟨j,by unfold Ze5;rw[if_neg (by omega),e],by omega,?_⟩;rw[Zcb xs F base _ j (by omega)];simp[S.toOf,hn,e]
 have hto0:S.named x=false->S.toOf xs F base x=0:=λ hn=>by simp[S.toOf,hn]
 have Hwat:=Ya hwat;clear hwat hx hsa hle2 hst h5 hok hw;generalize S.toOf xs F base x=tg at *;generalize S.addr xs F base i=ai at *;generalize S.wordsAt xs F base i=W at *;generalize hfk:F.getD i 0=fk at *;have Hfk:=Ya hfk;clear hfk;obtain⟨kind,⟨op,d,a,b',imm⟩,lab,wd⟩:=x;simp only at hc0 hc1 hc2 hc3 hc4 hc5 hc6 hc7 hw0 hw1 h3 h4 h8 hls hkind;obtain⟨t0,t1⟩:=htb;have hways:kind=1\/kind=2\/(kind=3/\(fk=1\/fk=2\/fk=3))\/(kind=4/\(fk=1\/fk=2))\/kind=5\/kind=6\/kind=7\/kind=8:=by
  by_cases k3:kind=3
  .have:=h3 k3;omega
  .by_cases k4:kind=4
   .have:=h4 k4;omega
   .omega
 have Hways:=Ya hways;clear h3 h4 hkind hways;go_enter Tryz.func161,Tryz.ntmps161
 go_wp2_with fail
 go_region
 as_aux_lemma =>
  go_wp2_with fail
  refine(Znv _ _ _ _ _ _ _ _ _).mono ?_;rintro e w2 ⟨rfl,hb2⟩;have hb1:Below w.heap.size w w2:=((Yh _ _).alloc (Yb _) _).drew.trans (hb2.mono (by simp));have hz1:w.heap.size<w2.heap.size:=by have:=hb2.size;simp at this;omega
  have hX:∀(j:Nat)(v:Value),(#[Yr .i64 kind,.int .i64 op,.int .i64 d,.int .i64 a,.int .i64 b',.int .i64 imm,.string lab,.int .u32 wd])[j]?=some v->w2.cell? ⟨w.heap.size,j,none⟩=some v:=by
   intro j v hv;rw[hb2.cell (p:=⟨_,j,none⟩) (by simp),<- hv];exact Zau _ _ _ _
  have hX0:=hX 0 (.int .i64 kind) rfl;have hX1:=hX 1 (.int .i64 op) rfl;have hX2:=hX 2 (.int .i64 d) rfl;have hX3:=hX 3 (.int .i64 a) rfl;have hX4:=hX 4 (.int .i64 b') rfl;have hX5:=hX 5 (.int .i64 imm) rfl;have hX6:=hX 6 (.string lab) rfl;have hX7:=hX 7 (.int .u32 wd) rfl;have hW2:=h.below hb1;have hzz:=hb1.size;clear hX k0 k1 k2 k3 k4 l1 l2 l3 l4 hcF hfF hcA hc0 hc1 hc2 hc3 hc4 hc5 hc6 hc7 h hi;rcases Hways.out with rfl|rfl|⟨rfl,k⟩|⟨rfl,k⟩|rfl|rfl|rfl|rfl
  .as_aux_lemma =>
    have hn:S.named ⟨1,⟨op,d,a,b',imm⟩,lab,wd⟩=false:=by simp[S.named]
    have h0:=hto0 hn;subst h0;rw[hn];clear hn hnam hto0 h8;go_wp2_with fail
    refine(asm_word _ _ _ _ _ _).mono ?_;rintro e w3 ⟨rfl,hb3⟩;go_wp2_with fail
    go_ret
    rw[Hwat.out];exact Zeu (by simp[S.wordsOf]) (hb1.trans (hb3.mono hzz)) (by simp[S.wordsOf]) (by simp[S.wordsOf])
  .as_aux_lemma =>
    have hn:S.named ⟨2,⟨op,d,a,b',imm⟩,lab,wd⟩=false:=by simp[S.named]
    have h0:=hto0 hn;subst h0;rw[hn];clear hn hnam hto0 h8;go_wp2_with fail
    go_ret
    rw[Hwat.out];refine⟨_,rfl,?_,hb1⟩
    simpa[S.wordsOf] using Yak _ _ _ _
  .as_aux_lemma =>
    have hn:S.named ⟨3,⟨op,d,a,b',imm⟩,lab,wd⟩=true:=by simp[S.named]
    obtain⟨j,hj1,hj2,hj3⟩:=hnam hn;have Hj1:=Ya hj1;have Hj3:=Ya hj3;rw[hn];clear hn hnam hto0 h8 hj1 hj3;go_wp2_with fail
    refine(Zbh _ hW2 lab hls j Hj1.out hj2 hl tg Hj3.out).mono ?_;rintro e w3 ⟨rfl,hb3⟩;have hbw3:=hb1.trans (hb3.mono hzz);have hz3:=hb3.size;obtain⟨hq1,hq2⟩:=Zcr hb3;rcases k with rfl|rfl|rfl
    .go_wp2_with fail
     refine(asm_word _ _ _ _ _ _).mono ?_;rintro e w4 ⟨rfl,hb4⟩;go_wp2_with fail
     go_ret
     rw[Hwat.out];exact Zeu (by simp[S.wordsOf]) ((hbw3.alloc (by omega) _).trans (hb4.mono (by simp;omega))) (by simp[S.wordsOf]) (by simp[S.wordsOf])
    .go_wp2_with (go_at_call 197;refine(asm_Turned _ _).mono ?_;rintro e w' ⟨rfl,rfl⟩)
     refine(asm_word _ _ _ _ _ _).mono ?_;rintro e w4 ⟨rfl,hb4⟩;have hb34:Below w.heap.size w w4:=(hbw3.alloc (by omega) _).trans (hb4.mono (by simp;omega));have hz4:=hb34.size;go_wp2_with fail
     refine(Znz _ _ _ _ t0 t1 (by omega) (by omega)).mono ?_;rintro e w5 ⟨v,rfl,ho,hb5⟩;have hb45:Below w4.heap.size w4 w5:=((Yh _ _).alloc (Yb _) _).trans (hb5.mono (by simp));have hol:=Ybs (base:=w.heap.size) (size:=1) (e:=37) w4 #[.int .u32 (S.wordOf ⟨S.turned op,0,a,b',1⟩)] 1 hz4 (by simp[maxLen]) rfl;have hol5:=Zd hol hb5;have hbw5:=hb34.trans (hb45.mono hz4);have hz5:=hbw5.size;obtain⟨Aw,cw,rfl⟩:=Zb ho;have hrd:=Reads.of_own ho;have hAw:Aw=none->1=0:=Zct ho;go_wp2_with (at_builtin;refine Zb2 rfl (.tmp 76) (.tmp 82) _ rfl w.heap.size 37 Zc8 Tryz.underlying51 rfl _ _ _ rfl hol5 _ Aw 1 cw _ rfl (by simp) hAw hrd (by simp[Y6]) (by simp[maxLen]) (by simp) (by omega) ?_;intro vo' w6 ho6 hg6 hb6 hat6)
     go_ret
     rw[Hwat.out];refine⟨_,rfl,?_,hbw5.trans hb6⟩;have e:tg-(ai+1)-1=tg-ai-2:=by omega
     rw[e] at ho6
     simpa[S.wordsOf] using ho6
    .go_wp2_with (go_at_call 197;refine(asm_Turned _ _).mono ?_;rintro e w' ⟨rfl,rfl⟩)
     refine(asm_word _ _ _ _ _ _).mono ?_;rintro e w4 ⟨rfl,hb4⟩;have hb34:Below w.heap.size w w4:=(hbw3.alloc (by omega) _).trans (hb4.mono (by simp;omega));have hz4:=hb34.size;go_wp2_with fail
     refine(Zn0 _ _ _ _ t0 t1).mono ?_;rintro e w5 ⟨v,rfl,ho,hb5⟩;have hb45:Below w4.heap.size w4 w5:=((Yh _ _).alloc (Yb _) _).trans (hb5.mono (by simp));have hol:=Ybs (base:=w.heap.size) (size:=1) (e:=37) w4 #[.int .u32 (S.wordOf ⟨S.turned op,0,a,b',3⟩)] 1 hz4 (by simp[maxLen]) rfl;have hol5:=Zd hol hb5;have hbw5:=hb34.trans (hb45.mono hz4);have hz5:=hbw5.size;obtain⟨Aw,cw,rfl⟩:=Zb ho;have hrd:=Reads.of_own ho;have hAw:Aw=none->3=0:=Zct ho;go_wp2_with (at_builtin;refine Zb2 rfl (.tmp 76) (.tmp 82) _ rfl w.heap.size 37 Zc8 Tryz.underlying51 rfl _ _ _ rfl hol5 _ Aw 3 cw _ rfl (by simp) hAw hrd (by simp[Y6]) (by simp[maxLen]) (by simp) (by omega) ?_;intro vo' w6 ho6 hg6 hb6 hat6)
     go_ret
     rw[Hwat.out];refine⟨_,rfl,?_,hbw5.trans hb6⟩
     simpa[S.wordsOf] using ho6
  .as_aux_lemma =>
    have hn:S.named ⟨4,⟨op,d,a,b',imm⟩,lab,wd⟩=true:=by simp[S.named]
    obtain⟨j,hj1,hj2,hj3⟩:=hnam hn;have Hj1:=Ya hj1;have Hj3:=Ya hj3;rw[hn];clear hn hnam hto0 h8 hj1 hj3;go_wp2_with fail
    refine(Zbh _ hW2 lab hls j Hj1.out hj2 hl tg Hj3.out).mono ?_;rintro e w3 ⟨rfl,hb3⟩;have hbw3:=hb1.trans (hb3.mono hzz);have hz3:=hb3.size;obtain⟨hq1,hq2⟩:=Zcr hb3;rcases k with rfl|rfl
    .go_wp2_with fail
     refine(Znz _ _ _ _ t0 t1 (by omega) (by omega)).mono ?_;rintro e w4 ⟨v,rfl,ho,hb4⟩;go_wp2_with fail
     go_ret
     rw[Hwat.out];refine⟨_,rfl,?_,hbw3.trans (hb4.mono (by omega))⟩;exact Z5 (by simpa[S.wordsOf] using ho) (by omega)
    .go_wp2_with fail
     refine(Zn0 _ _ _ _ t0 t1).mono ?_;rintro e w4 ⟨v,rfl,ho,hb4⟩;go_wp2_with fail
     go_ret
     rw[Hwat.out];refine⟨_,rfl,?_,hbw3.trans (hb4.mono (by omega))⟩;exact Z5 (by simpa[S.wordsOf] using ho) (by omega)
  .as_aux_lemma =>
    have hn:S.named ⟨5,⟨op,d,a,b',imm⟩,lab,wd⟩=true:=by simp[S.named]
    obtain⟨j,hj1,hj2,hj3⟩:=hnam hn;have Hj1:=Ya hj1;have Hj3:=Ya hj3;rw[hn];clear hn hnam hto0 h8 hj1 hj3;go_wp2_with fail
    refine(Zbh _ hW2 lab hls j Hj1.out hj2 hl tg Hj3.out).mono ?_;rintro e w3 ⟨rfl,hb3⟩;have hbw3:=hb1.trans (hb3.mono hzz);have hz3:=hb3.size;obtain⟨hq1,hq2⟩:=Zcr hb3;go_wp2_with fail
    refine(Zvn _ _ _ (by omega) (by omega)).mono ?_;rintro e w4 ⟨v,rfl,ho,hb4⟩;go_wp2_with fail
    go_ret
    rw[Hwat.out];refine⟨_,rfl,?_,hbw3.trans (hb4.mono (by omega))⟩;exact Z5 (by simpa[S.wordsOf] using ho) (by omega)
  .as_aux_lemma =>
    have hn:S.named ⟨6,⟨op,d,a,b',imm⟩,lab,wd⟩=false:=by simp[S.named]
    have h0:=hto0 hn;subst h0;rw[hn];clear hn hnam hto0 h8;go_wp2_with fail
    go_ret
    rw[Hwat.out];exact Zeu (by simp[S.wordsOf]) hb1 (by simp[S.wordsOf]) (by simp[S.wordsOf])
  .as_aux_lemma =>
    have hn:S.named ⟨7,⟨op,d,a,b',imm⟩,lab,wd⟩=true:=by simp[S.named]
    obtain⟨j,hj1,hj2,hj3⟩:=hnam hn;have Hj1:=Ya hj1;have Hj3:=Ya hj3;rw[hn];clear hn hnam hto0 h8 hj1 hj3;go_wp2_with fail
    refine(Zbh _ hW2 lab hls j Hj1.out hj2 hl tg Hj3.out).mono ?_;rintro e w3 ⟨rfl,hb3⟩;have hbw3:=hb1.trans (hb3.mono hzz);have hz3:=hb3.size;obtain⟨hq1,hq2⟩:=Zcr hb3;go_wp2_with fail
    go_ret
    rw[Hwat.out];exact Zeu (by simp[S.wordsOf]) hbw3 (by simp[S.wordsOf,Int.mul_comm tg 4]) (by simp[S.wordsOf])
  .as_aux_lemma =>
    have hn:S.named ⟨8,⟨op,d,a,b',imm⟩,lab,wd⟩=false:=by simp[S.named]
    have h0:=hto0 hn;subst h0;rw[hn];have hwd:=h8 rfl;clear hn hnam hto0 h8;obtain⟨n,rfl⟩:=Int.eq_ofNat_of_zero_le hw0;go_wp2_with (refine Znh rfl (.tmp 122) (.tmp 122) _ rfl w.heap.size 37 Zc8 Tryz.underlying51 rfl .u32 .u32 _ _ n rfl rfl rfl rfl (by omega) (by simp only[maxLen];omega) hzz ?_;intro w3 ho3 hb3)
    go_ret
    rw[Hwat.out];refine⟨_,rfl,?_,hb1.trans (hb3.mono hzz)⟩
    simpa[S.wordsOf] using ho3
theorem Zsm:(Tryz.prog.info? 139).map (λ i=>(i.zero,i.size,i.bytes))=some (some (.agg #[.string ByteArray.empty,.int .i64 0]),2,24):=by kernel_rfl
def Zaj (p:ByteArray×Int):List Value:=[.string p.1,.int .i64 p.2]
def Zvp (w:World)(xs:List S.Item)(base:Int)(e:Ending)(w':World):Prop :=
 ∃vo vp r F,e=.returned (.tuple #[vo,vp,.int .i64 r])/\S.FormsRes xs base r F /\
  w'.ownsRow w.heap.size 37 1 vo (if r=0 then S.outTo xs F base xs.length else []).length ((if r=0 then S.outTo xs F base xs.length else []).map (Yr .u32)) /\
  w'.ownsRow w.heap.size 139 2 vp (if r=0 then S.placesTo xs F base xs.length else []).length ((if r=0 then S.placesTo xs F base xs.length else []).flatMap Zaj) /\
  Below w.heap.size w w'
theorem Zn1 {w w':World}{k:Nat}{cs:Array Value}{t:TypeId}{z:Nat×Nat}(h:w.heap[k]?=some (.cells cs t z)){base':Nat}{e':TypeId}{size' n':Nat}{v':Value}{xs':List Value}(h':w.ownsRow base' e' size' v' n' xs')(hne:t≠e')
 (hg:w.grownBy w' v'.ownBlock):w'.heap[k]?=some (.cells cs t z):=by
 rw[hg.block k (Zg6 h) ?_,h];intro he;rcases h'.2 with⟨rfl,_⟩|⟨g',cap,cur,rfl,_,hk,_⟩
 .simp[Yao] at he
 .have:k=g':=by simpa[Yao] using he
  subst this;rw[h] at hk
  injection hk with hk
  injection hk with _ ht
  exact hne ht
theorem Work.other {w w':World}{B g gF gA m n:Nat}{A:Option Addr}{c:Nat}{xs:List S.Item}{base:Int}{F T:List Int}{f:ByteArray->Option Int}(h:Work w B g gF gA m n A c xs base F T f)
 {base':Nat} {e':TypeId} {size' n':Nat} {v':Value} {xs':List Value} (h':w.ownsRow base' e' size' v' n' xs') (hne:3≠e') (hne2:185≠e') (hg:w.grownBy w' v'.ownBlock) :
 Work w' B g gF gA m n A c xs base F T f:=by
 have hgne:some g≠v'.ownBlock:=by
  intro he;rcases h'.2 with⟨rfl,_⟩|⟨g',cap,cur,rfl,_,hk,_⟩
  .simp[Yao] at he
  .have:g=g':=by simpa[Yao] using he
   subst this;rw[h.blk] at hk
   injection hk with hk
   injection hk with _ ht
   exact hne2 ht
 have hmne:some m≠v'.ownBlock:=by
  intro he;obtain⟨D,⟨es,clock,hm,_⟩,_⟩:=h.labels;rcases h'.2 with⟨rfl,_⟩|⟨g',cap,cur,rfl,_,hk,_⟩
  .simp[Yao] at he
  .have:m=g':=by simpa[Yao] using he
   subst this;rw[hm] at hk
   cases hk
 exact⟨(hg.block g (Zg6 h.blk) hgne).trans h.blk,Zbu h.forms h' hne hg,Zbu h.ats h' hne hg,h.labels.kept hg hmne,h.hg,h.hF,h.hA,h.hm,h.ne1⟩
theorem Ziw (w:World){A:Option Addr}{c:Nat}{xs:List S.Item}{base:Int}(h:base<0\/67108864<base) :
 Calls Tryz.prog 160 #[.slice A xs.length c,.int .i64 base] w (Zfb w A c xs base):=by
 have hres:S.FormsRes xs base 2 []:=.inl ⟨by simp,.inl ⟨h,rfl⟩,rfl⟩;have Hres:=Ya hres;clear hres;by_cases h0:base<0
 .clear h
  go_enter Tryz.func160,Tryz.ntmps160
  go_wp2_with fail
  go_step3
  go_wp2_with fail
  rw[Exit.noGoto_ret]
  go_ret2
  exact⟨Yh _ _,.inl ⟨_,by simp,rfl,Hres.out⟩⟩
 .have h1:67108864<base:=by omega
  have h2:decide (base<0)=false:=by simpa using h0
  clear h;go_enter Tryz.func160,Tryz.ntmps160
  go_wp2_with fail
  go_step3
  go_wp2_with fail
  rw[Exit.noGoto_ret]
  go_ret2
  exact⟨Yh _ _,.inl ⟨_,by simp,rfl,Hres.out⟩⟩
theorem Zpz (w:World){A:Option Addr}{c:Nat}{xs:List S.Item}{base:Int}(hi:Items w w.heap.size A xs)(hl:xs.length<=1048576)
 (hlab:∀(k:Nat)(x:S.Item),xs[k]?=some x->x.label.size<=maxLen) :
 Calls Tryz.prog 160 #[.slice A xs.length c,.int .i64 base] w (Zfb w A c xs base):=by
 by_cases h:base<0\/67108864<base
 .exact Ziw w h
 .exact Zjt w hi (by omega) (by omega) hl hlab hi.words
theorem Zn2 (A:Option Addr)(c:Nat)(xs:List S.Item)(base:Int)(w:World)(hi:Items w w.heap.size A xs)(hl:xs.length<=1048576)(hlab:∀(k:Nat)(x:S.Item),xs[k]?=some x->x.label.size<=maxLen) :
 Calls Tryz.prog 105 #[.slice A xs.length c,.int .i64 base] w (Zvp w xs base):=by
 have hw:=Ya hi.words;have Hlab:=Ya hlab;clear hlab;go_enter Tryz.func105,Tryz.ntmps105
 go_wp2_with fail
 refine(Zpz w hi hl Hlab.out).mono ?_;rintro e w1 ⟨hb1,⟨r,hr,rfl,hres⟩|⟨g,gF,gA,m,n,F,hn,rfl,hres,hWk⟩⟩
 .have hd:=Zcm hr
  have Hr:=Ya hr;clear hr;go_wp2_with fail
  go_ret3
  refine⟨_,_,r,[],rfl,hres,?_,?_,hb1⟩
  .rw[if_neg Hr.out];exact Yak _ _ _ _
  .rw[if_neg Hr.out];exact Yak _ _ _ _
 .have hz1:=hb1.size
  have hfr:S.CheckRes xs base 0/\S.Inv xs base F/\S.Stable xs base F/\S.addr xs F base xs.length<=67108864:=by
   rcases hres with⟨h,_⟩|⟨_,h,_⟩|⟨h1,_,h3,h4,h5⟩
   .exact absurd rfl h
   .omega
   .exact⟨h1,h3,h4,h5⟩
  have Hres:=Ya hres;obtain⟨hchk,hinv,hsta,htot⟩:=hfr;have Hchk:=Ya hchk;have hk:=Ya (Zcs (Zh4 hchk));obtain⟨hb0,hb26⟩:=Z0x hchk;have Hok:=Ya hinv.1;clear hres hchk hinv hsta;go_wp2_with fail
  go_loopw [4,5,21] (λ vo vp i wr=>∃k:Nat,k<=xs.length/\i=.int .i64 k/\wr.ownsRow w.heap.size 37 1 vo (S.outTo xs F base k).length ((S.outTo xs F base k).map (Yr .u32)) /\
   wr.ownsRow w.heap.size 139 2 vp (S.placesTo xs F base k).length ((S.placesTo xs F base k).flatMap Zaj) /\
   Work wr w.heap.size g gF gA m n A c xs base F (Zfq xs F base (xs.length+1)) (Ze5 xs)/\Below w.heap.size w wr) (λ _ _ i _=>xs.length-(intOf i).toNat)
  case atStart=>exact⟨0,by omega,rfl,Yak _ _ _ _,Yak _ _ _ _,hWk,hb1⟩
  case round =>
   obtain⟨k,hkl,rfl,hoo,hop,hWr,hbk⟩:=hrel;clear hWk;have hzk:=hbk.size;by_cases hlt:k<xs.length
   .obtain⟨b,off,x,rfl,hb,hx,hc0,hc1,hc2,hc3,hc4,hc5,hc6,hc7,hw0,hw1⟩:=(hi.below hbk).at_ hlt
    have hbr:b<wr.heap.size:=Yy hb hzk;have hkx:=hk.out x (Y1 hx);have hle1:=Zd6 (base:=base) Hok.out hw.out (i:=k) (n:=xs.length) hkl;have hle2:=Zd6 (base:=base) Hok.out hw.out (i:=k+1) (n:=xs.length) hlt;have hge:=(Zdh (base:=base) Hok.out hw.out k).1;have hout:=Ya (Zbk (base:=base) Hok.out hk.out hw.out k);have hpat:S.placeAt xs F base k=if x.kind=2 then [(x.label,S.addr xs F base k)] else []:=by simp[S.placeAt,hx]
    have hol:((S.outTo xs F base k).length:Int)<=67108864:=by rw[hout.out];omega
    have hwl:(S.wordsAt xs F base k).length<=67108864:=by
     have h9:=Za5 (base:=base) Hok.out hk.out hw.out k;have hsa:S.addr xs F base (k+1)=S.addr xs F base k+S.sizeAt xs F k:=rfl;omega
    have Hpat:=Ya hpat;have hpl:=Zce xs F base k;have hnx:=Ya (Zml (x:=x) Hchk.out hx);have Hx:=Ya hx;have hls:=Hlab.out k x hx;clear hpat hx;obtain⟨kind,⟨op,d,a,b',imm⟩,lab,wd⟩:=x;simp only at hc0 hc1 hc2 hc3 hc4 hc5 hc6 hc7 hw0 hw1 hkx hls;generalize hak:S.addr xs F base k=ak at *;have Hak:=Ya hak;clear hak;have hbX:Below wr.heap.size wr (wr.alloc (.cells #[.int .i64 kind,.int .i64 op,.int .i64 d,.int .i64 a,.int .i64 b',.int .i64 imm,.string lab,.int .u32 wd] 74)):=(Yh _ _).alloc (Yb _) _;have hWX:=hWr.below hbX;have hoX:=Zd hoo hbX;have hpX:=Zd hop hbX;have hbwX:=hbk.trans (hbX.mono hzk);have hXb:(wr.alloc (.cells #[.int .i64 kind,.int .i64 op,.int .i64 d,.int .i64 a,.int .i64 b',.int .i64 imm,.string lab,.int .u32 wd] 74)).heap[wr.heap.size]?=some (.cells #[.int .i64 kind,.int .i64 op,.int .i64 d,.int .i64 a,.int .i64 b',.int .i64 imm,.string lab,.int .u32 wd] 74 (0,0)):=heap_alloc_new _ _;have HXb:=Ya hXb;clear hXb;have hX:∀(j:Nat)(v:Value),(#[Yr .i64 kind,.int .i64 op,.int .i64 d,.int .i64 a,.int .i64 b',.int .i64 imm,.string lab,.int .u32 wd])[j]?=some v->(wr.alloc (.cells #[.int .i64 kind,.int .i64 op,.int .i64 d,.int .i64 a,.int .i64 b',.int .i64 imm,.string lab,.int .u32 wd] 74)).cell? ⟨wr.heap.size,j,none⟩=some v:=by
     intro j v hv;rw[<- hv];exact Zau _ _ _ _
    have hX0:=hX 0 (.int .i64 kind) rfl;have hX6:=hX 6 (.string lab) rfl;have hzX:wr.heap.size<(wr.alloc (.cells #[.int .i64 kind,.int .i64 op,.int .i64 d,.int .i64 a,.int .i64 b',.int .i64 imm,.string lab,.int .u32 wd] 74)).heap.size:=by simp
    clear hX hWr hoo hop hbX;go_wp2_with fail
    generalize wr.alloc (.cells #[.int .i64 kind,.int .i64 op,.int .i64 d,.int .i64 a,.int .i64 b',.int .i64 imm,.string lab,.int .u32 wd] 74)=wX at *;have hzX2:=hbwX.size;refine(Zvo wX hWX (hi.below hbwX) hzX2 k _ Hx.out Hok.out hnx.out hls hl hb0 htot hkx hw.out).mono ?_;rintro e w2 ⟨vw,rfl,how,hb2⟩;obtain⟨Aw,cw,rfl⟩:=Zb how;have hz2:=hb2.size;have hbw2:=hbwX.trans (hb2.mono hzX2);have ho2:=Zd hoX hb2;have hp2:=Zd hpX hb2;have hW2:=hWX.below hb2;have hrd:=Reads.of_own how;have hAw:Aw=none->(S.wordsAt xs F base k).length=0:=Zct how;have hY:∀j:Nat,w2.cell? ⟨wr.heap.size,j,none⟩=wX.cell? ⟨wr.heap.size,j,none⟩:=λ j=>hb2.cell (p:=⟨_,j,none⟩) hzX
    rw[<- hY] at hX0 hX6;have hzr2:wr.heap.size<w2.heap.size:=by omega
    have HXc:=Ya ((hb2.block _ hzX).trans HXb.out);clear hY hWX hoX hpX hnx HXb;by_cases c2:kind=2
    .have d2:=Zvf c2
     have C2:=Ya c2;clear c2;go_wp2_with (at_builtin;refine Zb2 rfl (.tmp 26) (.tmp 29) _ rfl w.heap.size 37 Zc8 Tryz.underlying51 rfl _ _ _ rfl ho2 _ Aw _ cw ((S.wordsAt xs F base k).map (Yr .u32)) rfl (by simp) hAw hrd (by simp[Y6]) (by simp only[maxLen];omega) (by omega) (by omega) ?_;intro vo' w3 ho3 hg3 hb3 hat3;have hp3:=Zbu hp2 ho2 (by decide) hg3;have hW3:=hW2.other ho2 (by decide) (by decide) hg3;have hbw3:=hbw2.trans hb3;have hz3:=hg3.size;have hXd:=Zn1 HXc.out ho2 (by decide) hg3;have hX0':w3.cell? ⟨wr.heap.size,0,none⟩=some (.int .i64 kind):=Zfr hXd 0;have hX6':w3.cell? ⟨wr.heap.size,6,none⟩=some (.string lab):=Zfr hXd 6;clear hXd;obtain⟨p0,p1,p2,p3,p4⟩:=hW3.cells;obtain⟨q1,q2⟩:=hW3.at_ (k:=k) (by omega);rw[Zcb xs F base _ k (by omega),Hak.out] at q1;obtain⟨r1,r2,r3,r4⟩:=hW3.lts;have hzr3:wr.heap.size<w3.heap.size:=by omega)
     have hE:=Zu w3;refine Zbv 11 1 [0,1,2,3,4,5,6,7,8,9,10] (by kernel_rfl) (by kernel_rfl) (λ _ _ _ _ _ h=>h) ?_
     repeat (first
      | (refine Zis rfl ?_;go_big_quiet_step (fail)))
     refine wpQuiet_nil ?_;rintro _ ⟨⟨w4,hb4⟩,rfl⟩;simp only[List.drop_succ_cons,List.drop_zero];clear hE p0 p1 p2 p3 p4 q1 q2;have ho4:=Zd ho3 hb4;have hp4:=Zd hp3 hb4;have hW4:=hW3.below hb4;have hbw4:=hbw3.trans (hb4.mono (by omega));have hz4:=hbw4.size;go_wp2_with (at_builtin;refine Zt rfl (.tmp 34) (.tmp 45) _ rfl w.heap.size 139 Zsm Tryz.underlying84 rfl (by decide) #[.string lab,.int .i64 ak] _ _ _ rfl hp4 rfl rfl rfl (by simp[Y6]) (by simp only[maxLen];omega) (by omega) hz4 ?_;intro vp' w5 hp5 hg5 hb5 hat5)
     go_roundw
     case rel =>
      refine⟨k+1,by omega,by go_num,?_,?_,hW4.other hp4 (by decide) (by decide) hg5,hbw4.trans hb5⟩
      .rw[S.outTo,Yd,Yau]
       exact Zbu ho4 hp4 (by decide) hg5
      .have e:S.placeAt xs F base k=[(lab,ak)]:=by rw[Hpat.out];simp[C2.out]
       rw[S.placesTo,e,Yd,List.flatMap_append]
       simpa[Zaj] using hp5
     case measure=>simp[intOf];omega
    .have d2:=Zcm c2
     have C2:=Ya c2;clear c2;go_wp2_with (at_builtin;refine Zb2 rfl (.tmp 26) (.tmp 29) _ rfl w.heap.size 37 Zc8 Tryz.underlying51 rfl _ _ _ rfl ho2 _ Aw _ cw ((S.wordsAt xs F base k).map (Yr .u32)) rfl (by simp) hAw hrd (by simp[Y6]) (by simp only[maxLen];omega) (by omega) (by omega) ?_;intro vo' w3 ho3 hg3 hb3 hat3;have hp3:=Zbu hp2 ho2 (by decide) hg3;have hW3:=hW2.other ho2 (by decide) (by decide) hg3;have hbw3:=hbw2.trans hb3;have hz3:=hg3.size;have hXd:=Zn1 HXc.out ho2 (by decide) hg3;have hX0':w3.cell? ⟨wr.heap.size,0,none⟩=some (.int .i64 kind):=Zfr hXd 0;clear hXd)
     go_roundw
     case rel =>
      refine⟨k+1,by omega,by go_num,?_,?_,hW3,hbw3⟩
      .rw[S.outTo,Yd,Yau]
       exact ho3
      .have e:S.placeAt xs F base k=[]:=by rw[Hpat.out];simp[C2.out]
       rw[S.placesTo,e,List.append_nil];exact hp3
     case measure=>simp[intOf];omega
   .have hkn:k=xs.length:=by omega
    subst hkn;go_wp2_with fail
    go_ret3
    exact⟨_,_,0,F,rfl,Hres.out,hoo,hop,hbk⟩
theorem Zix {xs:List S.Item}{base:Int}{F:List Int}(h:S.FormsRes xs base 0 F)(hw:∀x∈xs,0<=x.word/\x.word<=4294967295):(S.outTo xs F base xs.length).length<=67108864:=by
 rcases h with⟨h,_⟩|⟨_,h,_⟩|⟨h1,_,h3,h4,h5⟩
 .exact absurd rfl h
 .omega
 .have h6:=Zbk (base:=base) h3.1 (Zcs (Zh4 h1)) hw xs.length
  have h7:0<=base:=by
   rcases h1 with⟨_,h⟩|⟨h,_⟩|⟨h,_⟩|⟨h,_⟩|⟨h,_⟩
   .omega
   all_goals exact h
  have h8:S.addr xs F base xs.length<=67108864:=h5;omega
theorem Zn3 {w:World}{B:Nat}{A:Option Addr}{os:List S.Obj}(hi:Objs w B A os):∀x∈S.joined os,0<=x.word/\x.word<=4294967295:=by
 intro x hx;obtain⟨o,ho,hx⟩:=List.mem_flatMap.1 hx;obtain⟨y,hy,rfl⟩:=Ycw.1 hx;obtain⟨k,hk,rfl⟩:=Ych ho;obtain⟨b,off,o',_,_,h1,_,⟨A',c',_,h2⟩,_,_⟩:=hi.at_ hk;rw[Yf hk] at h1
 cases h1
 exact h2.words y hy
theorem Zl1 {os:List S.Obj}(hsz:∀(k:Nat)(o:S.Obj),os[k]?=some o->∀x∈o.items,o.name.size+x.label.size<=9223372036854775807):∀x∈S.joined os,x.label.size<=maxLen:=by
 intro x hx;obtain⟨o,ho,hx⟩:=List.mem_flatMap.1 hx;obtain⟨y,hy,rfl⟩:=Ycw.1 hx;obtain⟨k,hk,rfl⟩:=Ych ho;have h1:=hsz k _ (Yf hk) y hy;have h2:=Zr3 os[k].name y.label
 show(S.owned os[k].name y.label).size<=maxLen
 unfold maxLen;omega
def Zvq (os:List S.Obj)(base r:Int)(L:List Int)(P:List (ByteArray×Int)):Prop :=
 (r≠0/\S.NamesRes os r/\L=[]/\P=[]) \/
 (S.NamesRes os 0/\∃F,S.FormsRes (S.joined os) base r F/\L=(if r=0 then S.outTo (S.joined os) F base (S.joined os).length else [])/\P=(if r=0 then S.placesTo (S.joined os) F base (S.joined os).length else []))
def Z4q (os:List S.Obj)(base:Int)(w:World)(e:Ending)(w':World):Prop :=
 ∃vo vp r L P,e=.returned (.tuple #[.agg #[vo,vp],.int .i64 r])/\Zvq os base r L P /\
  w'.ownsRow w.heap.size 37 1 vo L.length (L.map (Yr .u32))/\w'.ownsRow w.heap.size 139 2 vp P.length (P.flatMap Zaj)/\Below w.heap.size w w'
theorem Zvr (A:Option Addr)(c:Nat)(os:List S.Obj)(base:Int)(w:World)(hi:Objs w w.heap.size A os)(hl:os.length<=1048576)(ht:(S.joined os).length<=1048576)
 (hsz:∀(k:Nat)(o:S.Obj),os[k]?=some o->∀x∈o.items,o.name.size+x.label.size<=9223372036854775807) :
 Calls Tryz.prog 36 #[.slice A os.length c,.int .i64 base] w (Z4q os base w):=by
 have Hsz:=Ya hsz;clear hsz;go_enter Tryz.func36,Tryz.ntmps36
 go_wp2_with fail
 refine(Zny _ _ _ _ ((hi.below ((Yh _ _).alloc (Yb _) _)).more (by simp)) hl).mono ?_;rintro e w1 ⟨r0,rfl,hn0,hb1⟩;have Hn0:=Ya hn0;clear hn0;obtain⟨hc1,hc2⟩:=Zcr hb1;have hz1:=hb1.size;simp at hz1;have g0:w.heap.size<w1.heap.size:=by omega
 have hb01:=Below.trans ((Yh w.heap.size w).alloc (Yb _) _) (hb1.mono (by simp));have Hb01:=Ya hb01;clear hb01 hb1;by_cases hr:r0=0
 .subst hr
  go_wp2_with fail
  refine(Zo4 _ _ _ _ ((hi.below Hb01.out).more (by omega)) hl ht Hsz.out).mono ?_;rintro e w2 ⟨v2,rfl,ho2,hb2⟩;obtain⟨A2,c2,rfl⟩:=Zb ho2;have hww:∀x∈S.joined os,0<=x.word/\x.word<=4294967295:=Zn3 hi;have hlb:∀(k:Nat)(x:S.Item),(S.joined os)[k]?=some x->x.label.size<=maxLen:=λ k x hx=>Zl1 Hsz.out x (Y1 hx)
  have hz2:=hb2.size;have hb02:=Hb01.out.trans (hb2.mono (by omega));have Hb02:=Ya hb02;go_wp2_with fail
  refine(Zn2 _ _ _ _ _ (Items.of_own ho2 hww) ht hlb).mono ?_;rintro e w3 ⟨vo,vp,r,F,rfl,hres,ho,hp,hb3⟩;have hz3:=hb3.size;have hb03:=hb02.trans (hb3.mono (by omega));have Hb03:=Ya hb03;obtain⟨Ao,co,rfl⟩:=Zb ho;obtain⟨Ap,cp,rfl⟩:=Zb hp;have Hres:=Ya hres;have hlt2:w.heap.size<w2.heap.size:=by omega
  have Ho:=Ya ho;have Hp:=Ya hp;have hcc:∀o,w3.cell? ⟨w.heap.size,o,none⟩=w1.cell? ⟨w.heap.size,o,none⟩:=λ o =>
   (hb3.cell (p:=⟨w.heap.size,o,none⟩) (show w.heap.size<w2.heap.size by omega)).trans (hb2.cell (p:=⟨w.heap.size,o,none⟩) g0)
  have hff:∀o,w3.frozen? ⟨w.heap.size,o,none⟩=w1.frozen? ⟨w.heap.size,o,none⟩:=λ o =>
   (hb3.frozen (p:=⟨w.heap.size,o,none⟩) (show w.heap.size<w2.heap.size by omega)).trans (hb2.frozen (p:=⟨w.heap.size,o,none⟩) g0)
  have hbd:r=0->(S.outTo (S.joined os) F base (S.joined os).length).length<=67108864:=λ h=>by
   subst h;exact Zix hres hww
  have Hbd:=Ya hbd;clear ho2 hww hlb hb2 hb02 hres ho hp hb3 hb03 hbd;by_cases hr:r=0
  .subst hr
   have hlen:=Hbd.out rfl;have ho':=Ho.out;have hp':=Hp.out;simp only[if_true] at ho' hp';have Ho2:=Ya ho';have Hp2:=Ya hp';clear ho' hp';simp only[if_true];go_wp2_with fail
   refine bodyPost_ret (v:=.tuple #[.agg #[.slice Ao (S.outTo (S.joined os) F base (S.joined os).length).length co,.slice Ap (S.placesTo (S.joined os) F base (S.joined os).length).length cp],.int .i64 0]) (by simp[results,Tryz.results36,go_sem,hc1,hcc,g0]) rfl ⟨_,_,0,_,_,rfl,.inr ⟨Hn0.out,F,Hres.out,rfl,rfl⟩,?_,?_,?_⟩
   .exact Z5 (ownsRow_setCell_below (ownsRow_setCell_below Ho2.out (a:=⟨w.heap.size,0,none⟩) hlt2 _) (a:=⟨w.heap.size,1,none⟩) hlt2 _) (Ya8 hlt2)
   .exact Z5 (ownsRow_setCell_below (ownsRow_setCell_below Hp2.out (a:=⟨w.heap.size,0,none⟩) hlt2 _) (a:=⟨w.heap.size,1,none⟩) hlt2 _) (Ya8 hlt2)
   .exact(Hb03.out.setCell (p:=⟨w.heap.size,0,none⟩) (Yb _) _).setCell (p:=⟨w.heap.size,1,none⟩) (Yb _) _
  .have hd:=Zcm hr
   have Hr:=Ya hr;clear hr;rw[if_neg Hr.out,if_neg Hr.out];go_wp2_with fail
   refine bodyPost_ret (v:=.tuple #[.agg #[.slice none 0 0,.slice none 0 0],.int .i64 r]) (by simp[results,Tryz.results36,go_sem,hc1,hcc,g0]) rfl ⟨_,_,r,[],[],rfl,.inr ⟨Hn0.out,F,Hres.out,by rw[if_neg Hr.out],by rw[if_neg Hr.out]⟩,Yak _ _ _ _,Yak _ _ _ _,?_⟩;exact(Hb03.out.setCell (p:=⟨w.heap.size,0,none⟩) (Yb _) _).setCell (p:=⟨w.heap.size,1,none⟩) (Yb _) _
 .have hd:=Zcm hr
  have Hr:=Ya hr;clear hr;go_wp2_with fail
  refine bodyPost_ret (v:=.tuple #[.agg #[.slice none 0 0,.slice none 0 0],.int .i64 r0]) (by simp[results,Tryz.results36,go_sem,hc1,g0]) rfl ⟨_,_,r0,[],[],rfl,.inl ⟨Hr.out,Hn0.out,rfl,rfl⟩,Yak _ _ _ _,Yak _ _ _ _,?_⟩;exact(Hb01.out.setCell (p:=⟨w.heap.size,0,none⟩) (Yb _) _).setCell (p:=⟨w.heap.size,1,none⟩) (Yb _) _
section
structure Only (F:Nat->Prop)(w w':World):Prop where
 os:w'.os=w.os
 tape:w'.tape=w.tape
 output:w'.output=w.output
 size:w.heap.size<=w'.heap.size
 block:∀k,k<w.heap.size->¬F k->w'.heap[k]?=w.heap[k]?
theorem Only.refl (F:Nat->Prop)(w:World):Only F w w:=⟨rfl,rfl,rfl,Yb _,λ _ _ _=>rfl⟩
theorem Only.trans {F G:Nat->Prop}{a b c:World}(h:Only F a b)(k:Only G b c)(hG:∀i,i<a.heap.size->G i->F i):Only F a c :=
 ⟨k.os.trans h.os,k.tape.trans h.tape,k.output.trans h.output,Nat.le_trans h.size k.size,λ i hi hn=>(k.block i (Yy hi h.size) (λ hg=>hn (hG i hi hg))).trans (h.block i hi hn)⟩
theorem Only.of_below {F:Nat->Prop}{w w':World}(h:Below w.heap.size w w'):Only F w w':=⟨h.os,h.tape,h.output,h.size,λ k hk _=>h.block k hk⟩
theorem Only.setCell {F:Nat->Prop}(w:World){p:Addr}(hp:F p.block)(u:Value):Only F w (w.setCell p u) :=
 ⟨rfl,rfl,rfl,by simp[Ybt],λ k _ hn=>Ybk _ _ _ _ (λ e=>hn (e ▸ hp))⟩
theorem Only.of_grown {F:Nat->Prop}{w w':World}{row:Option Nat}(hg:w.grownBy w' row)(hr:∀k,row=some k->F k):Only F w w' :=
 ⟨hg.os,hg.tape,hg.output,hg.size,λ k hk hn=>hg.block k hk (λ e=>hn (hr k e.symm))⟩
theorem Only.below {F:Nat->Prop}{w w':World}{B:Nat}(h:Only F w w')(hB:B<=w.heap.size)(hF:∀k,F k->B<=k):Below B w w' :=
 ⟨h.os,h.tape,h.output,h.size,λ k hk=>h.block k (by omega) (λ hf=>by have:=hF k hf;omega)⟩
theorem Only.weaken {F G:Nat->Prop}{w w':World}(h:Only F w w')(hFG:∀k,k<w.heap.size->F k->G k):Only G w w' :=
 ⟨h.os,h.tape,h.output,h.size,λ k hk hn=>h.block k hk (λ hf=>hn (hFG k hk hf))⟩
theorem Zaw {w w':World}{base:Nat}{e:TypeId}{size:Nat}{v:Value}{n:Nat}{xs:List Value}(h:w.ownsRow base e size v n xs)(hb:∀k,v.ownBlock=some k->w'.heap[k]?=w.heap[k]?):w'.ownsRow base e size v n xs:=by
 refine⟨h.1,?_⟩;rcases h.2 with h2|⟨g,cap,cur,rfl,h3,h4,h5⟩
 .exact .inl h2
 .exact .inr ⟨g,cap,cur,rfl,h3,by rw[hb g rfl];exact h4,h5⟩
def Ze9 (m:S.Mach)(vm:Value)(A:Option Addr)(l c rd:Nat)(vo:Value):List Value :=
 m.reg.map (Yr .u32)++[vm,.int .u32 m.place,.slice A l c,.int .i64 rd,vo,.int .i64 m.state,.int .u32 m.code,.int .i64 m.trap,.int .i64 m.steps]
structure MAt (w:World)(B p:Nat)(vm vo:Value)(A:Option Addr)(c:Nat)(inp:List Int)(rd:Nat)(m:S.Mach):Prop where
 ok:m.Ok
 low:B<=p
 blk:∃cs,w.heap[p]?=some (.cells cs 97 (0,0))/\cs.toList=Ze9 m vm A inp.length c rd vo
 mem:w.ownsRow B 37 1 vm m.mem.length (m.mem.map (Yr .u32))
 out:w.ownsRow B 5 1 vo m.out.length (m.out.map (Yr .u8))
 rin:Reads w w.heap.size A (inp.map (Yr .u8))
 left:m.input=inp.drop rd
 rdle:rd<=inp.length
 inl:inp.length<=4611686018427387904
 low0:m.mem.length<=4611686018427387904
 la:∀b o s,A=some ⟨b,o,s⟩->b<w.heap.size
 d1:∀b o s,A=some ⟨b,o,s⟩->b≠p/\vm.ownBlock≠some b/\vo.ownBlock≠some b
 d2:vm.ownBlock≠some p/\vo.ownBlock≠some p
def Za2 (p:Nat)(vm vo:Value)(k:Nat):Prop:=k=p\/vm.ownBlock=some k\/vo.ownBlock=some k
theorem Reads.same {w w':World}{A:Option Addr}{xs:List Value}(h:Reads w w.heap.size A xs)(hz:w.heap.size<=w'.heap.size)(hb:∀b o s,A=some ⟨b,o,s⟩->w'.heap[b]?=w.heap[b]?):Reads w' w'.heap.size A xs:=λ hp=>by
 obtain⟨b,off,e,hbB,hc⟩:=h hp;exact⟨b,off,e,by omega,λ i x hx=>(World.cell?_of_block (w:=w) (a:=⟨b,off+i,none⟩) (hb b off none e)).trans (hc i x hx)⟩
section
variable {w w':World}{B p:Nat}{vm vo:Value}{A:Option Addr}{c:Nat}{inp:List Int}{rd:Nat}{m:S.Mach}
theorem MAt.cell (h:MAt w B p vm vo A c inp rd m)(k:Nat):w.cell? ⟨p,k,none⟩=(Ze9 m vm A inp.length c rd vo)[k]?:=by
 obtain⟨cs,h1,h2⟩:=h.blk;rw[cell_of_row w p k cs _ (0,0) h1,<- h2];simp
theorem MAt.fz (h:MAt w B p vm vo A c inp rd m)(k:Nat):w.frozen? ⟨p,k,none⟩=false:=by
 obtain⟨cs,h1,h2⟩:=h.blk;exact frozen_of_row w p k cs _ h1
theorem MAt.lt (h:MAt w B p vm vo A c inp rd m):p<w.heap.size:=by
 obtain⟨cs,h1,h2⟩:=h.blk;exact(Yv.1 h1).1
theorem Zsn (h:m.Ok)(l:Nat){k:Nat}(hk:k<32):(Ze9 m vm A l c rd vo)[k]?=some (.int .u32 (m.reg.getD k 0)):=by
 unfold Ze9;rw[List.getElem?_append_left (by simp[h.regs];exact hk),Y3];have:k<m.reg.length:=by rw[h.regs];exact hk
 simp[this]
theorem Zvs (h:m.Ok)(l:Nat)(k:Nat):(Ze9 m vm A l c rd vo)[32+k]?=([vm,.int .u32 m.place,.slice A l c,.int .i64 rd,vo,.int .i64 m.state,.int .u32 m.code,.int .i64 m.trap,.int .i64 m.steps]:List Value)[k]?:=by
 unfold Ze9;rw[List.getElem?_append_right (by simp[h.regs])];simp[h.regs]
theorem MAt.reg (h:MAt w B p vm vo A c inp rd m){k:Nat}(hk:k<32):w.cell? ⟨p,k,none⟩=some (.int .u32 (m.reg.getD k 0)):=(h.cell k).trans (Zsn h.ok _ hk)
theorem MAt.hi (h:MAt w B p vm vo A c inp rd m)(k:Nat):w.cell? ⟨p,32+k,none⟩=([vm,.int .u32 m.place,.slice A inp.length c,.int .i64 rd,vo,.int .i64 m.state,.int .u32 m.code,.int .i64 m.trap,.int .i64 m.steps]:List Value)[k]?:=(h.cell _).trans (Zvs h.ok _ k)
theorem MAt.cells (h:MAt w B p vm vo A c inp rd m):w.cell? ⟨p,32,none⟩=some vm/\w.cell? ⟨p,33,none⟩=some (.int .u32 m.place)/\w.cell? ⟨p,34,none⟩=some (.slice A inp.length c)/\w.cell? ⟨p,35,none⟩=some (.int .i64 rd) /\
 w.cell? ⟨p,36,none⟩=some vo/\w.cell? ⟨p,37,none⟩=some (.int .i64 m.state)/\w.cell? ⟨p,38,none⟩=some (.int .u32 m.code)/\w.cell? ⟨p,39,none⟩=some (.int .i64 m.trap)/\w.cell? ⟨p,40,none⟩=some (.int .i64 m.steps) :=
 ⟨h.hi 0,h.hi 1,h.hi 2,h.hi 3,h.hi 4,h.hi 5,h.hi 6,h.hi 7,h.hi 8⟩
theorem MAt.memv (h:MAt w B p vm vo A c inp rd m):∃g cap,vm=.slice (some ⟨g,0,none⟩) m.mem.length cap/\g<w.heap.size/\(∀i,i<m.mem.length->w.cell? ⟨g,i,none⟩=some (.int .u32 (m.mem.getD i 0)))/\∀i,w.frozen? ⟨g,i,none⟩=false:=by
 have hm:=h.ok.mem;rcases h.mem.2 with⟨_,h2⟩|⟨g,cap,cur,rfl,h3,h4,h5,h6,h7,h8⟩
 .omega
 .refine⟨g,cap,rfl,(Yv.1 h4).1,λ i hi=>?_,λ i=>h.mem.frozenAt i⟩
  rw[h.mem.cellAt i (by omega),Y3];simp[hi]
theorem MAt.keep (h:MAt w B p vm vo A c inp rd m)(hz:w.heap.size<=w'.heap.size)(hb:∀k,(Za2 p vm vo k\/∃o s,A=some ⟨k,o,s⟩)->w'.heap[k]?=w.heap[k]?):MAt w' B p vm vo A c inp rd m:=by
 refine⟨h.ok,h.low,?_,?_,?_,?_,h.left,h.rdle,h.inl,h.low0,λ b o s e=>Yy (h.la b o s e) hz,h.d1,h.d2⟩
 .obtain⟨cs,h1,h2⟩:=h.blk
  exact⟨cs,by rw[hb p (.inl (.inl rfl))];exact h1,h2⟩
 .exact Zaw h.mem λ k hk=>hb k (.inl (.inr (.inl hk)))
 .exact Zaw h.out λ k hk=>hb k (.inl (.inr (.inr hk)))
 .exact h.rin.same hz λ b o s e=>hb b (.inr ⟨o,s,e⟩)
theorem MAt.foot_lt (h:MAt w B p vm vo A c inp rd m){k:Nat}(hk:Za2 p vm vo k):B<=k/\k<w.heap.size:=by
 rcases hk with rfl|hk|hk
 .exact⟨h.low,h.lt⟩
 .exact h.mem.lt k hk
 .exact h.out.lt k hk
theorem MAt.below (h:MAt w B p vm vo A c inp rd m)(hb:Below w.heap.size w w'):MAt w' B p vm vo A c inp rd m:=by
 refine h.keep hb.size λ k hk=>hb.block k ?_
 rcases hk with hk|⟨o,s,e⟩
 .exact(h.foot_lt hk).2
 .exact h.la k o s e
theorem Zp0 (h:MAt w B p vm vo A c inp rd m):vm.ownBlock=none\/vm.ownBlock≠vo.ownBlock:=Zps h.mem h.out (by decide)
theorem MAt.mem_ne (h:MAt w B p vm vo A c inp rd m){k:Nat}(hk:vm.ownBlock=some k):k≠p/\vo.ownBlock≠some k:=by
 refine⟨λ e=>h.d2.1 (e ▸ hk),λ e=>?_⟩;rcases Zp0 h with h1|h1
 .rw[h1] at hk;cases hk
 .exact h1 (hk.trans e.symm)
theorem MAt.stored (h:MAt w B p vm vo A c inp rd m)(k:Nat)(u:Value){m':S.Mach}{rd':Nat}(hok:m'.Ok)(hmem:m'.mem=m.mem)(hout:m'.out=m.out)(hl:m'.input=inp.drop rd')(hr:rd'<=inp.length)
 (hc:Ze9 m' vm A inp.length c rd' vo=(Ze9 m vm A inp.length c rd vo).set k u):MAt (w.setCell ⟨p,k,none⟩ u) B p vm vo A c inp rd' m':=by
 have hsame:∀j,j≠p->(w.setCell ⟨p,k,none⟩ u).heap[j]?=w.heap[j]?:=λ j hj=>Ybk _ _ _ _ hj
 refine⟨hok,h.low,?_,?_,?_,?_,hl,hr,h.inl,by rw[hmem];exact h.low0,λ b o s e=>by have:=h.la b o s e;simpa[Ybt] using this,h.d1,h.d2⟩
 .obtain⟨cs,h1,h2⟩:=h.blk
  refine⟨cs.setIfInBounds k u,heap_setCell_same w p k cs _ u h1,?_⟩;rw[Array.toList_setIfInBounds,h2,hc]
 .rw[hmem]
  exact Zaw h.mem λ j hj=>hsame j λ e=>h.d2.1 (e ▸ hj)
 .rw[hout]
  exact Zaw h.out λ j hj=>hsame j λ e=>h.d2.2 (e ▸ hj)
 .exact h.rin.same (by simp[Ybt]) λ b o s e=>hsame b (h.d1 b o s e).1
end
end
