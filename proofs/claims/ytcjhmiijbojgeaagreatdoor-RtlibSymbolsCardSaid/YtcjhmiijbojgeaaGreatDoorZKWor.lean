/- Parts. -/
import Derived.Test.YtcjhmiijbojgeaaGreatDoorZExtC
import Derived.BigQuiet
set_option linter.all false
set_option maxHeartbeats 2000000
open Go.Lib renaming hid->Ya,cell_of_heap->Yb
open Nat renaming le_refl->Yc,lt_of_lt_of_le->Ys
open Array renaming getElem?_eq_some_iff->Y3,length_toList->Ybz
namespace Go.Proofs.YtcjhmiijbojgeaaGreatDoor
open S Go.Proofs.Tryz Go.RowKit
set_option maxRecDepth 100000
theorem Zee {w:World}{base:Nat}{e:TypeId}{size n c:Nat}{A:Option Addr}{xs:List Value}(h:w.ownsRow base e size (.slice A n c) n xs):A=none->n=0:=by
 intro hA;rcases h.2 with⟨_,f⟩|⟨g,cap,d,a,_⟩
 .exact f
 .rw[hA] at a
  cases a
theorem Zap {w:World}{base:Nat}{e:TypeId}{size n c:Nat}{A:Option Addr}{xs:List Value}(h:w.ownsRow base e size (.slice A n c) n xs):Reads w w.heap.size A xs:=λ hp=>by
 rcases h.2 with⟨_,k⟩|⟨g,cap,l,o,hb,hg,_,_,_,f⟩
 .have:=h.1
  rw[k,Nat.zero_mul] at this;omega
 .cases o
  refine⟨g,0,rfl,(Y3.1 hg).1,λ i x a=>?_⟩;rw[Zd9 hg,Nat.zero_add];rw[<- f] at a;have d:i<n*size:=by
   have j:=(List.getElem?_eq_some_iff.1 a).1;rw[List.length_take] at j;omega
  rw[List.getElem?_take_of_lt d,Array.getElem?_toList] at a;exact a
theorem Zlc {w:World}{base:Nat}{e:TypeId}{size n:Nat}{cs:Array Value}{xs:List Value}(d:base<=w.heap.size)(a:cs.size=n*size)(c:cs.toList=xs)(f:n<=maxLen):(w.alloc (.cells cs e)).ownsRow base e size (.slice (some ⟨w.heap.size,0,none⟩) n n) n xs :=
 ⟨by rw[<- c,Ybz,a],.inr ⟨w.heap.size,n,cs,rfl,d,heap_alloc_new w _,Yc _,f,a,by rw[c,List.take_of_length_le];rw[<- c,Ybz,a];exact Yc _⟩⟩
theorem Zug (n:Int)(w:World)(h0:0<=n)(h1:n<=4294967295):Calls prog 51 #[.int .i64 n] w λ e w'=>e=.returned (.agg #[.int .i64 8,.int .i64 0,.int .i64 0,.int .i64 0,.int .i64 0,.int .i64 0,.string ⟨#[]⟩,.int .u32 n])/\Below w.heap.size w w':=by
 have a:n%4294967296=n:=by omega
 have hw:IntKind.u32.wrap n=n:=by
  first
   | exact IntWalk.u32_in n ⟨h0,by omega⟩
   | (unfold IntKind.wrap;simp;omega)
 go_enter func51,ntmps51
 go_wp2_with fail
 refine bodyPost_ret (v:=.agg #[.int .i64 8,.int .i64 0,.int .i64 0,.int .i64 0,.int .i64 0,.int .i64 0,.string ⟨#[]⟩,.int .u32 n]) (by simp[results,results51,go_sem,a]) rfl ⟨rfl,?_⟩;exact(Below.refl _ _).alloc (Yc _) _
theorem Zuh (A:Option Addr)(c:Nat)(l:List Int)(w:World)(z:Reads w w.heap.size A (l.map (Value.int .u32)))(J:l.length<=1000000) :
 Calls prog 52 #[.slice A l.length c] w λ e w'=>∃d a,e=.returned (.slice d l.length a)/\w'.ownsRow w.heap.size 79 8 (.slice d l.length a) l.length ((l.map bW).flatMap Zb)/\Below w.heap.size w w':=by
 obtain⟨N,s⟩:∃N:Nat,N=l.length:=⟨_,rfl⟩
 rw[<- s] at J⊢;have y:=Ya s;have L:=Ya z;clear s z;go_enter func52,ntmps52
 go_wp2_with fail
 go_loopw [3,4] (λ G i v=>∃k:Nat,k<=N/\i=.int .i64 k/\(∃d a,G=.slice d k a/\Hid (v.ownsRow w.heap.size 79 8 (.slice d k a) k (((l.take k).map bW).flatMap Zb)))/\Hid (Below w.heap.size w v)) (λ _ i _=>N-(intOf i).toNat)
 case atStart=>exact⟨0,by omega,rfl,⟨none,0,rfl,Ya (World.ownsRow_nil _ _ _ _)⟩,Ya (Below.refl _ _)⟩
 case round =>
  obtain⟨k,hk,rfl,⟨d,a,rfl,r⟩,h⟩:=hrel;by_cases o:k<N
  .have hkl:k<l.length:=by rw[<- y.out];exact o
   obtain⟨b,off,n,D,t⟩:=(L.out.below h.out) (by rw[List.length_map];omega)
   have K:=t k (.int .u32 l[k]) (by rw[List.getElem?_map,List.getElem?_eq_getElem hkl];rfl);subst n;have f:=Ya (show l.take (k+1)=l.take k++[l[k]] from by rw[List.take_add_one,List.getElem?_eq_getElem hkl];rfl);have j:=h.out.size;obtain⟨x,u⟩:=Yx l[k];rw[<- u] at K f;clear t u hkl;go_wp2_with (at_builtin;refine Zl rfl (.tmp 11) (.tmp 17) _ rfl w.heap.size 79 Zv underlying80 rfl (by decide) (Zb (bW x)).toArray _ _ _ rfl r.out rfl rfl rfl (by simp[Value.oneCell',Zb]) (by simp only[maxLen];omega) (by omega) j ?_;intro v' w7 g I q _;obtain⟨E,B,rfl⟩:=Za g)
   go_roundw
   case rel =>
    refine⟨k+1,by omega,by go_num,⟨E,B,rfl,Ya ?_⟩,Ya (h.out.trans q)⟩;rw[f.out,List.map_append,List.flatMap_append]
    simpa using g
   case measure=>simp[intOf];omega
  .have hkN:k=N:=by omega
   subst hkN;have C:l.take k=l:=by rw[y.out,List.take_length]
   rw[C] at r;go_wp2_with fail
   go_ret
   exact⟨d,a,rfl,r.out,h.out⟩
section
structure KAt (w:World)(lo b p:Nat)(F:Nat->Prop)(H half:Int)(P:List (ByteArray×Int))(m:Mach):Prop where
 blk:∃(Aw:Option Addr)(nw cw:Nat)(Ap:Option Addr)(cp:Nat),w.heap[b]?=some (.cells #[.pointer (some ⟨p,0,none⟩),.slice Aw nw cw,.slice Ap P.length cp,.int .i64 H,.int .i64 half] 37 (0,0))/\ReadsP w w.heap.size Ap P/\(∀k o s,Ap=some ⟨k,o,s⟩->k<w.heap.size/\¬F k)
 mach:∃vm vo A c inp rd,MAt w lo p vm vo A c inp rd m/\(∀k,Zal p vm vo k->F k)/\(∀k o s,A=some ⟨k,o,s⟩->¬F k)
 lowb:lo<=b
 nb:¬F b
 lt:∀k,F k->lo<=k/\k<w.heap.size
 few:P.length<=1048576
theorem ReadsP.same {w w':World}{A:Option Addr}{L:List (ByteArray×Int)}(h:ReadsP w w.heap.size A L)(hz:w.heap.size<=w'.heap.size)(f:∀b o s,A=some ⟨b,o,s⟩->w'.heap[b]?=w.heap[b]?):ReadsP w' w'.heap.size A L:=λ hp=>by
 obtain⟨b,off,e,g,c⟩:=h hp;exact⟨b,off,e,by omega,λ i p d=>⟨(World.cell?_of_block (w:=w) (a:=⟨b,off+i*2,none⟩) (f b off none e)).trans (c i p d).1,(World.cell?_of_block (w:=w) (a:=⟨b,off+i*2+1,none⟩) (f b off none e)).trans (c i p d).2⟩⟩
section
variable {w w':World}{lo b p:Nat}{F:Nat->Prop}{H half:Int}{P:List (ByteArray×Int)}{m m':Mach}
theorem KAt.blt (h:KAt w lo b p F H half P m):b<w.heap.size:=by
 obtain⟨_,_,_,_,_,a,_⟩:=h.blk;exact(Y3.1 a).1
theorem KAt.below (h:KAt w lo b p F H half P m)(a:Below w.heap.size w w'):KAt w' lo b p F H half P m:=by
 obtain⟨Aw,nw,cw,l,cp,n,i,d⟩:=h.blk;obtain⟨j,q,A,c,inp,rd,t,k2,g⟩:=h.mach;have r:=a.size;refine⟨⟨Aw,nw,cw,l,cp,(a.block b h.blt).trans n,i.same r λ k o s e=>a.block k (d k o s e).1,λ k o s e=>⟨by have:=(d k o s e).1;omega,(d k o s e).2⟩⟩,⟨j,q,A,c,inp,rd,t.below a,k2,g⟩,h.lowb,h.nb,λ k f=>⟨(h.lt k f).1,by have:=(h.lt k f).2;omega⟩,h.few⟩
theorem KAt.wrote (h:KAt w lo b p F H half P m){d:Nat->Prop}(f:Only F w w')(hF:∀k,k<w.heap.size->d k->F k)(g:∀k,d k->lo<=k/\k<w'.heap.size)
 (hm:∃j l A c inp rd,MAt w' lo p j l A c inp rd m'/\(∀k,Zal p j l k->d k)/\(∀k o s,A=some ⟨k,o,s⟩->¬d k)):KAt w' lo b p d H half P m':=by
 obtain⟨Aw,nw,cw,q,cp,r,n,a⟩:=h.blk;have t:=f.size;refine⟨⟨Aw,nw,cw,q,cp,(f.block b h.blt h.nb).trans r,n.same t λ k o s e=>f.block k (a k o s e).1 (a k o s e).2,λ k o s e=>⟨by have:=(a k o s e).1;omega,λ i=>(a k o s e).2 (hF k (a k o s e).1 i)⟩⟩,hm,h.lowb,λ i=>h.nb (hF b h.blt i),g,h.few⟩
theorem KAt.lobelow (h:KAt w lo b p F H half P m)(d:Only F w w')(a:lo<=w.heap.size):Below lo w w':=d.below a λ k c=>(h.lt k c).1
theorem KAt.lolt (h:KAt w lo b p F H half P m):lo<=w.heap.size:=by
 have:=h.blt;have:=h.lowb;omega
theorem KAt.cells (h:KAt w lo b p F H half P m):∃(Aw:Option Addr)(nw cw:Nat)(c:Option Addr)(cp:Nat),ReadsP w w.heap.size c P/\w.cell? ⟨b,0,none⟩=some (.pointer (some ⟨p,0,none⟩))/\w.cell? ⟨b,1,none⟩=some (.slice Aw nw cw)/\w.cell? ⟨b,2,none⟩=some (.slice c P.length cp)/\w.cell? ⟨b,3,none⟩=some (.int .i64 H)/\w.cell? ⟨b,4,none⟩=some (.int .i64 half):=by
 obtain⟨Aw,nw,cw,c,cp,a,d,h3⟩:=h.blk;exact⟨Aw,nw,cw,c,cp,d,by rw[Yb a];rfl,by rw[Yb a];rfl,by rw[Yb a];rfl,by rw[Yb a];rfl,by rw[Yb a];rfl⟩
theorem KAt.ok (h:KAt w lo b p F H half P m):m.Ok:=by
 obtain⟨vm,vo,A,c,inp,rd,a,k2,k3⟩:=h.mach;exact a.ok
theorem Zrp (i:Int)(h:KAt w lo b p F H half P m):Calls prog 7 #[.pointer (some ⟨p,0,none⟩),.int .i64 i] w λ e w'=>e=.returned (.int .u32 (m.regV i))/\w=w':=by
 obtain⟨vm,vo,A,c,inp,rd,a,k2,k3⟩:=h.mach;exact Zx9 i a
theorem Z4h (i v:Int)(h:KAt w lo b p F H half P m)(q:0<=v/\v<=4294967295):Calls prog 10 #[.pointer (some ⟨p,0,none⟩),.int .i64 i,.int .u32 v] w λ e w'=>e=.returned (.int .i64 (if 0<=i/\i<32 then 0 else 2))/\KAt w' lo b p F H half P (m.setV i v)/\Only F w w':=by
 obtain⟨j,n,A,c,inp,rd,o,k2,f⟩:=h.mach;refine(Zyd i v o q).mono ?_;rintro e w' ⟨rfl,l,g⟩;have d:Only F w w':=g.weaken λ k _ a=>k2 k (.inl a)
 exact⟨rfl,h.wrote d (λ _ _ a=>a) (λ k a=>⟨(h.lt k a).1,Ys (h.lt k a).2 d.size⟩) ⟨j,n,A,c,inp,rd,l,k2,f⟩,d⟩
theorem Z67 (i v:Int)(h:KAt w lo b p F H half P m)(q:0<=v/\v<=4294967295):Calls prog 11 #[.pointer (some ⟨p,0,none⟩),.int .i64 i,.int .u32 v] w λ e w'=>e=.returned (.int .i64 (if 0<=i/\i<m.mem.length then 0 else 2))/\KAt w' lo b p F H half P (m.putV i v)/\Only F w w':=by
 obtain⟨j,n,A,c,inp,rd,o,k2,f⟩:=h.mach;refine(Zye i v o q).mono ?_;rintro e w' ⟨rfl,l,g⟩;have d:Only F w w':=g.weaken λ k _ a=>k2 k a
 exact⟨rfl,h.wrote d (λ _ _ a=>a) (λ k a=>⟨(h.lt k a).1,Ys (h.lt k a).2 d.size⟩) ⟨j,n,A,c,inp,rd,l,k2,f⟩,d⟩
theorem Z0i (i v:Int)(h:KAt w lo b p F H half P m)(a:0<=v/\v<=4294967295)(hi:0<=i/\i<32):Calls prog 10 #[.pointer (some ⟨p,0,none⟩),.int .i64 i,.int .u32 v] w λ e w'=>e=.returned (.int .i64 0)/\KAt w' lo b p F H half P (m.setV i v)/\Only F w w':=by
 have:=Z4h i v h a;rw[if_pos hi] at this;exact this
theorem Zcv (i v:Int)(h:KAt w lo b p F H half P m)(a:0<=v/\v<=4294967295):Calls prog 11 #[.pointer (some ⟨p,0,none⟩),.int .i64 i,.int .u32 v] w λ e w'=>∃r,e=.returned (.int .i64 r)/\KAt w' lo b p F H half P (m.putV i v)/\Only F w w' :=
 (Z67 i v h a).mono λ _ _ q=>⟨_,q⟩
theorem Zeq (i v:Int)(h:KAt w lo b p F H half P m)(a:0<=v/\v<=4294967295):Calls prog 10 #[.pointer (some ⟨p,0,none⟩),.int .i64 i,.int .u32 v] w λ e w'=>∃r,e=.returned (.int .i64 r)/\KAt w' lo b p F H half P (m.setV i v)/\Only F w w' :=
 (Z4h i v h a).mono λ _ _ q=>⟨_,q⟩
theorem Z8o (v:Int)(h:KAt w lo b p F H half P m)(o:0<=v/\v<=4294967295):Calls prog 27 #[.pointer (some ⟨p,0,none⟩),.int .u32 v] w λ e w'=>e=.returned (.int .i64 (if m.state≠0 then 2 else 0))/\KAt w' lo b p F H half P (m.goV v)/\Only F w w':=by
 obtain⟨i,l,A,c,inp,rd,n,k2,f⟩:=h.mach;refine(Z1w v n o).mono ?_;rintro e w' ⟨rfl,j,g⟩;have d:Only F w w':=g.weaken λ k _ a=>k2 k (.inl a)
 exact⟨rfl,h.wrote d (λ _ _ a=>a) (λ k a=>⟨(h.lt k a).1,Ys (h.lt k a).2 d.size⟩) ⟨i,l,A,c,inp,rd,j,k2,f⟩,d⟩
def Z1s (w:World)(lo b p:Nat)(F:Nat->Prop)(H half:Int)(P:List (ByteArray×Int))(m':Mach)(w':World):Prop :=
 ∃F',KAt w' lo b p F' H half P m'/\Only F w w'/\∀k,k<w.heap.size->F' k->F k
theorem Z4i (fuel:Int)(h:KAt w lo b p F H half P m)(l:m.out=[])(n:m.steps=0)(hf:fuel<=100000000):Calls prog 28 #[.pointer (some ⟨p,0,none⟩),.int .i64 fuel] w λ e w'=>e=.returned (.int .i64 (m.steps_ fuel.toNat).state)/\Z1s w lo b p F H half P (m.steps_ fuel.toNat) w':=by
 obtain⟨q,vo,A,c,inp,rd,u,k2,k3⟩:=h.mach;refine(Zyc fuel u (by rw[l];decide) (by rw[n];decide) hf).mono ?_;rintro e w' ⟨rfl,d,f,i,t,r⟩;have g:Only F w w':=t.weaken λ k _ a=>k2 k a
 have hz:=g.size;refine⟨rfl,λ k=>Zal p q d k,h.wrote g (λ k a hf=>?_) (λ k a=>i.foot_lt a) ⟨q,d,A,c,inp,f,i,λ _ a=>a,λ k o s e a=>?_⟩,g,λ k a hf=>?_⟩
 .rcases hf with e|e|e
  .exact k2 k (.inl e)
  .exact k2 k (.inr (.inl e))
  .rcases r with e2|⟨j,hj,e2⟩
   .exact k2 k (.inr (.inr (e2 ▸ e)))
   .rw[e2] at e;cases e;omega
 .obtain⟨d1,d2,d3⟩:=i.d1 k o s e
  rcases a with a|a|a
  .exact d1 a
  .exact d2 a
  .exact d3 a
 .rcases hf with e|e|e
  .exact k2 k (.inl e)
  .exact k2 k (.inr (.inl e))
  .rcases r with e2|⟨j,hj,e2⟩
   .exact k2 k (.inr (.inr (e2 ▸ e)))
   .rw[e2] at e;cases e;omega
theorem Zui (h:KAt w lo b p F H half P m):Calls prog 29 #[.pointer (some ⟨p,0,none⟩)] w λ e w'=>e=.returned (.int .u32 m.place)/\w=w':=by
 obtain⟨vm,vo,A,c,inp,rd,a,k2,k3⟩:=h.mach;exact Zrs a
theorem Z0j (h:KAt w lo b p F H half P m):Calls prog 30 #[.pointer (some ⟨p,0,none⟩)] w λ e w'=>e=.returned (.int .u32 m.code)/\w=w':=by
 obtain⟨vm,vo,A,c,inp,rd,a,k2,k3⟩:=h.mach;exact Zuo a
theorem Z68 (i:Int)(h:KAt w lo b p F H half P m):Calls prog 31 #[.pointer (some ⟨p,0,none⟩),.int .i64 i] w λ e w'=>e=.returned (.tuple #[.int .u32 (m.memV i),.bool (m.memB i)])/\∃n,w'=w.drewN n:=by
 obtain⟨vm,vo,A,c,inp,rd,a,k2,k3⟩:=h.mach;exact Zya i a
theorem Z4j (i:Int)(h:KAt w lo b p F H half P m):Calls prog 13 #[.pointer (some ⟨b,0,none⟩),.int .i64 i] w λ e w'=>e=.returned (.int .u32 (m.memV i))/\∃n,w'=w.drewN n:=by
 have a:=h.blt;obtain⟨Aw,nw,cw,Ap,cp,hP,c0,c1,c2,c3,c4⟩:=h.cells;go_enter func13,ntmps13
 go_wp2_with fail
 refine(Z68 i h).mono ?_;rintro e w2 ⟨rfl,n,rfl⟩;go_wp2_with fail
 go_ret
 exact⟨rfl,n,rfl⟩
theorem Z4k (s:ByteArray)(h:KAt w lo b p F H half P m):Calls prog 26 #[.pointer (some ⟨b,0,none⟩),.string s] w λ e w'=>e=.returned (.int .i64 ((findP P s).getD (-1)))/\Below w.heap.size w w':=by
 have d:=h.blt;obtain⟨Aw,nw,cw,f,cp,g,c0,c1,c2,c3,c4⟩:=h.cells;go_enter func26,ntmps26
 go_wp2_with fail
 refine(Zvz (.slice none 0 0) Aw f nw cw cp P s w g h.few).mono ?_;rintro e w2 ⟨rfl,a⟩
 cases hq:findP P s with
 | none =>
  simp only[Option.isSome_none,Option.getD_none];have c:=Ya hq;clear hq;go_wp2_with fail
  go_ret
  exact⟨by rw[c.out];rfl,a⟩
 | some v =>
  simp only[Option.isSome_some,Option.getD_some];have c:=Ya hq;clear hq;go_wp2_with fail
  go_ret
  exact⟨by rw[c.out];rfl,a⟩
end
end
