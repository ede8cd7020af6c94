/- Parts. -/
import Derived.Test.YtldbnjajjfgipaaGreatDoorZGWld
import Derived.Test.YtldbnjajjfgipaaGreatDoorZGObs
import Derived.BigQuiet
import Derived.Lib.AppendZeros
set_option linter.all false
set_option maxHeartbeats 4000000
open Go.Lib renaming hid->Ya,cell_of_heap->Yb
open List renaming length_append->Yc,getElem?_eq_getElem->Ye,getElem?_append_left->Ym,getElem?_append_right->Yn,mem_cons->Yu,not_mem_nil->Yy,eq_nil_of_length_eq_zero->Yz,length_map->Y3,mem_cons_self->Y4,getElem?_map->Yac,mem_append->Yaq,take_add_one->Yar,flatMap_cons->Yat,all_eq_true->Yau,take_succ_cons->Yaw,take_zero->Yaz,drop_succ_cons->Ya1,map_append->Ya3,drop_zero->Ybc,flatMap_append->Ybg,map_cons->Ybt,mem_map->Yby
open Nat renaming le_refl->Yd,lt_of_lt_of_le->Yr,le_trans->Yaa,le_of_lt->Yay,zero_le->Ya2
open Go.IntWalk renaming i64_in->Yp
open Go.Value renaming int->Ys,oneCell'->Yt,slice->Y6,string->Ycj
namespace Go.Proofs.YtldbnjajjfgipaaGreatDoor
open S Go.Proofs.Tryz Go.RowKit
set_option maxRecDepth 100000
section
structure KAt (w:World)(lo b p:Nat)(F:Nat->Prop)(H half:Int)(P:List (ByteArray×Int))(m:Mach):Prop where
 blk:∃(Aw:Option Addr)(nw cw:Nat)(Ap:Option Addr)(cp:Nat),w.heap[b]?=some (.cells #[.pointer (some ⟨p,0,none⟩),.slice Aw nw cw,.slice Ap P.length cp,.int .i64 H,.int .i64 half] 37 (0,0))/\ReadsP w w.heap.size Ap P/\(∀k o s,Ap=some ⟨k,o,s⟩->k<w.heap.size/\¬F k)
 mach:∃vm vo A c inp rd,MAt w lo p vm vo A c inp rd m/\(∀k,Zai p vm vo k->F k)/\(∀k o s,A=some ⟨k,o,s⟩->¬F k)
 lowb:lo<=b
 nb:¬F b
 lt:∀k,F k->lo<=k/\k<w.heap.size
 few:P.length<=1048576
theorem ReadsP.same {w w':World}{A:Option Addr}{L:List (ByteArray×Int)}(h:ReadsP w w.heap.size A L)(hz:w.heap.size<=w'.heap.size)(d:∀b o s,A=some ⟨b,o,s⟩->w'.heap[b]?=w.heap[b]?):ReadsP w' w'.heap.size A L:=λ hp=>by
 obtain⟨b,off,e,g,f⟩:=h hp;exact⟨b,off,e,by omega,λ i p c=>⟨(World.cell?_of_block (w:=w) (a:=⟨b,off+i*2,none⟩) (d b off none e)).trans (f i p c).1,(World.cell?_of_block (w:=w) (a:=⟨b,off+i*2+1,none⟩) (d b off none e)).trans (f i p c).2⟩⟩
section
variable {w w':World}{lo b p:Nat}{F:Nat->Prop}{H half:Int}{P:List (ByteArray×Int)}{m m':Mach}
theorem KAt.blt (h:KAt w lo b p F H half P m):b<w.heap.size:=by
 obtain⟨_,_,_,_,_,a,_⟩:=h.blk;exact(Array.getElem?_eq_some_iff.1 a).1
theorem KAt.below (h:KAt w lo b p F H half P m)(a:Below w.heap.size w w'):KAt w' lo b p F H half P m:=by
 obtain⟨Aw,nw,cw,r,cp,n,q,d⟩:=h.blk;obtain⟨j,t,A,c,inp,rd,g,k2,i⟩:=h.mach;have l:=a.size;refine⟨⟨Aw,nw,cw,r,cp,(a.block b h.blt).trans n,q.same l λ k o s e=>a.block k (d k o s e).1,λ k o s e=>⟨by have:=(d k o s e).1;omega,(d k o s e).2⟩⟩,⟨j,t,A,c,inp,rd,g.below a,k2,i⟩,h.lowb,h.nb,λ k f=>⟨(h.lt k f).1,by have:=(h.lt k f).2;omega⟩,h.few⟩
theorem KAt.wrote (h:KAt w lo b p F H half P m){a:Nat->Prop}(f:Only F w w')(hF:∀k,k<w.heap.size->a k->F k)(i:∀k,a k->lo<=k/\k<w'.heap.size)
 (hm:∃j l A c inp rd,MAt w' lo p j l A c inp rd m'/\(∀k,Zai p j l k->a k)/\(∀k o s,A=some ⟨k,o,s⟩->¬a k)):KAt w' lo b p a H half P m':=by
 obtain⟨Aw,nw,cw,t,cp,q,r,d⟩:=h.blk;have n:=f.size;refine⟨⟨Aw,nw,cw,t,cp,(f.block b h.blt h.nb).trans q,r.same n λ k o s e=>f.block k (d k o s e).1 (d k o s e).2,λ k o s e=>⟨by have:=(d k o s e).1;omega,λ g=>(d k o s e).2 (hF k (d k o s e).1 g)⟩⟩,hm,h.lowb,λ g=>h.nb (hF b h.blt g),i,h.few⟩
theorem KAt.lobelow (h:KAt w lo b p F H half P m)(d:Only F w w')(a:lo<=w.heap.size):Below lo w w':=d.below a λ k c=>(h.lt k c).1
theorem KAt.lolt (h:KAt w lo b p F H half P m):lo<=w.heap.size:=by
 have:=h.blt;have:=h.lowb;omega
theorem KAt.cells (h:KAt w lo b p F H half P m):∃(Aw:Option Addr)(nw cw:Nat)(c:Option Addr)(cp:Nat),ReadsP w w.heap.size c P/\w.cell? ⟨b,0,none⟩=some (.pointer (some ⟨p,0,none⟩))/\w.cell? ⟨b,1,none⟩=some (.slice Aw nw cw)/\w.cell? ⟨b,2,none⟩=some (.slice c P.length cp)/\w.cell? ⟨b,3,none⟩=some (.int .i64 H)/\w.cell? ⟨b,4,none⟩=some (.int .i64 half):=by
 obtain⟨Aw,nw,cw,c,cp,a,d,h3⟩:=h.blk;exact⟨Aw,nw,cw,c,cp,d,by rw[Yb a];rfl,by rw[Yb a];rfl,by rw[Yb a];rfl,by rw[Yb a];rfl,by rw[Yb a];rfl⟩
theorem KAt.ok (h:KAt w lo b p F H half P m):m.Ok:=by
 obtain⟨vm,vo,A,c,inp,rd,a,k2,k3⟩:=h.mach;exact a.ok
theorem Zrr (i:Int)(h:KAt w lo b p F H half P m):Calls prog 9 #[.pointer (some ⟨p,0,none⟩),.int .i64 i] w λ e w'=>e=.returned (.int .u32 (m.regV i))/\w=w':=by
 obtain⟨vm,vo,A,c,inp,rd,a,k2,k3⟩:=h.mach;exact Zvv i a
theorem Z0p (i v:Int)(h:KAt w lo b p F H half P m)(l:0<=v/\v<=4294967295):Calls prog 12 #[.pointer (some ⟨p,0,none⟩),.int .i64 i,.int .u32 v] w λ e w'=>e=.returned (.int .i64 (if 0<=i/\i<32 then 0 else 2))/\KAt w' lo b p F H half P (m.setV i v)/\Only F w w':=by
 obtain⟨j,q,A,c,inp,rd,f,k2,g⟩:=h.mach;refine(Zv0 i v f l).mono ?_;rintro e w' ⟨rfl,n,o⟩;have d:Only F w w':=o.weaken λ k _ a=>k2 k (.inl a)
 exact⟨rfl,h.wrote d (λ _ _ a=>a) (λ k a=>⟨(h.lt k a).1,Yr (h.lt k a).2 d.size⟩) ⟨j,q,A,c,inp,rd,n,k2,g⟩,d⟩
theorem Z2z (i v:Int)(h:KAt w lo b p F H half P m)(l:0<=v/\v<=4294967295):Calls prog 13 #[.pointer (some ⟨p,0,none⟩),.int .i64 i,.int .u32 v] w λ e w'=>e=.returned (.int .i64 (if 0<=i/\i<m.mem.length then 0 else 2))/\KAt w' lo b p F H half P (m.putV i v)/\Only F w w':=by
 obtain⟨j,q,A,c,inp,rd,f,k2,g⟩:=h.mach;refine(Zv1 i v f l).mono ?_;rintro e w' ⟨rfl,n,o⟩;have d:Only F w w':=o.weaken λ k _ a=>k2 k a
 exact⟨rfl,h.wrote d (λ _ _ a=>a) (λ k a=>⟨(h.lt k a).1,Yr (h.lt k a).2 d.size⟩) ⟨j,q,A,c,inp,rd,n,k2,g⟩,d⟩
theorem Z0q (i v:Int)(h:KAt w lo b p F H half P m)(a:0<=v/\v<=4294967295)(hi:0<=i/\i<32):Calls prog 12 #[.pointer (some ⟨p,0,none⟩),.int .i64 i,.int .u32 v] w λ e w'=>e=.returned (.int .i64 0)/\KAt w' lo b p F H half P (m.setV i v)/\Only F w w':=by
 have:=Z0p i v h a;rw[if_pos hi] at this;exact this
theorem Zg1 (i v:Int)(h:KAt w lo b p F H half P m)(a:0<=v/\v<=4294967295):Calls prog 13 #[.pointer (some ⟨p,0,none⟩),.int .i64 i,.int .u32 v] w λ e w'=>∃r,e=.returned (.int .i64 r)/\KAt w' lo b p F H half P (m.putV i v)/\Only F w w' :=
 (Z2z i v h a).mono λ _ _ q=>⟨_,q⟩
theorem Zg2 (i v:Int)(h:KAt w lo b p F H half P m)(a:0<=v/\v<=4294967295):Calls prog 12 #[.pointer (some ⟨p,0,none⟩),.int .i64 i,.int .u32 v] w λ e w'=>∃r,e=.returned (.int .i64 r)/\KAt w' lo b p F H half P (m.setV i v)/\Only F w w' :=
 (Z0p i v h a).mono λ _ _ q=>⟨_,q⟩
theorem Z4d (v:Int)(h:KAt w lo b p F H half P m)(j:0<=v/\v<=4294967295):Calls prog 43 #[.pointer (some ⟨p,0,none⟩),.int .u32 v] w λ e w'=>e=.returned (.int .i64 (if m.state≠0 then 2 else 0))/\KAt w' lo b p F H half P (m.goV v)/\Only F w w':=by
 obtain⟨i,o,A,c,inp,rd,f,k2,g⟩:=h.mach;refine(Zyt v f j).mono ?_;rintro e w' ⟨rfl,l,n⟩;have d:Only F w w':=n.weaken λ k _ a=>k2 k (.inl a)
 exact⟨rfl,h.wrote d (λ _ _ a=>a) (λ k a=>⟨(h.lt k a).1,Yr (h.lt k a).2 d.size⟩) ⟨i,o,A,c,inp,rd,l,k2,g⟩,d⟩
def Z2f (w:World)(lo b p:Nat)(F:Nat->Prop)(H half:Int)(P:List (ByteArray×Int))(m':Mach)(w':World):Prop :=
 ∃F',KAt w' lo b p F' H half P m'/\Only F w w'/\∀k,k<w.heap.size->F' k->F k
theorem Z20 (fuel:Int)(h:KAt w lo b p F H half P m)(f:m.out=[])(l:m.steps=0)(hf:fuel<=100000000):Calls prog 23 #[.pointer (some ⟨p,0,none⟩),.int .i64 fuel] w λ e w'=>e=.returned (.int .i64 (m.steps_ fuel.toNat).state)/\Z2f w lo b p F H half P (m.steps_ fuel.toNat) w':=by
 obtain⟨q,vo,A,c,inp,rd,t,k2,k3⟩:=h.mach;refine(Zvz fuel t (by rw[f];decide) (by rw[l];decide) hf).mono ?_;rintro e w' ⟨rfl,d,n,i,u,r⟩;have g:Only F w w':=u.weaken λ k _ a=>k2 k a
 have hz:=g.size;refine⟨rfl,λ k=>Zai p q d k,h.wrote g (λ k a hf=>?_) (λ k a=>i.foot_lt a) ⟨q,d,A,c,inp,n,i,λ _ a=>a,λ k o s e a=>?_⟩,g,λ k a hf=>?_⟩
 .rcases hf with e|e|e
  .exact k2 k (.inl e)
  .exact k2 k (.inr (.inl e))
  .rcases r with e2|⟨j,hj,e2⟩
   .exact k2 k (.inr (.inr (e2 ▸ e)))
   .rw[e2] at e;cases e;omega
 .obtain⟨d1,d2,d3⟩:=i.d1 k o s e
  rcases a with a|a|a
  .exact d1 a
  .exact d2 a
  .exact d3 a
 .rcases hf with e|e|e
  .exact k2 k (.inl e)
  .exact k2 k (.inr (.inl e))
  .rcases r with e2|⟨j,hj,e2⟩
   .exact k2 k (.inr (.inr (e2 ▸ e)))
   .rw[e2] at e;cases e;omega
theorem Zyd (h:KAt w lo b p F H half P m):Calls prog 24 #[.pointer (some ⟨p,0,none⟩)] w λ e w'=>e=.returned (.int .u32 m.place)/\w=w':=by
 obtain⟨vm,vo,A,c,inp,rd,a,k2,k3⟩:=h.mach;exact Zpn a
theorem Z0r (h:KAt w lo b p F H half P m):Calls prog 25 #[.pointer (some ⟨p,0,none⟩)] w λ e w'=>e=.returned (.int .u32 m.code)/\w=w':=by
 obtain⟨vm,vo,A,c,inp,rd,a,k2,k3⟩:=h.mach;exact Zsl a
theorem Z21 (i:Int)(h:KAt w lo b p F H half P m):Calls prog 30 #[.pointer (some ⟨p,0,none⟩),.int .i64 i] w λ e w'=>e=.returned (.tuple #[.int .u32 (m.memV i),.bool (m.memB i)])/\∃n,w'=w.drewN n:=by
 obtain⟨vm,vo,A,c,inp,rd,a,k2,k3⟩:=h.mach;exact Zvw i a
theorem Z0s (i:Int)(h:KAt w lo b p F H half P m):Calls prog 15 #[.pointer (some ⟨b,0,none⟩),.int .i64 i] w λ e w'=>e=.returned (.int .u32 (m.memV i))/\∃n,w'=w.drewN n:=by
 have a:=h.blt;obtain⟨Aw,nw,cw,Ap,cp,hP,c0,c1,c2,c3,c4⟩:=h.cells;go_enter func15,ntmps15
 go_wp2_with fail
 refine(Z21 i h).mono ?_;rintro e w2 ⟨rfl,n,rfl⟩;go_wp2_with fail
 go_ret
 exact⟨rfl,n,rfl⟩
theorem Z22 (s:ByteArray)(h:KAt w lo b p F H half P m):Calls prog 42 #[.pointer (some ⟨b,0,none⟩),.string s] w λ e w'=>e=.returned (.int .i64 ((findP P s).getD (-1)))/\Below w.heap.size w w':=by
 have f:=h.blt;obtain⟨Aw,nw,cw,g,cp,d,c0,c1,c2,c3,c4⟩:=h.cells;go_enter func42,ntmps42
 go_wp2_with fail
 refine(Zq1 (.slice none 0 0) Aw g nw cw cp P s w d h.few).mono ?_;rintro e w2 ⟨rfl,a⟩
 cases hq:findP P s with
 | none =>
  simp only[Option.isSome_none,Option.getD_none];have c:=Ya hq;clear hq;go_wp2_with fail
  go_ret
  exact⟨by rw[c.out];rfl,a⟩
 | some v =>
  simp only[Option.isSome_some,Option.getD_some];have c:=Ya hq;clear hq;go_wp2_with fail
  go_ret
  exact⟨by rw[c.out];rfl,a⟩
end
end
section
section
variable {H:Zl}{w:World}(hH:∀b k,H b=some k->b<w.heap.size)
theorem Zfb:∀{xs:List S.Item} {b o:Nat},RepC H w (encItems xs) b o->(∀x∈xs,0<=x.word/\x.word<=4294967295)->∀(i:Nat)(x:S.Item),xs[i]?=some x->ItemAt w b (o+i*8) x
 | [],b,o,_,_,i,x,h=>by cases h
 | y::r,b,o,hr,hw,i,x,h=>by
  have c:RepC H w ([.int .i64 y.kind,.int .i64 y.inst.op,.int .i64 y.inst.d,.int .i64 y.inst.a,.int .i64 y.inst.b,.int .i64 y.inst.imm,.str y.label,.int .u32 y.word]++encItems r) b o:=hr;simp only[List.cons_append,List.nil_append,RepC,RepV] at c;obtain⟨_,⟨v0,c0,rfl⟩,_,⟨v1,c1,rfl⟩,_,⟨v2,c2,rfl⟩,_,⟨v3,c3,rfl⟩,_,⟨v4,c4,rfl⟩,_,⟨v5,c5,rfl⟩,_,⟨v6,c6,rfl⟩,_,⟨v7,c7,rfl⟩,f⟩:=c
  cases i with
  | zero =>
   cases h
   rw[Nat.zero_mul,Nat.add_zero];exact⟨c0,c1,c2,c3,c4,c5,c6,c7,(hw y Y4).1,(hw y Y4).2⟩
  | succ i =>
   have:=Zfb (xs:=r) f (λ z e=>hw z (List.mem_cons_of_mem _ e)) i x h;rw[show o+(i+1)*8=o+1+1+1+1+1+1+1+1+i*8 from by omega];exact this
include hH
theorem Ziw {xs:List S.Item}{v:Value}(h:RepV H w (.row xs.length (encItems xs)) v)(f:∀x∈xs,0<=x.word/\x.word<=4294967295):∃A c,v=.slice A xs.length c/\Items w w.heap.size A xs:=by
 simp only[RepV] at h;obtain⟨A,c,rfl,_,_,d⟩:=h;refine⟨A,c,rfl,λ hp=>?_⟩;rcases d with e|⟨b,o,k,rfl,a,_,g⟩
 .cases xs with
  | nil=>simp at hp
  | cons y r=>cases e
 .exact⟨b,o,rfl,hH b k a,Zfb g f⟩
end
def S.ay (os:List S.Obj):Bool:=os.all λ o=>o.items.all (λ x=>decide (0<=x.word/\x.word<=4294967295)) && decide (o.name.size<=1000) && o.items.all (λ x=>decide (x.label.size<=1000))
theorem Zn8:ay (objs26++[oMain])=true:=by kernel_rfl
theorem Zdk {os:List S.Obj}(h:ay os=true):∀x∈os,(∀y∈x.items,0<=y.word/\y.word<=4294967295)/\x.name.size<=maxLen/\∀y∈x.items,y.label.size<=maxLen:=λ x g=>by
 have:=Yau.1 h x g;simp only[Bool.and_eq_true] at this;obtain⟨⟨d,f⟩,e⟩:=this;have c:=of_decide_eq_true f;refine⟨λ y a=>of_decide_eq_true (Yau.1 d y a),by simp only[maxLen];omega,λ y a=>?_⟩;have:=of_decide_eq_true (Yau.1 e y a);simp only[maxLen];omega
end
structure OC (w:World)(B:Nat)(os:List S.Obj)(oc:List Value):Prop where
 len:oc.length=os.length*2
 one:∀u∈oc,u.oneCell'=true
 at_:∀(i:Nat)(x:S.Obj),os[i]?=some x->∃A c,oc[i*2]?=some (.string x.name)/\oc[i*2+1]?=some (.slice A x.items.length c)/\Items w B A x.items/\x.name.size<=maxLen/\∀y∈x.items,y.label.size<=maxLen
theorem Zvh {w:World}{base:Nat}{e:TypeId}{A:Option Addr}{c:Nat}{os:List S.Obj}{oc:List Value}(d:w.ownsRow base e 2 (.slice A os.length c) os.length oc)(a:OC w w.heap.size os oc):Objs w w.heap.size A os:=λ hp=>by
 obtain⟨b,off,rfl,g,h⟩:=Zat d (by rw[a.len];omega);refine⟨b,off,rfl,g,λ i x f=>?_⟩;obtain⟨n,j,h0,l,o,q,r⟩:=a.at_ i x f;exact⟨h _ _ h0,⟨n,j,h _ _ l,o⟩,q,r⟩
theorem OC.app {w:World}{B:Nat}{a b:List S.Obj}{o n:List Value}(h:OC w B a o)(k:OC w B b n):OC w B (a++b) (o++n):=by
 refine⟨by rw[Yc,Yc,h.len,k.len];omega,λ u q=>(Yaq.1 q).elim (h.one u) (k.one u),λ i x d=>?_⟩;by_cases c:i<a.length
 .rw[Ym c] at d
  obtain⟨j,e,h0,g,l⟩:=h.at_ i x d;have f:=h.len;exact⟨j,e,by rw[Ym (by omega)];exact h0,by rw[Ym (by omega)];exact g,l⟩
 .rw[Yn (by omega)] at d
  obtain⟨j,e,h0,g,l⟩:=k.at_ (i-a.length) x d;have f:=h.len;exact⟨j,e,by rw[Yn (by omega),f,show i*2-a.length*2=(i-a.length)*2 from by omega];exact h0,by rw[Yn (by omega),f,show i*2+1-a.length*2=(i-a.length)*2+1 from by omega];exact g,l⟩
theorem OC.below {w w':World}{B:Nat}{os:List S.Obj}{oc:List Value}(h:OC w B os oc)(a:Below B w w'):OC w' B os oc:=⟨h.len,h.one,λ i x j=>by
 obtain⟨e,g,h0,c,f,d⟩:=h.at_ i x j;exact⟨e,g,h0,c,f.below a,d⟩⟩
theorem OC.more {w:World}{B B':Nat}{os:List S.Obj}{oc:List Value}(h:OC w B os oc)(hB:B<=B'):OC w B' os oc:=⟨h.len,h.one,λ i x a=>by
 obtain⟨f,c,h0,d,g,j⟩:=h.at_ i x a;refine⟨f,c,h0,d,λ hp=>?_,j⟩;obtain⟨b,off,e,hb,q⟩:=g hp;exact⟨b,off,e,by omega,q⟩⟩
theorem OC.one_ {w:World}{B:Nat}{x:S.Obj}{A:Option Addr}{c:Nat}(hi:Items w B A x.items)(e:x.name.size<=maxLen)(d:∀y∈x.items,y.label.size<=maxLen):OC w B [x] [.string x.name,.slice A x.items.length c] :=
 ⟨rfl,by simp[Yt],λ i y a=>by
  cases i with
  | zero=>cases a;exact⟨A,c,rfl,rfl,hi,e,d⟩
  | succ i=>cases a⟩
def S.af (gw sw:List Int)(os:List S.Obj):List S.Obj:=oHead gw sw::(os++[oTail])
theorem ReadsP.same' {w:World}{B B':Nat}{A:Option Addr}{L:List (ByteArray×Int)}(h:ReadsP w B A L)(hb:B<=B'):ReadsP w B' A L:=λ hp=>by
 obtain⟨b,off,e,c,a⟩:=h hp;exact⟨b,off,e,by omega,a⟩
theorem Zj0 {w:World}{base:Nat}{e:TypeId}{A:Option Addr}{n c:Nat}{cs:List Value}{xs:List S.Item}(h:w.ownsRow base e 8 (.slice A n c) n cs)(a:cs=xs.flatMap Zb)(d:∀x∈xs,0<=x.word/\x.word<=4294967295):Items w w.heap.size A xs:=by
 subst a;exact Items.of_own h d
theorem MAt.base {w:World}{B B' p:Nat}{e d:Value}{A:Option Addr}{c:Nat}{inp:List Int}{rd:Nat}{m:Mach}(h:MAt w B p e d A c inp rd m)(a:B'<=B):MAt w B' p e d A c inp rd m :=
 ⟨h.ok,Yaa a h.low,h.blk,Zn h.mem a,Zn h.out a,h.rin,h.left,h.rdle,h.inl,h.low0,h.la,h.d1,h.d2⟩
theorem Zye {w:World}{B p NL n:Nat}{j:Value}{A Aw g:Option Addr}{c cw cp lo:Nat}{inp:List Int}{m:Mach}{H half:Int}{P:List (ByteArray×Int)}(hm:MAt w B p j (.slice none 0 0) A c inp 0 m)(hA:∀k o s,A=some ⟨k,o,s⟩->B<=k)(q:lo<=B)(r:ReadsP w w.heap.size g P)(f:∀k o s,g=some ⟨k,o,s⟩->k<B)(i:n=P.length)(h:P.length<=1048576) :
 KAt (w.alloc (.cells #[.pointer (some ⟨p,0,none⟩),.slice Aw NL cw,.slice g n cp,.int .i64 H,.int .i64 half] 37)) lo w.heap.size p (Zai p j (.slice none 0 0)) H half P m:=by
 have d:Below w.heap.size w (w.alloc (.cells #[.pointer (some ⟨p,0,none⟩),.slice Aw NL cw,.slice g n cp,.int .i64 H,.int .i64 half] 37)):=(Below.refl _ _).alloc (Yd _) _;have l:B<=w.heap.size:=Yaa hm.low (Yay hm.lt);refine⟨⟨Aw,NL,cw,g,cp,by rw[<- i];exact heap_alloc_new w _,(r.below d).same' d.size,λ k o s e=>⟨Yr (Yr (f k o s e) l) d.size,λ a=>by
  have:=(hm.foot_lt a).1;have:=f k o s e;omega⟩⟩,⟨j,_,A,c,inp,0,(hm.base q).below d,λ _ a=>a,λ k o s e a=>?_⟩,by omega,λ a=>?_,λ k a=>⟨by have:=(hm.foot_lt a).1;omega,by have:=(hm.foot_lt a).2;have:=d.size;omega⟩,h⟩
 .obtain⟨d1,d2,d3⟩:=hm.d1 k o s e
  rcases a with a|a|a
  .exact d1 a
  .exact d2 a
  .exact d3 a
 .have:=(hm.foot_lt a).2
  omega
theorem Za4 {w w':World}{lo b p:Nat}{F:Nat->Prop}{H half:Int}{P:List (ByteArray×Int)}{m:Mach}{B:Nat}{w0:World}(h0:Below lo w0 w)(h:KAt w lo b p F H half P m)(a:Only F w w'):Below lo w0 w':=h0.trans (h.lobelow a h.lolt)
def Z4e (w:World)(gw sw:List Int)(os:List S.Obj)(heap:Int)(inp:List Int)(e:Ending)(w':World):Prop :=
 ∃L P b p F,Zgu (af gw sw os) 0 0 L P/\e=.returned (.pointer (some ⟨b,0,none⟩))/\KAt w' w.heap.size b p F L.length (heap/2) P (wM L heap inp)/\Below w.heap.size w w'
theorem Ze:(prog.info? 105).map (λ i=>(i.zero,i.size,i.bytes))=some (some (.agg #[.string ByteArray.empty,.slice none 0 0]),2,40):=by kernel_rfl
theorem Z23 (os:List S.Obj)(Ao Ag As Ai:Option Addr)(co cg cs ci:Nat)(gw sw inp:List Int)(heap:Int)(w:World)(oc:List Value)(m0:Reads w w.heap.size Ao oc)(f8:OC w w.heap.size os oc)(f0:Ao=none->os.length=0)(hg:Reads w w.heap.size Ag (gw.map (Ys .u32)))(hs:Reads w w.heap.size As (sw.map (Ys .u32)))(hi:Reads w w.heap.size Ai (inp.map (Ys .u8)))
 (q9:gw.length<=100) (r0:sw.length<=100) (r9:os.length<=100) (n7:∀x∈gw,0<=x/\x<=4294967295) (k6:∀x∈sw,0<=x/\x<=4294967295) (l5:∀x∈inp,0<=x/\x<=255) (n3:inp.length<=1000000) (i8:0<=heap/\heap<=1000000) (m4:(joined (af gw sw os)).length<=1048576) (h8:∀o∈os,o.name.size<=100000/\∀x∈o.items,x.label.size<=100000)
 (p8:∀r L P,Zgu (af gw sw os) 0 r L P->r=0/\0<L.length/\L.length<=300000000/\(∀x∈L,0<=x/\x<=4294967295)/\P.length<=1048576) :
 Calls prog 72 #[.slice Ao os.length co,.slice Ag gw.length cg,.slice As sw.length cs,.int .i64 heap,.slice Ai inp.length ci] w (Z4e w gw sw os heap inp):=by
 obtain⟨G,hG⟩:=Yx gw.length;obtain⟨T,hT⟩:=Yx sw.length;have HW:=Ya (λ(W:World) (hb:Below w.heap.size w W)=>Zrl Ag cg gw W ((hg.below hb).moreM hb.size) (by omega));have HS:=Ya (λ(W:World) (hb:Below w.heap.size w W)=>Zrl As cs sw W ((hs.below hb).moreM hb.size) (by omega));rw[<- hG] at HW q9⊢;rw[<- hT] at HS r0⊢;obtain⟨O,hO⟩:=Yx os.length;have HO:=Ya hO;have s0:=Ya f8;have q4:=Ya m0;have a5:oc.length=O*2:=by rw[hO];exact f8.len
 have a8:=f8.one;rw[<- hO] at r9 f0⊢;have HI:=Ya hi;have s4:=Ya l5;have r3:=Ya n7;have r6:=Ya k6;have m1:=Ya p8;have s1:=Ya m4;have o8:=Ya h8;have HG:=Ya hG;have HT:=Ya hT;obtain⟨NI,j8⟩:=Yx inp.length;have k9:=Ya j8;rw[<- j8] at n3⊢;clear f8 m0 hg hs hi hG hT hO l5 n7 k6 p8 m4 h8 j8;go_enter func72,ntmps72
 go_wp2_with fail
 refine(Zrk _ _ (by decide) (by decide)).mono ?_;rintro e w1 ⟨rfl,f5⟩;go_upto_region 2 with fail
 have n9:(w1.alloc (.cells #[.int .i64 8,.int .i64 0,.int .i64 0,.int .i64 0,.int .i64 0,.int .i64 0,.string ⟨#[]⟩,.int .u32 1312] 135)).ownsRow w.heap.size 135 8 (.slice (some ⟨w1.heap.size,0,none⟩) 1 1) 1 ([bSp 1312].flatMap Zb):=by
  exact Zjy f5.size rfl rfl (by simp[maxLen])
 have g8:Below w.heap.size w (w1.alloc (.cells #[.int .i64 8,.int .i64 0,.int .i64 0,.int .i64 0,.int .i64 0,.int .i64 0,.string ⟨#[]⟩,.int .u32 1312] 135)):=f5.alloc f5.size _;generalize w1.alloc (.cells #[.int .i64 8,.int .i64 0,.int .i64 0,.int .i64 0,.int .i64 0,.int .i64 0,.string ⟨#[]⟩,.int .u32 1312] 135)=w2 at *;have o1:=g8.size;clear f5;go_wp2_with fail
 refine(HW.out w2 g8).mono ?_;rintro e w3 ⟨A3,c3,rfl,f6,k3⟩;have i0:=Zc n9 k3;have e7:=g8.trans (k3.mono o1);have p7:=e7.size;clear k3;go_upto_region 3 with(at_builtin;refine Zt rfl (.tmp 22) (.tmp 24) _ rfl w.heap.size 135 Zu underlying103 rfl (by decide) _ _ _ rfl i0 w3.heap.size A3 G c3 _ rfl f6.1 (Zdj f6) (Zat f6) (Zdc _) (by simp only[maxLen];omega) (by omega) p7 ?_;intro v' w4 j0 q3 p3 l2;obtain⟨A4,c4,rfl⟩:=Za j0)
 have d3:Below w.heap.size w w4:=e7.trans p3;have l7:=d3.size;clear n9 i0 f6 g8 q3 p3 l2 e7 p7 o1;go_upto_region 4 with(at_builtin;refine Zk rfl (.tmp 26) (.tmp 28) _ rfl w.heap.size 135 Zu underlying103 rfl (by decide) #[.int .i64 2,.int .i64 0,.int .i64 0,.int .i64 0,.int .i64 0,.int .i64 0,.string kStatic,.int .u32 0] _ _ _ rfl j0 rfl rfl rfl (by simp[Yt]) (by simp only[maxLen];omega) (by omega) l7 ?_;intro v' w5 j2 q5 q0 o2;obtain⟨A5,c5,rfl⟩:=Za j2)
 have a6:Below w.heap.size w w5:=d3.trans q0;have l6:=a6.size;clear j0 q5 q0 o2 d3 l7;go_wp2_with fail
 refine(HS.out w5 a6).mono ?_;rintro e w6 ⟨A6,c6,rfl,f9,i6⟩;have h5:=Zc j2 i6;have b0:=a6.trans (i6.mono l6);have m8:=b0.size;clear i6;go_upto_region 5 with(at_builtin;refine Zt rfl (.tmp 30) (.tmp 32) _ rfl w.heap.size 135 Zu underlying103 rfl (by decide) _ _ _ rfl h5 w6.heap.size A6 T c6 _ rfl f9.1 (Zdj f9) (Zat f9) (Zdc _) (by simp only[maxLen];omega) (by omega) m8 ?_;intro v' w7 j7 r2 p9 n5;obtain⟨A7,c7,rfl⟩:=Za j7)
 have b4:Below w.heap.size w w7:=b0.trans p9;have l0:=b4.size;clear j2 h5 f9 r2 p9 n5 a6 b0 l6 m8;go_upto_region 6 with fail
 have j9:=heap_alloc_new w7 (.cells #[.int .i64 1,.int .i64 36,.int .i64 0,.int .i64 0,.int .i64 0,.int .i64 0,.string ⟨#[]⟩,.int .u32 0] 135);have b2:Below w.heap.size w (w7.alloc (.cells #[.int .i64 1,.int .i64 36,.int .i64 0,.int .i64 0,.int .i64 0,.int .i64 0,.string ⟨#[]⟩,.int .u32 0] 135)):=b4.alloc l0 _;have n4:=j7.alloc (.cells #[.int .i64 1,.int .i64 36,.int .i64 0,.int .i64 0,.int .i64 0,.int .i64 0,.string ⟨#[]⟩,.int .u32 0] 135);have i1:w7.heap.size<(w7.alloc (.cells #[.int .i64 1,.int .i64 36,.int .i64 0,.int .i64 0,.int .i64 0,.int .i64 0,.string ⟨#[]⟩,.int .u32 0] 135)).heap.size:=by simp
 generalize w7.alloc (.cells #[.int .i64 1,.int .i64 36,.int .i64 0,.int .i64 0,.int .i64 0,.int .i64 0,.string ⟨#[]⟩,.int .u32 0] 135)=w8 at *;have l1:=b2.size;obtain⟨q8,h9⟩:=Yx w7.heap.size;rw[<- h9] at j9 i1⊢;have C:∀j,w8.cell? ⟨q8,j,none⟩=(#[.int .i64 1,.int .i64 36,.int .i64 0,.int .i64 0,.int .i64 0,.int .i64 0,.string ⟨#[]⟩,.int .u32 0]:Array Value)[j]?:=λ j=>Zdp j9 j
 have g0:=C 0;have g1:=C 1;have g2:=C 2;have g3:=C 3;have g4:=C 4;have g5:=C 5;have g6:=C 6;have g7:=C 7;simp only[List.getElem?_toArray,List.getElem?_cons_zero,List.getElem?_cons_succ] at g0 g1 g2 g3 g4 g5 g6 g7;clear h9 j7 b4 l0 j9 C;have A:(w8.alloc (.cells #[.int .i64 2,.int .i64 0,.int .i64 0,.int .i64 0,.int .i64 0,.int .i64 0,.string kCode,.int .u32 0,.int .i64 2,.int .i64 0,.int .i64 0,.int .i64 0,.int .i64 0,.int .i64 0,.string kStub,.int .u32 0,.int .i64 1,.int .i64 36,.int .i64 0,.int .i64 0,.int .i64 0,.int .i64 0,.string ⟨#[]⟩,.int .u32 0,.int .i64 2,.int .i64 0,.int .i64 0,.int .i64 0,.int .i64 0,.int .i64 0,.string kMapped,.int .u32 0,.int .i64 6,.int .i64 0,.int .i64 0,.int .i64 0,.int .i64 0,.int .i64 0,.string ⟨#[]⟩,.int .u32 0,.int .i64 1,.int .i64 36,.int .i64 0,.int .i64 0,.int .i64 0,.int .i64 0,.string ⟨#[]⟩,.int .u32 0] 135)).ownsRow 0 135 8 (.slice (some ⟨w8.heap.size,0,none⟩) 6 6) 6 ([bL kCode,bL kStub,bHalt,bL kMapped,bW 0,bHalt].flatMap Zb):=Zjy (Ya2 _) rfl rfl (by simp[maxLen]);have c8:Below w.heap.size w (w8.alloc (.cells #[.int .i64 2,.int .i64 0,.int .i64 0,.int .i64 0,.int .i64 0,.int .i64 0,.string kCode,.int .u32 0,.int .i64 2,.int .i64 0,.int .i64 0,.int .i64 0,.int .i64 0,.int .i64 0,.string kStub,.int .u32 0,.int .i64 1,.int .i64 36,.int .i64 0,.int .i64 0,.int .i64 0,.int .i64 0,.string ⟨#[]⟩,.int .u32 0,.int .i64 2,.int .i64 0,.int .i64 0,.int .i64 0,.int .i64 0,.int .i64 0,.string kMapped,.int .u32 0,.int .i64 6,.int .i64 0,.int .i64 0,.int .i64 0,.int .i64 0,.int .i64 0,.string ⟨#[]⟩,.int .u32 0,.int .i64 1,.int .i64 36,.int .i64 0,.int .i64 0,.int .i64 0,.int .i64 0,.string ⟨#[]⟩,.int .u32 0] 135)):=b2.alloc l1 _;have h0:=n4.alloc (.cells #[.int .i64 2,.int .i64 0,.int .i64 0,.int .i64 0,.int .i64 0,.int .i64 0,.string kCode,.int .u32 0,.int .i64 2,.int .i64 0,.int .i64 0,.int .i64 0,.int .i64 0,.int .i64 0,.string kStub,.int .u32 0,.int .i64 1,.int .i64 36,.int .i64 0,.int .i64 0,.int .i64 0,.int .i64 0,.string ⟨#[]⟩,.int .u32 0,.int .i64 2,.int .i64 0,.int .i64 0,.int .i64 0,.int .i64 0,.int .i64 0,.string kMapped,.int .u32 0,.int .i64 6,.int .i64 0,.int .i64 0,.int .i64 0,.int .i64 0,.int .i64 0,.string ⟨#[]⟩,.int .u32 0,.int .i64 1,.int .i64 36,.int .i64 0,.int .i64 0,.int .i64 0,.int .i64 0,.string ⟨#[]⟩,.int .u32 0] 135);go_upto_region 7 with(at_builtin;refine Zt rfl (.tmp 36) (.tmp 43) _ rfl w.heap.size 135 Zu underlying103 rfl (by decide) _ _ _ rfl h0 _ (some ⟨w8.heap.size,0,none⟩) 6 6 _ rfl A.1 (λ h=>by cases h) (Zat A) (Zdc _) (by simp only[maxLen];omega) (by omega) c8.size ?_;intro v' w9 j6 r7 o5 m2;obtain⟨A9,c9,rfl⟩:=Za j6)
 have e9:Below w.heap.size w w9:=c8.trans o5;have o7:=e9.size;clear n4 h0 A c8 r7 o5 m2 b2 l1 i1 g0 g1 g2 g3 g4 g5 g6 g7;go_wp2_with fail
 refine(Zrk _ _ (by decide) (by decide)).mono ?_;rintro e q ⟨rfl,d5⟩;have i5:=Zc j6 d5;have Y:Below w.heap.size w q:=e9.trans (d5.mono o7);have m7:=Y.size;clear j6 d5 e9 o7;go_upto_region 8 with fail
 have A:(q.alloc (.cells #[.int .i64 2,.int .i64 0,.int .i64 0,.int .i64 0,.int .i64 0,.int .i64 0,.string ⟨#[109,111,114,101]⟩,.int .u32 0,.int .i64 8,.int .i64 0,.int .i64 0,.int .i64 0,.int .i64 0,.int .i64 0,.string ⟨#[]⟩,.int .u32 8,.int .i64 2,.int .i64 0,.int .i64 0,.int .i64 0,.int .i64 0,.int .i64 0,.string ⟨#[101,110,100]⟩,.int .u32 0] 135)).ownsRow q.heap.size 135 8 (.slice (some ⟨q.heap.size,0,none⟩) 3 3) 3 (tItems.flatMap Zb):=Zjy (Yd _) rfl rfl (by simp[maxLen]);have a0:Below w.heap.size w (q.alloc (.cells #[.int .i64 2,.int .i64 0,.int .i64 0,.int .i64 0,.int .i64 0,.int .i64 0,.string ⟨#[109,111,114,101]⟩,.int .u32 0,.int .i64 8,.int .i64 0,.int .i64 0,.int .i64 0,.int .i64 0,.int .i64 0,.string ⟨#[]⟩,.int .u32 8,.int .i64 2,.int .i64 0,.int .i64 0,.int .i64 0,.int .i64 0,.int .i64 0,.string ⟨#[101,110,100]⟩,.int .u32 0] 135)):=Y.alloc m7 _;have h7:=i5.alloc (.cells #[.int .i64 2,.int .i64 0,.int .i64 0,.int .i64 0,.int .i64 0,.int .i64 0,.string ⟨#[109,111,114,101]⟩,.int .u32 0,.int .i64 8,.int .i64 0,.int .i64 0,.int .i64 0,.int .i64 0,.int .i64 0,.string ⟨#[]⟩,.int .u32 8,.int .i64 2,.int .i64 0,.int .i64 0,.int .i64 0,.int .i64 0,.int .i64 0,.string ⟨#[101,110,100]⟩,.int .u32 0] 135);generalize q.alloc (.cells #[.int .i64 2,.int .i64 0,.int .i64 0,.int .i64 0,.int .i64 0,.int .i64 0,.string ⟨#[109,111,114,101]⟩,.int .u32 0,.int .i64 8,.int .i64 0,.int .i64 0,.int .i64 0,.int .i64 0,.int .i64 0,.string ⟨#[]⟩,.int .u32 8,.int .i64 2,.int .i64 0,.int .i64 0,.int .i64 0,.int .i64 0,.int .i64 0,.string ⟨#[101,110,100]⟩,.int .u32 0] 135)=w11 at *;have d0:=a0.size;clear i5 Y;go_upto_region 9 with fail
 go_upto_region 10 with(at_builtin;refine Zk rfl (.tmp 49) (.tmp 52) _ rfl w11.heap.size 105 Ze underlying102 rfl (by decide) #[.string kHead,.slice A9 (1+G+1+T+6) c9] _ _ _ rfl (World.ownsRow_nil _ _ _ _) rfl rfl rfl (by simp[Yt]) (by simp[maxLen]) (by decide) (Yd _) ?_;intro v' q2 e8 m5 a2 i7;obtain⟨t0,s9,rfl⟩:=Za e8)
 have I:Below w.heap.size w q2:=a0.trans (a2.mono d0);have p1:=I.size;have X:=a2.size;have o4:=q4.out.below I;clear m5 i7;go_upto_region 11 with(at_builtin;refine Zt rfl (.tmp 54) (.tmp 55) _ rfl w11.heap.size 105 Ze underlying102 rfl (by decide) _ _ _ rfl e8 w.heap.size Ao O co oc rfl a5 f0 o4 a8 (by simp only[maxLen];omega) (by omega) X ?_;intro v' r8 b6 n8 a1 k5;obtain⟨t3,t1,rfl⟩:=Za b6)
 have j3:Below w.heap.size w r8:=I.trans (a1.mono d0);go_upto_region 12 with(at_builtin;refine Zk rfl (.tmp 57) (.tmp 60) _ rfl w11.heap.size 105 Ze underlying102 rfl (by decide) #[.string kTail,.slice (some ⟨q.heap.size,0,none⟩) 3 3] _ _ _ rfl b6 rfl rfl rfl (by simp[Yt]) (by simp only[maxLen];omega) (by omega) (Yaa X a1.size) ?_;intro v' D f3 l8 i2 j4;obtain⟨m3,o6,rfl⟩:=Za f3)
 have n:Below w11.heap.size w11 D:=a2.trans (a1.trans i2);have E:Below w.heap.size w D:=a0.trans (n.mono d0);have b8:=Zc h7 n;have a3:=Zc A n;have d6:=E.size;clear h7 A a0 a2 a1 i2 n8 l8 k5 j4 e8 b6 I j3 n o4 p1 X;have d4:Items D D.heap.size A9 (hItems gw sw):=Zj0 b8 (by
  unfold hItems;simp only[Yat,Ybg,List.flatMap_nil,List.append_nil,List.append_assoc];rfl) (λ x hx=>by
  unfold hItems at hx;simp only[Yu,Yaq,Yby,Yy,or_false] at hx;rcases hx with rfl|⟨w,hw,rfl⟩|rfl|⟨w,hw,rfl⟩|rfl|rfl|rfl|rfl|rfl|rfl
  .decide
  .exact r3.out w hw
  .decide
  .exact r6.out w hw
  all_goals decide)
 have b3:Items D D.heap.size (some ⟨q.heap.size,0,none⟩) tItems:=Zj0 a3 rfl (λ x hx=>by
  unfold tItems at hx;simp only[Yu,Yy,or_false] at hx;rcases hx with rfl|rfl|rfl <;> decide)
 have p4:(hItems gw sw).length=1+G+1+T+6:=by rw[Zbe,HG.out,HT.out];omega
 have N:∀y∈hItems gw sw,y.label.size<=maxLen:=λ y hy=>by
  unfold hItems at hy;simp only[Yu,Yaq,Yby,Yy,or_false] at hy;rcases hy with rfl|⟨w,hw,rfl⟩|rfl|⟨w,hw,rfl⟩|rfl|rfl|rfl|rfl|rfl|rfl
  all_goals first|decide | (show bNo.size<=maxLen;decide)
 have g9:=OC.one_ (x:=oHead gw sw) (c:=c9) d4 (show kHead.size<=maxLen by decide) N;have h6:=OC.one_ (x:=oTail) (c:=3) b3 (by decide) (λ y hy=>by
  have Z:y∈tItems:=hy;unfold tItems at Z;simp only[Yu,Yy,or_false] at Z;rcases Z with rfl|rfl|rfl <;> decide)
 have i4:=(g9.app (((s0.out.below E).more d6))).app h6;have a7:(af gw sw os).length=0+1+O+1:=by
  unfold af;rw[List.length_cons,Yc,<- HO.out];simp;omega
 have f2:Objs D D.heap.size m3 (af gw sw os):=by
  refine Zvh (base:=w11.heap.size) (e:=105) (c:=o6) (oc:=[]++#[Ycj kHead,Y6 A9 (1+G+1+T+6) c9].toList++oc++#[Ycj kTail,Y6 (some ⟨q.heap.size,0,none⟩) 3 3].toList) (by rw[a7];exact f3) ?_;have e:af gw sw os=[oHead gw sw]++os++[oTail]:=by simp[af]
  rw[e];have J:([]++#[Ycj kHead,Y6 A9 (1+G+1+T+6) c9].toList++oc++#[Ycj kTail,Y6 (some ⟨q.heap.size,0,none⟩) 3 3].toList:List Value)=[Ycj kHead,Y6 A9 (hItems gw sw).length c9]++oc++[Ycj kTail,Y6 (some ⟨q.heap.size,0,none⟩) tItems.length 3]:=by
   rw[p4];rfl
  rw[J];exact i4
 have k2:=Zrd m3 o6 (af gw sw os) 0 D f2 (by rw[a7];omega) s1.out (λ k o l x hx=>by
  have hm:=List.mem_of_getElem? l;unfold af at hm;rcases Yu.1 hm with rfl|hm
  .have h1:=N x hx
   have h2:(oHead gw sw).name.size<=100:=show kHead.size<=100 by decide
   simp only[maxLen] at h1;have h3:x.label.size<=100:=by
    have hy:x∈hItems gw sw:=hx;unfold hItems at hy;simp only[Yu,Yaq,Yby,Yy,or_false] at hy;rcases hy with rfl|⟨w,hw,rfl⟩|rfl|⟨w,hw,rfl⟩|rfl|rfl|rfl|rfl|rfl|rfl
    all_goals first|decide | (show bNo.size<=100;decide)
   omega
  .rcases Yaq.1 hm with hm|hm
   .have:=(o8.out o hm).1
    have:=(o8.out o hm).2 x hx;omega
   .rw[List.mem_singleton] at hm
    subst hm;have Z:x∈tItems:=hx;unfold tItems at Z;simp only[Yu,Yy,or_false] at Z;rcases Z with rfl|rfl|rfl <;> decide)
 rw[a7] at k2;have p6:=Ya k2;clear k2 f2 i4 g9 h6 d4 b3 N p4 a7 f3 b8 a3 a8 a5 f0;go_wp2_with fail
 refine p6.out.mono ?_;rintro e u ⟨vo,vp,r,L,P,rfl,c0,b1,a4,h4⟩;obtain⟨rfl,r1,o0,p0,n0⟩:=m1.out r L P c0;obtain⟨Aw,cw,rfl⟩:=Za b1;obtain⟨Ap,cp,rfl⟩:=Za a4;have q1:=Ya c0;have q7:=Ya p0;have m6:=Ya (Reads.of_own b1);have m9:=Ya (ReadsP.of_own a4);have s2:=Ya (show ∀k o s,Ap=some ⟨k,o,s⟩->k<u.heap.size from λ k o s e=>(a4.lt k (by rw[e];rfl)).2);have V:=E.trans (h4.mono d6);have s7:=V.size;clear c0 p0 b1 a4 h4 p6 m1;obtain⟨x1,x2,x3⟩:=Zfd u #[.slice Aw L.length cw,.slice Ap P.length cp] 35;go_upto_region 13 with fail
 generalize u.alloc (.cells #[.slice Aw L.length cw,.slice Ap P.length cp] 35)=w16 at *;have i9:w16.cell? ⟨u.heap.size,0,none⟩=some (.slice Aw L.length cw):=by simp[World.cell?,x1]
 have k4:w16.cell? ⟨u.heap.size,1,none⟩=some (.slice Ap P.length cp):=by simp[World.cell?,x1]
 have b7:=x2.size;have d7:u.heap.size<w16.heap.size:=by omega
 have i:=V.trans (x2.mono (by omega));have j1:w.heap.size<=w16.heap.size:=i.size;have f1:=Ya ((m6.out.below x2).moreM b7);have f4:=Ya ((m9.out.below x2));obtain⟨NL,a9⟩:=Yx L.length;have l3:=Ya a9;obtain⟨NP,f7⟩:=Yx P.length;have l9:=Ya f7;rw[<- a9] at i9 r1 o0;rw[<- f7] at k4 n0;rw[<- a9,<- f7];have n1:((NL:Int)==0)=false:=by simp;omega
 have n2:IntKind.i64.wrap ((NL:Int)+heap)=NL+heap:=Yp _ ⟨by omega,by omega⟩;have o3:=Ya x2;have s6:=Ya x1;have k7:=Ya (show Calls prog 56 #[.slice Aw NL cw,.int .i64 (NL+heap),.slice Ai NI ci] w16 (Zof w16 NL (NL+heap) inp (Zh9 L (NL+heap).toNat inp)) by
  have:=Zv2 Aw Ai cw ci L inp (NL+heap) w16 f1.out ((HI.out.below i).moreM i.size) (by rw[<- a9];exact o0) (by rw[<- k9.out];exact n3) q7.out s4.out;rw[<- a9,<- k9.out] at this;exact this)
 clear x1 x2 x3 a9 f7 m6 m9 E d6;go_wp2_with fail
 refine k7.out.mono ?_;rintro e e5 (⟨f0,-⟩|⟨-,p,vm,t5,t4,rfl,hm,z,p2⟩)
 .exact absurd (show Zhc NL (NL+heap) from⟨by omega,by omega,by omega⟩) f0
 have p5:=z.size;have i3:u.heap.size<e5.heap.size:=by omega
 have k0:e5.cell? ⟨u.heap.size,0,none⟩=some (.slice Aw NL cw):=(z.cell (p:=⟨u.heap.size,0,none⟩) d7).trans i9;have k1:e5.cell? ⟨u.heap.size,1,none⟩=some (.slice Ap NP cp):=(z.cell (p:=⟨u.heap.size,1,none⟩) d7).trans k4;have b9:=i.trans (z.mono i.size);have HM:=Ya hm;have k8:=Ya p2;have b5:=Ya (f4.out.below (z.mono b7));have e6:=Ya (show ∀k o s,Ap=some ⟨k,o,s⟩->k<w16.heap.size from λ k o s e=>Yr (s2.out k o s e) b7);have R:=Ya b9;clear hm p2 i9 k4 z V i b9 k7 o3 s6 f1 f4 d7;have d2:Int.tdiv heap 2=heap/2:=Int.tdiv_eq_ediv_of_nonneg i8.1;go_upto_region 18 with fail
 go_upto_region 19 with fail
 obtain⟨hf,j5⟩:=Yx (heap/2);have n6:=Ya j5;have s8:0<=hf/\hf<=heap:=by omega
 simp only[<- j5];clear j5;have a:=Ya (Zye (Aw:=Aw) (NL:=NL) (cw:=cw) (cp:=cp) (H:=NL) (half:=hf) HM.out k8.out j1 (b5.out.same' (Yay i3)) e6.out l9.out (by rw[<- l9.out];exact n0));have f:=Ya (R.out.alloc R.out.size (.cells #[.pointer (some ⟨p,0,none⟩),.slice Aw NL cw,.slice Ap NP cp,.int .i64 NL,.int .i64 hf] 37));generalize e5.alloc (.cells #[.pointer (some ⟨p,0,none⟩),.slice Aw NL cw,.slice Ap NP cp,.int .i64 NL,.int .i64 hf] 37)=w20 at *;generalize e5.heap.size=bb at *;obtain⟨F,hF⟩:=Yx (Zai p vm (.slice none 0 0));rw[<- hF] at a;clear hF HM k8 b5 e6 R k0 k1 i3 p5 d2;have c1:heap%4294967296=heap:=by omega
 have c2:(NL:Int)%4294967296=NL:=by omega
 have c3:IntKind.i64.wrap ((NL:Int)+hf)=NL+hf:=Yp _ ⟨by omega,by omega⟩;have c4:((NL:Int)+hf)%4294967296=NL+hf:=by omega
 have c5:hf%4294967296=hf:=by omega
 obtain⟨_,_,_,_,_,_,e0,U,J,Q,M⟩:=a.out.cells;have g:=a.out.blt;have K:=Ya (show ∀y:Ext w20,KAt y.val w.heap.size bb p F NL hf P _ from λ y=>a.out.below y.property);go_wp2_with fail
 refine(Zg1 1 heap a.out ⟨by omega,by omega⟩).mono ?_;rintro e r5 ⟨rv,rfl,t,l⟩;have d:=Ya (Za4 (B:=0) f.out a.out l);clear a f l e0 U J Q M g K;have a:=Ya t;have f:=d;clear t d;obtain⟨_,_,_,_,_,_,e0,U,J,Q,M⟩:=a.out.cells;have g:=a.out.blt;have K:=Ya (show ∀y:Ext r5,KAt y.val w.heap.size bb p F NL hf P _ from λ y=>a.out.below y.property);go_wp2_with fail
 refine(Zg1 2 NL a.out ⟨by omega,by omega⟩).mono ?_;rintro e l4 ⟨rv,rfl,t,l⟩;have d:=Ya (Za4 (B:=0) f.out a.out l);clear a f l e0 U J Q M g K;have a:=Ya t;have f:=d;clear t d;obtain⟨_,_,_,_,_,_,e0,U,J,Q,M⟩:=a.out.cells;have g:=a.out.blt;have K:=Ya (show ∀y:Ext l4,KAt y.val w.heap.size bb p F NL hf P _ from λ y=>a.out.below y.property);go_upto_region 21 with fail
 refine Zm 11 (by kernel_rfl) (by kernel_rfl) ?_;have hE:=Zo l4;simp only[Yaw,Yaz,Ya1,Ybc]
 repeat (first|go_big_quiet_step (fail))
 refine wpQuiet_nil ?_;rintro y ⟨⟨_,d8⟩,rfl⟩;have d9:=Ya (K.out ⟨y,d8⟩);have d1:=Ya (f.out.trans (d8.mono f.out.size));clear hE a f;have a:=d9;have f:=d1;clear d9 d1;go_wp2_with fail
 refine(Zg1 3 (NL+hf) a.out ⟨by omega,by omega⟩).mono ?_;rintro e s5 ⟨rv,rfl,t,l⟩;have d:=Ya (Za4 (B:=0) f.out a.out l);clear a f l e0 U J Q M g K;have a:=Ya t;have f:=d;clear t d;obtain⟨_,_,_,_,_,_,e0,U,J,Q,M⟩:=a.out.cells;have g:=a.out.blt;have K:=Ya (show ∀y:Ext s5,KAt y.val w.heap.size bb p F NL hf P _ from λ y=>a.out.below y.property);go_wp2_with fail
 refine(Zg1 4 hf a.out ⟨by omega,by omega⟩).mono ?_;rintro e q6 ⟨rv,rfl,t,l⟩;have d:=Ya (Za4 (B:=0) f.out a.out l);clear a f l e0 U J Q M g K;have a:=Ya t;have f:=d;clear t d;obtain⟨_,_,_,_,_,_,e0,U,J,Q,M⟩:=a.out.cells;have g:=a.out.blt;have K:=Ya (show ∀y:Ext q6,KAt y.val w.heap.size bb p F NL hf P _ from λ y=>a.out.below y.property);go_wp2_with fail
 refine(Zg1 5 38 a.out ⟨by omega,by omega⟩).mono ?_;rintro e s3 ⟨rv,rfl,t,l⟩;have d:=Ya (Za4 (B:=0) f.out a.out l);clear a f l e0 U J Q M g K;have a:=Ya t;have f:=d;clear t d;obtain⟨_,_,_,_,_,_,e0,U,J,Q,M⟩:=a.out.cells;have g:=a.out.blt;have K:=Ya (show ∀y:Ext s3,KAt y.val w.heap.size bb p F NL hf P _ from λ y=>a.out.below y.property);go_wp2_with fail
 refine(Zg2 26 NL a.out ⟨by omega,by omega⟩).mono ?_;rintro e o9 ⟨rv,rfl,t,l⟩;have d:=Ya (Za4 (B:=0) f.out a.out l);clear a f l e0 U J Q M g K;have a:=Ya t;have f:=d;clear t d;obtain⟨_,_,_,_,_,_,e0,U,J,Q,M⟩:=a.out.cells;have g:=a.out.blt;have K:=Ya (show ∀y:Ext o9,KAt y.val w.heap.size bb p F NL hf P _ from λ y=>a.out.below y.property);go_upto_region 25 with fail
 refine Zm 11 (by kernel_rfl) (by kernel_rfl) ?_;have hE:=Zo o9;simp only[Yaw,Yaz,Ya1,Ybc]
 repeat (first|go_big_quiet_step (fail))
 refine wpQuiet_nil ?_;rintro y ⟨⟨_,d8⟩,rfl⟩;have d9:=Ya (K.out ⟨y,d8⟩);have d1:=Ya (f.out.trans (d8.mono f.out.size));clear hE a f;have a:=d9;have f:=d1;clear d9 d1;go_wp2_with fail
 refine(Zg2 27 (NL+hf) a.out ⟨by omega,by omega⟩).mono ?_;rintro e r4 ⟨rv,rfl,t,l⟩;have d:=Ya (Za4 (B:=0) f.out a.out l);clear a f l e0 U J Q M g K;have a:=Ya t;have f:=d;clear t d;obtain⟨_,_,_,_,_,_,e0,U,J,Q,M⟩:=a.out.cells;have g:=a.out.blt;have K:=Ya (show ∀y:Ext r4,KAt y.val w.heap.size bb p F NL hf P _ from λ y=>a.out.below y.property);go_wp2_with fail
 refine(Zg2 28 1056 a.out ⟨by omega,by omega⟩).mono ?_;rintro e t2 ⟨rv,rfl,t,l⟩;have d:=Ya (Za4 (B:=0) f.out a.out l);clear a f l e0 U J Q M g K;have a:=Ya t;have f:=d;clear t d;go_wp2_with fail
 refine bodyPost_ret (v:=.pointer (some ⟨bb,0,none⟩)) (results_tmp results72 _ _ _) rfl ⟨L,P,bb,p,F,q1.out,rfl,?_,f.out⟩;rw[<- l3.out,<- n6.out];have e:wM L heap inp=((((((((Zh9 L ((NL:Int)+heap).toNat inp).putV 1 heap).putV 2 NL).putV 3 (NL+hf)).putV 4 hf).putV 5 38).setV 26 NL).setV 27 (NL+hf)).setV 28 1056:=by
  unfold wM;rw[<- l3.out,<- n6.out]
 rw[e];exact a.out
theorem Zix:(prog.info? 149).map (λ i=>(i.zero,i.size,i.bytes))=some (some (.agg #[.int .i64 0,.int .i64 0,.string ByteArray.empty,.slice none 0 0,.slice none 0 0,.slice none 0 0,.slice none 0 0]),7,128):=by kernel_rfl
theorem Zg3:prog.underlying 147=some (.slice 149):=underlying147
theorem Zyf (n:Nat)(h0:0<n)(h1:n<=100000)(w:World):Calls prog 231 #[.slice none 0 0,.int .i64 n] w λ e w'=>∃s,e=.returned s/\w'.ownsRow w.heap.size 149 7 s 0 []/\Below w.heap.size w w':=by
 obtain⟨i,hi,f⟩:∃i,prog.info? 149=some i/\(i.zero,i.size,i.bytes)=(some (.agg #[.int .i64 0,.int .i64 0,.string ByteArray.empty,.slice none 0 0,.slice none 0 0,.slice none 0 0,.slice none 0 0]),7,128):=by
  have h:=Zix
  cases hx:prog.info? 149 with
  | none=>rw[hx] at h;cases h
  | some i=>rw[hx] at h;exact⟨i,rfl,Option.some.inj h⟩
 simp only[Prod.mk.injEq] at f;obtain⟨v,x,u⟩:=f;have d:∀q,(Builtin.append_ #[147,3] q #[.slice none 0 0,.int .i64 n]).run prog w=.ok (.slice (some ⟨w.heap.size,0,none⟩) n (grownCap w n 0 149)) (w.drew.alloc (.cells (Builtin.zeroCells _ n++Builtin.zeroCells _ (grownCap w n 0 149-n)) 149)):=λ q =>
  Lib.run_append_nil_zeros w 147 3 q 149 i _ .i64 .i64 Zg3 underlying3 hi v n h0 (by rw[x];decide) (by omega) (by rw[u];omega)
 have l:n<=grownCap w n 0 149:=grownCap_ge w _ _ _;have a:grownCap w n 0 149<=maxLen:=grownCap_le_maxLen w n 0 149 (by simp only[maxLen];omega);obtain⟨G,o⟩:=Yx (grownCap w n 0 149);rw[<- o] at l a;simp only[<- o] at d;have r:G<=9223372036854775807:=by simp only[maxLen] at a;omega
 have k1:decide ((n:Int)>0)=true:=decide_eq_true (by omega);have k2:decide ((n:Int)<0)=false:=decide_eq_false (by omega);have k3:(0:Int)<n:=by omega
 have g:=Ya a;obtain⟨t,c⟩:=Yx (Builtin.zeroCells (Value.agg #[.int .i64 0,.int .i64 0,.string ByteArray.empty,.slice none 0 0,.slice none 0 0,.slice none 0 0,.slice none 0 0]).cells n++Builtin.zeroCells (Value.agg #[.int .i64 0,.int .i64 0,.string ByteArray.empty,.slice none 0 0,.slice none 0 0,.slice none 0 0,.slice none 0 0]).cells (G-n));have j:=Ya (show t.size=G*7 by
  rw[c,Array.size_append,size_zeroCells,size_zeroCells]
  show n*7+(G-n)*7=G*7
  omega)
 simp only[<- c] at d;clear o c a hi v x u;go_enter func231,ntmps231
 go_wp2_with (at_builtin;refine Lib.wpList_append_run _ rfl _ _ _ _ rfl _ _ rfl rfl _ _ (d _) ?_)
 go_ret
 refine⟨_,rfl,⟨rfl,.inr ⟨w.heap.size,G,t,rfl,Yd _,heap_alloc_new _ _,Ya2 _,g.out,j.out,rfl⟩⟩,?_⟩;exact((Below.refl w.heap.size w).drew).alloc (Yd _) _
structure S.ax where
 A:Option Addr
 n:Nat
 c:Nat
 xs:List Value
def S.ax.val (p:ax):Value:=.slice p.A p.n p.c
def S.am (ps:List ax):Nat:=(ps.map ax.n).sum
def S.az (ps:List ax):List Value:=ps.flatMap ax.xs
theorem Zeo {a:List ax}{i:Nat}(h:i<a.length):am (a.take (i+1))=am (a.take i)+a[i].n:=by
 unfold am;rw[Yar,Ye h,Ya3,List.sum_append];simp
theorem Zrs {a:List ax}{i:Nat}(h:i<a.length):az (a.take (i+1))=az (a.take i)++a[i].xs:=by
 unfold az;rw[Yar,Ye h,Ybg];simp
theorem Zj1 (a:List ax)(i:Nat):am (a.take i)<=am a:=by
 have h:am a=am (a.take i)+am (a.drop i):=by
  unfold am;rw[<- List.sum_append,<- Ya3,List.take_append_drop]
 omega
structure S.bn (w:World)(p:ax):Prop where
 len:p.xs.length=p.n*7
 nil:p.A=none->p.n=0
 at_:Reads w w.heap.size p.A p.xs
 one:∀u∈p.xs,u.oneCell'=true
theorem Zrt (A:Option Addr)(k c:Nat)(a:List ax)(R:k=a.length)(w:World)(h:Reads w w.heap.size A (a.map ax.val))(hp:∀p∈a,bn w p)(h0:0<am a)(U:am a<=100000)(a0:k<=1000) :
 Calls prog 184 #[.slice A k c] w λ e w'=>∃E,e=.returned E/\w'.ownsRow w.heap.size 149 7 E (am a) (az a)/\Below w.heap.size w w':=by
 have I:=Ya R;have W:=Ya h;have HP:=Ya hp;have H0:=Ya h0;have H1:=Ya U;clear R h hp h0 U;go_enter func184,ntmps184
 go_wp2_with fail
 go_loopw [3,11] (λ v3 t wr=>∃i:Nat,i<=k/\v3=.int .i64 (am (a.take i))/\t=.int .i64 i/\w=wr) (λ _ t _=>k-(intOf t).toNat)
 case atStart=>exact⟨0,Ya2 _,rfl,rfl,rfl⟩
 case round =>
  obtain⟨i,hi,rfl,rfl,rfl⟩:=hrel;have C:=Zj1 a i;have M:=H1.out;by_cases r:i<k
  .have hil:i<a.length:=by rw[<- I.out];exact r
   obtain⟨b1,o1,s,l,f⟩:=W.out (by rw[Y3];omega);have v:=f i a[i].val (by rw[Yac,Ye hil];rfl);have q:=Ya (Zeo hil);have d:=Zj1 a (i+1);rw[Zeo hil] at d;obtain⟨p,hp⟩:=Yx a[i];rw[<- hp] at v d q;obtain⟨T,g⟩:=Yx (am (a.take i));rw[<- g] at C d q⊢;unfold ax.val at v;have d1:decide ((i:Int)<(k:Int))=true:=decide_eq_true (by omega);have Z:(i:Int)<(k:Int):=by omega
   have p1:IntKind.i64.wrap ((T:Int)+p.n)=((T+p.n:Nat):Int):=by rw[Yp _ ⟨by omega,by omega⟩];omega
   have p2:IntKind.i64.wrap ((i:Int)+1)=(i:Int)+1:=Yp _ ⟨by omega,by omega⟩;have d2:decide (((T+p.n:Nat):Int)<0)=false:=decide_eq_false (by omega);subst s;clear f hp g;go_wp2_with fail
   go_roundw
   case rel=>exact⟨i+1,by omega,by rw[q.out];go_num,by go_num,trivial⟩
   case measure=>simp[intOf] <;> omega
  .have hie:k=i:=by omega
   subst hie;have d1:decide ((k:Int)<(k:Int))=false:=by simp
   have J:=Ya (show a.take k=a from by rw[I.out,List.take_length]);have B:=H0.out;obtain⟨N,D⟩:=Yx (am a);rw[J.out,<- D];have X:=Ya D;rw[<- D] at B M;clear C D;go_wp2_with fail
   refine(Zyf N B (by omega) w).mono ?_;rintro e w1 ⟨v1,rfl,x,l⟩;have G:=Ya x;have L:=Ya l;clear x l;go_wp2_with fail
   go_loopw [6,27] (λ v6 o Y=>∃i:Nat,i<=k/\o=.int .i64 i/\Hid (Y.ownsRow w.heap.size 149 7 v6 (am (a.take i)) (az (a.take i)))/\Hid (Below w.heap.size w Y)) (λ _ o _=>k-(intOf o).toNat)
   case atStart=>exact⟨0,Ya2 _,rfl,G,L⟩
   case round =>
    obtain⟨i,hi,rfl,u,y⟩:=hrel;obtain⟨A6,c6,rfl⟩:=Za u.out;have C:=Zj1 a i;rw[<- X.out] at C;by_cases r:i<k
    .have hil:i<a.length:=by rw[<- I.out];exact r
     obtain⟨b1,o1,s,l,f⟩:=W.out.below y.out (by rw[Y3];omega);have v:=f i a[i].val (by rw[Yac,Ye hil];rfl);have q:=Ya (Zeo hil);have V:=Ya (Zrs hil);have d:=Zj1 a (i+1);rw[Zeo hil,<- X.out] at d;have j:=Ya (HP.out a[i] (List.getElem_mem hil));obtain⟨p,hp⟩:=Yx a[i];rw[<- hp] at v d q V j;obtain⟨T,g⟩:=Yx (am (a.take i));rw[<- g] at C d q u⊢;unfold ax.val at v;have d1:decide ((i:Int)<(k:Int))=true:=decide_eq_true (by omega);have Z:(i:Int)<(k:Int):=by omega
     have p2:IntKind.i64.wrap ((i:Int)+1)=(i:Int)+1:=Yp _ ⟨by omega,by omega⟩;subst s;clear f hp g;go_wp2_with (at_builtin;refine Zt rfl (.tmp 31) (.tmp 32) _ rfl w.heap.size 149 Zix Zg3 rfl (by decide) _ _ _ rfl u.out w.heap.size p.A p.n p.c p.xs rfl j.out.len j.out.nil (j.out.at_.below y.out) j.out.one (by simp only[maxLen];omega) (by omega) y.out.size ?_;intro E w4 z a1 K Q;obtain⟨A4,c4,rfl⟩:=Za z)
     go_roundw
     case rel=>exact⟨i+1,by omega,by go_num,Ya (by rw[q.out,V.out];exact z),Ya (y.out.trans K)⟩
     case measure=>simp[intOf] <;> omega
    .have hie:k=i:=by omega
     subst hie;have d1:decide ((k:Int)<(k:Int))=false:=by simp
     have O:am (a.take k)=am a:=by rw[J.out]
     have e2:az (a.take k)=az a:=by rw[J.out]
     rw[O,e2] at u;rw[O];go_wp2_with fail
     go_ret
     exact⟨_,rfl,u.out,y.out⟩
namespace S
def ccRows:List AV->Option (Nat×List AV)
 | []=>some (0,[])
 | x::r=>match x with
  | .row n c=>if c.length=n*7 then(match ccRows r with|some y=>some (n+y.1,c++y.2) | none=>none) else none
  | _=>none
def concatA (x:AV):Option (AV×Tail):=match x with
 | .row k rows=>if k=rows.length/\k<=1000 then(match ccRows rows with|some y=>if 0<y.1/\y.1<=100000 then some (.row y.1 y.2,none) else none|none=>none) else none
 | _=>none
def orcN (f:FuncId)(xs:List AV):Option (AV×Tail) :=
 if f=184 then(match xs with | [x]=>concatA x|_=>none) else orcB f xs
end S
theorem Zvi {H:Zl}{w w':World}{n:Nat}{A:Option Addr}{c:Nat}{t:TypeId}{z:Nat}{cs:List S.AV}{xs:List Value}(a:∀b k,H b=some k->Bk w b)(x:Below w.heap.size w w')
 (v:w'.ownsRow w.heap.size t z (.slice A n c) n xs) (r:RepL H w cs xs) (hz:0<z):∃q:Zl,(∀b,b<w.heap.size->q b=H b)/\(∀b k,q b=some k->Bk w' b)/\RepV q w' (.row n cs) (.slice A n c):=by
 have C:∀q:Zl,(∀b,b<w.heap.size->q b=H b)->RepL q w' cs xs:=λ q h=>r.stay (λ b k f=>⟨k,by rw[h b (a b k f).lt];exact f,Yd _,λ o _=>x.cell (p:=⟨b,o,none⟩) (a b k f).lt⟩) _ _
 have d:cs.length=n*z:=by rw[<- v.1];exact(RepL.length r).symm
 rcases v.2 with⟨e,rfl⟩|⟨g,cap,B,e,hg,i,hn,E,D,l⟩
 .cases e
  refine⟨H,λ _ _=>rfl,λ b k f=>(a b k f).below x,?_⟩;rw[RepV];exact⟨none,0,rfl,λ _=>Yz (by rw[d];simp),λ _=>rfl,.inl (Yz (by rw[d];simp))⟩
 .cases e
  have hH:∀b,b<w.heap.size->(λ b=>if b=g then some cs.length else H b) b=H b:=λ b G=>by simp only;rw[if_neg (by omega)]
  refine⟨λ b=>if b=g then some cs.length else H b,hH,λ b k f=>?_,?_⟩
  .simp only at f
   by_cases h:b=g
   .rw[h];exact⟨_,_,i⟩
   .rw[if_neg h] at f;exact(a b k f).below x
  .rw[RepV]
   refine⟨_,_,rfl,λ h0=>Yz (by rw[d,h0];simp),λ h0=>(by cases h0),.inr ⟨g,0,cs.length,rfl,by simp,by omega,Zho (C _ hH) λ j u y=>?_⟩⟩;rw[Yb i,Nat.zero_add];have s:j<n*z:=by rw[<- v.1];exact(List.getElem?_eq_some_iff.1 y).1
   rw[<- l,List.getElem?_take,if_pos s] at y
   simpa using y
theorem Zn9 {H:Zl}{w:World}(l:∀b k,H b=some k->b<w.heap.size):∀{a:List S.AV} {y:Nat×List S.AV} {vs:List Value},S.ccRows a=some y->RepL H w a vs->∃d:List ax,d.map ax.val=vs/\(∀p∈d,bn w p)/\am d=y.1/\RepL H w y.2 (az d)
 | [],y,vs,h,hr=>by
  rw[RepL] at hr;subst hr
  cases h
  exact⟨[],rfl,λ p hp=>(by cases hp),rfl,by show RepL H w [] [];rw[RepL]⟩
 | x::r,y,vs,h,hr=>by
  rw[RepL] at hr;obtain⟨v,rs,rfl,G,q,i⟩:=hr;unfold S.ccRows at h
  split at h
  .rename_i n c
   split at h
   .rename_i hc
    split at h
    .rename_i y' hy'
     cases h
     obtain⟨d,z,C,E,t⟩:=Zn9 l hy' i;rw[RepV] at q;obtain⟨A,g,rfl,h0,hA,j⟩:=q;have e:∃xs,xs.length=n*7/\Reads w w.heap.size A xs/\(∀u∈xs,u.oneCell'=true)/\RepL H w c xs:=by
      rcases j with rfl|⟨b,o,k,rfl,D,_,f⟩
      .exact⟨[],hc,λ hp=>by simp at hp,λ u I=>(by cases I),by rw[RepL]⟩
      .obtain⟨us,q1,q2⟩:=Zb8 f
       exact⟨us,by rw[RepL.length q1];exact hc,λ _=>⟨b,o,rfl,l b k D,q2⟩,RepL.one q1,q1⟩
     obtain⟨xs,s,k2,B,J⟩:=e;refine⟨⟨A,n,g,xs⟩::d,by rw[Ybt,z];rfl,λ p hp=>?_,?_,?_⟩
     .rcases Yu.1 hp with rfl|hp
      .exact⟨s,hA,k2,B⟩
      .exact C p hp
     .show(List.map ax.n (⟨A,n,g,xs⟩::d)).sum=n+y'.1
      rw[Ybt,List.sum_cons,<- E];rfl
     .show RepL H w (c++y'.2) (List.flatMap ax.xs (⟨A,n,g,xs⟩::d))
      rw[Yat];exact RepL.append J t
    .cases h
   .cases h
  .cases h
theorem Zk9 {x:S.AV}{r:S.AV}{y:S.Tail}(h:S.concatA x=some (r,y)):AFn prog LVE 184 [x] r y:=by
 intro H w vs a hL d;rw[RepT] at d;obtain⟨v,L,rfl,C,f⟩:=d;rw[RepT] at f;subst f;unfold S.concatA at h
 split at h
 .rename_i k rows
  split at h
  .rename_i hk
   split at h
   .rename_i z i
    split at h
    .rename_i hN
     cases h
     rw[RepV] at C;obtain⟨A,c,rfl,h0,hA,s⟩:=C;rcases s with rfl|⟨b,o,K,rfl,l,_,n⟩
     .cases i
      have:=hN.1;simp at this
     .obtain⟨L,q1,q2⟩:=Zb8 n
      obtain⟨B,u,I,q,E⟩:=Zn9 (λ b k h=>(a b k h).lt) i q1;have g:k=B.length:=by rw[hk.1,<- RepL.length q1,<- u,Y3]
      refine(Zrt _ k c B g w (λ _=>⟨b,o,rfl,(a b K l).lt,by rw[u];exact q2⟩) I (by rw[q];exact hN.1) (by rw[q];exact hN.2) hk.2).mono ?_;rintro e w' ⟨v',rfl,j,t⟩;obtain⟨A',c',rfl⟩:=Za j;rw[q] at j⊢;obtain⟨M,D,J,G⟩:=Zvi a t j E (by decide);exact⟨_,M,rfl,t,D,J,G,λ z i=>by cases i⟩
    .cases h
   .cases h
  .cases h
 .cases h
theorem Ziy (f:FuncId)(xs:List S.AV)(r:S.AV)(y:S.Tail)(h:S.orcN f xs=some (r,y)):AFn prog LVE f xs r y:=by
 unfold S.orcN at h
 split at h
 .rename_i hf
  subst hf
  split at h
  .exact Zk9 h
  .cases h
 .exact Zjm f xs r y h
theorem Ziz {c n:Nat}{f:FuncId}{xs:List S.AV}{r:S.AV}{y:S.Tail}(h:runFn prog S.orcN c n f xs=some (r,y)):AFn prog LVE f xs r y :=
 Zge (λ w w' d a=>d.on a) Ziy n f xs r y h
