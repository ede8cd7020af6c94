/- Parts. -/
import Derived.Test.YtdeepoikgfaecaaGreatDoorZGWld
import Derived.BigQuiet
set_option linter.all false
set_option maxHeartbeats 1000000
open Go.Lib renaming hid->Ya,cell_of_heap->Yb
open List renaming getElem?_eq_getElem->Yd,getD_eq_getElem?_getD->Yk,length_map->Ys,getElem?_map->Y0,getElem_mem->Yap
open Nat renaming le_refl->Yf,lt_of_lt_of_le->Yt,zero_add->Yae
open Array renaming getElem?_eq_some_iff->Yh
open Go.World renaming cell?_of_block->Ya4
open Go.IntWalk renaming u32_in->Yb6
namespace Go.Proofs.YtdeepoikgfaecaaGreatDoor
set_option maxRecDepth 100000
section
open Go.RowKit
structure KAt (w:World)(lo b p:Nat)(F:Nat->Prop)(H half:Int)(P:List (ByteArray×Int))(m:S.Mach):Prop where
 blk:∃ (Aw:Option Addr) (nw cw:Nat) (Ap:Option Addr) (cp:Nat),w.heap[b]?=some (.cells #[.pointer (some ⟨p,0,none⟩),.slice Aw nw cw,.slice Ap P.length cp,.int .i64 H,.int .i64 half] 32 (0,0))/\ReadsP w w.heap.size Ap P/\(∀ k o s,Ap=some ⟨k,o,s⟩->k<w.heap.size/\¬ F k)
 mach:∃ vm vo A c inp rd,MAt w lo p vm vo A c inp rd m/\(∀ k,Zat p vm vo k->F k)/\(∀ k o s,A=some ⟨k,o,s⟩->¬ F k)
 lowb:lo<=b
 nb:¬ F b
 lt:∀ k,F k->lo<=k/\k<w.heap.size
 few:P.length<=1048576
theorem ReadsP.same {w w':World}{A:Option Addr}{L:List (ByteArray×Int)}(h:ReadsP w w.heap.size A L)(hz:w.heap.size<=w'.heap.size)(hb:∀ b o s,A=some ⟨b,o,s⟩->w'.heap[b]?=w.heap[b]?):ReadsP w' w'.heap.size A L:=fun hp=>by
 obtain ⟨b,off,e,hbB,hc⟩:=h hp;exact ⟨b,off,e,by omega,fun i p hx=>⟨(Ya4 (w:=w) (a:=⟨b,off+i*2,none⟩) (hb b off none e)).trans (hc i p hx).1,(Ya4 (w:=w) (a:=⟨b,off+i*2+1,none⟩) (hb b off none e)).trans (hc i p hx).2⟩⟩
section
variable {w w':World}{lo b p:Nat}{F:Nat->Prop}{H half:Int}{P:List (ByteArray×Int)}{m m':S.Mach}
theorem KAt.blt (h:KAt w lo b p F H half P m):b<w.heap.size:=by
 obtain ⟨_,_,_,_,_,h1,_⟩:=h.blk;exact (Yh.1 h1).1
theorem KAt.below (h:KAt w lo b p F H half P m)(hb:Below w.heap.size w w'):KAt w' lo b p F H half P m:=by
 obtain ⟨Aw,nw,cw,Ap,cp,h1,h2,h3⟩:=h.blk;obtain ⟨vm,vo,A,c,inp,rd,k1,k2,k3⟩:=h.mach;have hz:=hb.size;refine ⟨⟨Aw,nw,cw,Ap,cp,(hb.block b h.blt).trans h1,h2.same hz fun k o s e=>hb.block k (h3 k o s e).1,fun k o s e=>⟨by have:=(h3 k o s e).1;omega,(h3 k o s e).2⟩⟩,⟨vm,vo,A,c,inp,rd,k1.below hb,k2,k3⟩,h.lowb,h.nb,fun k hk=>⟨(h.lt k hk).1,by have:=(h.lt k hk).2;omega⟩,h.few⟩
theorem KAt.wrote (h:KAt w lo b p F H half P m){F':Nat->Prop}(ho:Only F w w')(hF:∀ k,k<w.heap.size->F' k->F k)(hlt:∀ k,F' k->lo<=k/\k<w'.heap.size)
 (hm:∃ vm vo A c inp rd,MAt w' lo p vm vo A c inp rd m'/\(∀ k,Zat p vm vo k->F' k)/\(∀ k o s,A=some ⟨k,o,s⟩->¬ F' k)):KAt w' lo b p F' H half P m':=by
 obtain ⟨Aw,nw,cw,Ap,cp,h1,h2,h3⟩:=h.blk;have hz:=ho.size;refine ⟨⟨Aw,nw,cw,Ap,cp,(ho.block b h.blt h.nb).trans h1,h2.same hz fun k o s e=>ho.block k (h3 k o s e).1 (h3 k o s e).2,fun k o s e=>⟨by have:=(h3 k o s e).1;omega,fun hk=>(h3 k o s e).2 (hF k (h3 k o s e).1 hk)⟩⟩,hm,h.lowb,fun hk=>h.nb (hF b h.blt hk),hlt,h.few⟩
theorem KAt.lobelow (h:KAt w lo b p F H half P m)(ho:Only F w w')(hlo:lo<=w.heap.size):Below lo w w':=ho.below hlo fun k hk=>(h.lt k hk).1
theorem KAt.lolt (h:KAt w lo b p F H half P m):lo<=w.heap.size:=by
 have:=h.blt;have:=h.lowb;omega
theorem KAt.cells (h:KAt w lo b p F H half P m):∃ (Aw:Option Addr) (nw cw:Nat) (Ap:Option Addr) (cp:Nat),ReadsP w w.heap.size Ap P/\w.cell? ⟨b,0,none⟩=some (.pointer (some ⟨p,0,none⟩))/\w.cell? ⟨b,1,none⟩=some (.slice Aw nw cw)/\w.cell? ⟨b,2,none⟩=some (.slice Ap P.length cp)/\w.cell? ⟨b,3,none⟩=some (.int .i64 H)/\w.cell? ⟨b,4,none⟩=some (.int .i64 half):=by
 obtain ⟨Aw,nw,cw,Ap,cp,h1,h2,h3⟩:=h.blk;exact ⟨Aw,nw,cw,Ap,cp,h2,by rw [Yb h1];rfl,by rw [Yb h1];rfl,by rw [Yb h1];rfl,by rw [Yb h1];rfl,by rw [Yb h1];rfl⟩
theorem KAt.ok (h:KAt w lo b p F H half P m):m.Ok:=by
 obtain ⟨vm,vo,A,c,inp,rd,k1,k2,k3⟩:=h.mach;exact k1.ok
theorem Zfy (i:Int)(h:KAt w lo b p F H half P m):Calls Tryz.prog 8 #[.pointer (some ⟨p,0,none⟩),.int .i64 i] w fun e w'=>e=.returned (.int .u32 (m.regV i))/\w=w':=by
 obtain ⟨vm,vo,A,c,inp,rd,k1,k2,k3⟩:=h.mach;exact Zws i k1
theorem Z0y (i v:Int)(h:KAt w lo b p F H half P m)(hv:0<=v/\v<=4294967295):Calls Tryz.prog 10 #[.pointer (some ⟨p,0,none⟩),.int .i64 i,.int .u32 v] w fun e w'=>e=.returned (.int .i64 (if 0<=i/\i<32 then 0 else 2))/\KAt w' lo b p F H half P (m.setV i v)/\Only F w w':=by
 obtain ⟨vm,vo,A,c,inp,rd,k1,k2,k3⟩:=h.mach;refine (Zww i v k1 hv).mono ?_;rintro e w' ⟨rfl,h1,h2⟩;have ho:Only F w w':=h2.weaken fun k _ hk=>k2 k (.inl hk)
 exact ⟨rfl,h.wrote ho (fun _ _ hk=>hk) (fun k hk=>⟨(h.lt k hk).1,Yt (h.lt k hk).2 ho.size⟩) ⟨vm,vo,A,c,inp,rd,h1,k2,k3⟩,ho⟩
theorem Z12 (i v:Int)(h:KAt w lo b p F H half P m)(hv:0<=v/\v<=4294967295):Calls Tryz.prog 30 #[.pointer (some ⟨p,0,none⟩),.int .i64 i,.int .u32 v] w fun e w'=>e=.returned (.int .i64 (if 0<=i/\i<m.mem.length then 0 else 2))/\KAt w' lo b p F H half P (m.putV i v)/\Only F w w':=by
 obtain ⟨vm,vo,A,c,inp,rd,k1,k2,k3⟩:=h.mach;refine (Zwx i v k1 hv).mono ?_;rintro e w' ⟨rfl,h1,h2⟩;have ho:Only F w w':=h2.weaken fun k _ hk=>k2 k hk
 exact ⟨rfl,h.wrote ho (fun _ _ hk=>hk) (fun k hk=>⟨(h.lt k hk).1,Yt (h.lt k hk).2 ho.size⟩) ⟨vm,vo,A,c,inp,rd,h1,k2,k3⟩,ho⟩
theorem Z0z (i v:Int)(h:KAt w lo b p F H half P m)(hv:0<=v/\v<=4294967295)(hi:0<=i/\i<32):Calls Tryz.prog 10 #[.pointer (some ⟨p,0,none⟩),.int .i64 i,.int .u32 v] w fun e w'=>e=.returned (.int .i64 0)/\KAt w' lo b p F H half P (m.setV i v)/\Only F w w':=by
 have:=Z0y i v h hv;rw [if_pos hi] at this;exact this
theorem Zd9 (i v:Int)(h:KAt w lo b p F H half P m)(hv:0<=v/\v<=4294967295):Calls Tryz.prog 30 #[.pointer (some ⟨p,0,none⟩),.int .i64 i,.int .u32 v] w fun e w'=>∃ r,e=.returned (.int .i64 r)/\KAt w' lo b p F H half P (m.putV i v)/\Only F w w' :=
 (Z12 i v h hv).mono fun _ _ q=>⟨_,q⟩
theorem Zge (i v:Int)(h:KAt w lo b p F H half P m)(hv:0<=v/\v<=4294967295):Calls Tryz.prog 10 #[.pointer (some ⟨p,0,none⟩),.int .i64 i,.int .u32 v] w fun e w'=>∃ r,e=.returned (.int .i64 r)/\KAt w' lo b p F H half P (m.setV i v)/\Only F w w' :=
 (Z0y i v h hv).mono fun _ _ q=>⟨_,q⟩
theorem Z2v (v:Int)(h:KAt w lo b p F H half P m)(hv:0<=v/\v<=4294967295):Calls Tryz.prog 23 #[.pointer (some ⟨p,0,none⟩),.int .u32 v] w fun e w'=>e=.returned (.int .i64 (if m.state≠0 then 2 else 0))/\KAt w' lo b p F H half P (m.goV v)/\Only F w w':=by
 obtain ⟨vm,vo,A,c,inp,rd,k1,k2,k3⟩:=h.mach;refine (Zzd v k1 hv).mono ?_;rintro e w' ⟨rfl,h1,h2⟩;have ho:Only F w w':=h2.weaken fun k _ hk=>k2 k (.inl hk)
 exact ⟨rfl,h.wrote ho (fun _ _ hk=>hk) (fun k hk=>⟨(h.lt k hk).1,Yt (h.lt k hk).2 ho.size⟩) ⟨vm,vo,A,c,inp,rd,h1,k2,k3⟩,ho⟩
def Zwk (w:World)(lo b p:Nat)(F:Nat->Prop)(H half:Int)(P:List (ByteArray×Int))(m':S.Mach)(w':World):Prop :=
 ∃ F',KAt w' lo b p F' H half P m'/\Only F w w'/\∀ k,k<w.heap.size->F' k->F k
theorem Z13 (fuel:Int)(h:KAt w lo b p F H half P m)(hol:m.out=[])(hst:m.steps=0)(hf:fuel<=100000000):Calls Tryz.prog 24 #[.pointer (some ⟨p,0,none⟩),.int .i64 fuel] w fun e w'=>e=.returned (.int .i64 (m.steps_ fuel.toNat).state)/\Zwk w lo b p F H half P (m.steps_ fuel.toNat) w':=by
 obtain ⟨vm,vo,A,c,inp,rd,k1,k2,k3⟩:=h.mach;refine (Zwv fuel k1 (by rw [hol];decide) (by rw [hst];decide) hf).mono ?_;rintro e w' ⟨rfl,vo',rd',h1,h2,h3⟩;have ho:Only F w w':=h2.weaken fun k _ hk=>k2 k hk
 have hz:=ho.size;refine ⟨rfl,fun k=>Zat p vm vo' k,h.wrote ho (fun k hk hf=>?_) (fun k hk=>h1.foot_lt hk) ⟨vm,vo',A,c,inp,rd',h1,fun _ hk=>hk,fun k o s e hk=>?_⟩,ho,fun k hk hf=>?_⟩
 ·rcases hf with e | e | e
  ·exact k2 k (.inl e)
  ·exact k2 k (.inr (.inl e))
  ·rcases h3 with e2 | ⟨j,hj,e2⟩
   ·exact k2 k (.inr (.inr (e2 ▸ e)))
   ·rw [e2] at e;cases e;omega
 ·obtain ⟨d1,d2,d3⟩:=h1.d1 k o s e
  rcases hk with hk | hk | hk
  ·exact d1 hk
  ·exact d2 hk
  ·exact d3 hk
 ·rcases hf with e | e | e
  ·exact k2 k (.inl e)
  ·exact k2 k (.inr (.inl e))
  ·rcases h3 with e2 | ⟨j,hj,e2⟩
   ·exact k2 k (.inr (.inr (e2 ▸ e)))
   ·rw [e2] at e;cases e;omega
theorem Zy3 (h:KAt w lo b p F H half P m):Calls Tryz.prog 25 #[.pointer (some ⟨p,0,none⟩)] w fun e w'=>e=.returned (.int .u32 m.place)/\w=w':=by
 obtain ⟨vm,vo,A,c,inp,rd,k1,k2,k3⟩:=h.mach;exact Zq4 k1
theorem Z00 (h:KAt w lo b p F H half P m):Calls Tryz.prog 26 #[.pointer (some ⟨p,0,none⟩)] w fun e w'=>e=.returned (.int .u32 m.code)/\w=w':=by
 obtain ⟨vm,vo,A,c,inp,rd,k1,k2,k3⟩:=h.mach;exact Zug k1
theorem Z14 (i:Int)(h:KAt w lo b p F H half P m):Calls Tryz.prog 28 #[.pointer (some ⟨p,0,none⟩),.int .i64 i] w fun e w'=>e=.returned (.tuple #[.int .u32 (m.memV i),.bool (m.memB i)])/\∃ n,w'=w.drewN n:=by
 obtain ⟨vm,vo,A,c,inp,rd,k1,k2,k3⟩:=h.mach;exact Zwt i k1
theorem Z01 (i:Int)(h:KAt w lo b p F H half P m):Calls Tryz.prog 9 #[.pointer (some ⟨b,0,none⟩),.int .i64 i] w fun e w'=>e=.returned (.int .u32 (m.memV i))/\∃ n,w'=w.drewN n:=by
 have hlt:=h.blt;obtain ⟨Aw,nw,cw,Ap,cp,hP,c0,c1,c2,c3,c4⟩:=h.cells;go_enter Tryz.func9,Tryz.ntmps9
 go_wp2_with fail
 refine (Z14 i h).mono ?_;rintro e w2 ⟨rfl,n,rfl⟩;go_wp2_with fail
 go_ret
 exact ⟨rfl,n,rfl⟩
theorem Z2g (s:ByteArray)(h:KAt w lo b p F H half P m):Calls Tryz.prog 22 #[.pointer (some ⟨b,0,none⟩),.string s] w fun e w'=>e=.returned (.int .i64 ((S.findP P s).getD (-1)))/\Below w.heap.size w w':=by
 have hlt:=h.blt;obtain ⟨Aw,nw,cw,Ap,cp,hP,c0,c1,c2,c3,c4⟩:=h.cells;go_enter Tryz.func22,Tryz.ntmps22
 go_wp2_with fail
 refine (Ztc (.slice none 0 0) Aw Ap nw cw cp P s w hP h.few).mono ?_;rintro e w2 ⟨rfl,hb2⟩
 cases hq:S.findP P s with
 | none =>
  simp only [Option.isSome_none,Option.getD_none];have Hq:=Ya hq;clear hq;go_wp2_with fail
  go_ret
  exact ⟨by rw [Hq.out];rfl,hb2⟩
 | some v =>
  simp only [Option.isSome_some,Option.getD_some];have Hq:=Ya hq;clear hq;go_wp2_with fail
  go_ret
  exact ⟨by rw [Hq.out];rfl,hb2⟩
end
end
section
open Go.RowKit
def Pass (F:Nat->Prop)(w:World)(F':Nat->Prop)(w':World):Prop:=Only F w w'/\∀ k,k<w.heap.size->F' k->F k
theorem Pass.of_only {F:Nat->Prop}{w w':World}(h:Only F w w'):Pass F w F w':=⟨h,fun _ _ q=>q⟩
theorem Pass.of_below {F:Nat->Prop}{w w':World}(h:Below w.heap.size w w'):Pass F w F w':=.of_only (.of_below h)
theorem Pass.trans {F F1 F2:Nat->Prop}{w w1 w2:World}(h:Pass F w F1 w1)(k:Pass F1 w1 F2 w2):Pass F w F2 w2 :=
 ⟨h.1.trans k.1 fun i hi q=>h.2 i hi q,fun i hi q=>h.2 i hi (k.2 i (Yt hi h.1.size) q)⟩
def Out (w:World)(F:Nat->Prop)(b:Nat):Prop:=b<w.heap.size/\¬ F b
theorem Out.pass {F F':Nat->Prop}{w w':World}{b:Nat}(h:Out w F b)(hp:Pass F w F' w'):Out w' F' b/\w'.heap[b]?=w.heap[b]? :=
 ⟨⟨Yt h.1 hp.1.size,fun q=>h.2 (hp.2 b h.1 q)⟩,hp.1.block b h.1 h.2⟩
theorem Out.cell {F F':Nat->Prop}{w w':World}{b:Nat}(h:Out w F b)(hp:Pass F w F' w')(o:Nat):w'.cell? ⟨b,o,none⟩=w.cell? ⟨b,o,none⟩:=Ya4 (a:=⟨b,o,none⟩) (h.pass hp).2
def ReadsF (w:World)(F:Nat->Prop)(A:Option Addr)(xs:List Value):Prop :=
 0<xs.length->∃ b off,A=some ⟨b,off,none⟩/\Out w F b/\∀ i x,xs[i]?=some x->w.cell? ⟨b,off+i,none⟩=some x
theorem ReadsF.pass {F F':Nat->Prop}{w w':World}{A:Option Addr}{xs:List Value}(h:ReadsF w F A xs)(hp:Pass F w F' w'):ReadsF w' F' A xs:=fun h0=>by
 obtain ⟨b,off,e,h1,h2⟩:=h h0;exact ⟨b,off,e,(h1.pass hp).1,fun i x hx=>(h1.cell hp _).trans (h2 i x hx)⟩
theorem ReadsF.reads {F:Nat->Prop}{w:World}{A:Option Addr}{xs:List Value}(h:ReadsF w F A xs):Reads w w.heap.size A xs:=fun h0=>by
 obtain ⟨b,off,e,h1,h2⟩:=h h0;exact ⟨b,off,e,h1.1,h2⟩
theorem Z15 {F:Nat->Prop}{w:World}{base:Nat}{e:TypeId}{A:Option Addr}{n c:Nat}{xs:List Value}(h:w.ownsRow base e 1 (.slice A n c) n xs)(hF:∀ k,base<=k->¬ F k):ReadsF w F A xs:=fun hp=>by
 have hl:xs.length=n:=by have:=h.1;simpa using this
 obtain ⟨g,rfl,hg1,hg2,hg3,hg4,_⟩:=Zau h (by omega);refine ⟨g,0,rfl,⟨hg2,hF g hg1⟩,fun i x hx=>?_⟩;have hi:=(List.getElem?_eq_some_iff.1 hx).1;have h1:=hg4 i (by omega);rw [Yae,h1,hx]
def WordsF (w:World)(F:Nat->Prop)(A:Option Addr)(l:List (Int×Int)):Prop :=
 0<l.length->∃ b off,A=some ⟨b,off,none⟩/\Out w F b/\∀ i x,l[i]?=some x->w.cell? ⟨b,off+i*2,none⟩=some (.int .u32 x.1)/\w.cell? ⟨b,off+i*2+1,none⟩=some (.int .u16 x.2)/\0<=x.1/\x.1<4294967296/\0<=x.2/\x.2<65536
theorem WordsF.pass {F F':Nat->Prop}{w w':World}{A:Option Addr}{l:List (Int×Int)}(h:WordsF w F A l)(hp:Pass F w F' w'):WordsF w' F' A l:=fun h0=>by
 obtain ⟨b,off,e,h1,h2⟩:=h h0;refine ⟨b,off,e,(h1.pass hp).1,fun i x hx=>?_⟩;obtain ⟨q1,q2,q3⟩:=h2 i x hx;exact ⟨(h1.cell hp _).trans q1,(h1.cell hp _).trans q2,q3⟩
def NodesF (w:World)(F:Nat->Prop)(A:Option Addr)(l:List S.GN):Prop :=
 0<l.length->∃ b off,A=some ⟨b,off,none⟩/\Out w F b/\∀ i x,l[i]?=some x->w.cell? ⟨b,off+i*2,none⟩=some (.int .u8 x.ty)/\(0<=x.ty/\x.ty<256)/\x.ws.length<=9223372036854775807/\∃ A' c',w.cell? ⟨b,off+i*2+1,none⟩=some (.slice A' x.ws.length c')/\x.ws.length<=c'/\WordsF w F A' x.ws
theorem NodesF.pass {F F':Nat->Prop}{w w':World}{A:Option Addr}{l:List S.GN}(h:NodesF w F A l)(hp:Pass F w F' w'):NodesF w' F' A l:=fun h0=>by
 obtain ⟨b,off,e,h1,h2⟩:=h h0;refine ⟨b,off,e,(h1.pass hp).1,fun i x hx=>?_⟩;obtain ⟨q1,q2,q3,A',c',q4,q5,q6⟩:=h2 i x hx;exact ⟨(h1.cell hp _).trans q1,q2,q3,A',c',(h1.cell hp _).trans q4,q5,q6.pass hp⟩
structure GAt (w:World)(F:Nat->Prop)(gb:Nat)(g:S.Gr):Prop where
 out:Out w F gb
 blk:∃ An cn Aa ca,w.heap[gb]?=some (.cells #[.slice An g.ns.length cn,.slice Aa g.at_.length ca] 75 (0,0))/\NodesF w F An g.ns/\ReadsF w F Aa (g.at_.map (Value.int .i64))
 len:g.at_.length=g.ns.length
 few:g.ns.length<=30
 rng:∀ x∈g.at_,0<=x/\x<=335544320
section
variable {w w':World}{F F':Nat->Prop}{gb:Nat}{g:S.Gr}
theorem GAt.pass (h:GAt w F gb g)(hp:Pass F w F' w'):GAt w' F' gb g:=by
 obtain ⟨An,cn,Aa,ca,h1,h2,h3⟩:=h.blk;exact ⟨(h.out.pass hp).1,⟨An,cn,Aa,ca,(h.out.pass hp).2.trans h1,h2.pass hp,h3.pass hp⟩,h.len,h.few,h.rng⟩
theorem GAt.below (h:GAt w F gb g)(hb:Below w.heap.size w w'):GAt w' F gb g:=h.pass (.of_below hb)
theorem GAt.cells (h:GAt w F gb g):∃ An cn Aa ca,w.cell? ⟨gb,0,none⟩=some (.slice An g.ns.length cn)/\w.cell? ⟨gb,1,none⟩=some (.slice Aa g.at_.length ca)/\NodesF w F An g.ns/\ReadsF w F Aa (g.at_.map (Value.int .i64)):=by
 obtain ⟨An,cn,Aa,ca,h1,h2,h3⟩:=h.blk;exact ⟨An,cn,Aa,ca,by rw [Yb h1];rfl,by rw [Yb h1];rfl,h2,h3⟩
theorem Zkt {A:Option Addr}{l:List Int}(h:ReadsF w F A (l.map (Value.int .i64))){i:Nat}(hi:i<l.length):∃ b off,A=some ⟨b,off,none⟩/\b<w.heap.size/\w.cell? ⟨b,off+i,none⟩=some (.int .i64 (l.getD i 0)):=by
 obtain ⟨b,off,e,h1,h2⟩:=h (by rw [Ys];omega);refine ⟨b,off,e,h1.1,h2 i _ ?_⟩;rw [Y0,Yd hi,Yk,Yd hi];rfl
theorem Ztz (x:Int)(w:World)(h0:0<=x)(h1:x<4294967296):Calls Tryz.prog 84 #[.int .u32 x] w fun e w'=>e=.returned (.int .u32 (S.plain x))/\w=w':=by
 by_cases c1:x%4=1
 ·have hp:S.plain x=x-1:=by unfold S.plain;rw [if_pos (.inl c1)]
  rw [hp];clear hp;go_enter Tryz.func84,Tryz.ntmps84
  have e1:(x%4==1)=true:=by simp [c1]
  have e2:IntKind.u32.wrap (x-1)=x-1:=Yb6 _ ⟨by omega,by omega⟩;clear c1;go_wp2_with fail
  go_ret
  exact ⟨rfl,rfl⟩
 ·have e1:(x%4==1)=false:=by simp [c1]
  by_cases c2:x%4=3
  ·have hp:S.plain x=x-1:=by unfold S.plain;rw [if_pos (.inr c2)]
   rw [hp];clear hp;go_enter Tryz.func84,Tryz.ntmps84
   have e3:(x%4==3)=true:=by simp [c2]
   have e2:IntKind.u32.wrap (x-1)=x-1:=Yb6 _ ⟨by omega,by omega⟩;clear c1 c2;go_wp2_with fail
   go_ret
   exact ⟨rfl,rfl⟩
  ·have hp:S.plain x=x:=by unfold S.plain;rw [if_neg (fun h=>h.elim c1 c2)]
   rw [hp];clear hp;go_enter Tryz.func84,Tryz.ntmps84
   have e3:(x%4==3)=false:=by simp [c2]
   clear c1 c2;go_wp2_with fail
   go_ret
   exact ⟨rfl,rfl⟩
theorem Zh0 (x:Int×Int)(hx:0<=x.1/\x.1<4294967296/\0<=x.2/\x.2<65536)(h:GAt w F gb g):Calls Tryz.prog 31 #[.pointer (some ⟨gb,0,none⟩),.agg #[.int .u32 x.1,.int .u16 x.2]] w fun e w'=>e=.returned (.int .u32 (g.word x))/\Below w.heap.size w w':=by
 obtain ⟨x1,x2⟩:=x;simp only at hx;obtain ⟨An,cn,Aa,ca,d0,d1,d2,d3⟩:=h.cells;have hgb:=h.out.1;have hlen:=h.len;have hfew:=h.few;have hrng:=h.rng;have Hbx:=Ya ((Below.refl w.heap.size w).alloc (Yf _) (.cells #[.int .u32 x1,.int .u16 x2] 80));have hr:=heap_alloc_new w (.cells #[.int .u32 x1,.int .u16 x2] 80);go_enter Tryz.func31,Tryz.ntmps31
 go_upto_region 1 with fail
 generalize w.alloc (.cells #[.int .u32 x1,.int .u16 x2] 80)=w1 at *;have hz1:=Hbx.out.size;have c0:w1.cell? ⟨w.heap.size,0,none⟩=some (.int .u32 x1):=by rw [Yb hr];rfl
 have c1:w1.cell? ⟨w.heap.size,1,none⟩=some (.int .u16 x2):=by rw [Yb hr];rfl
 have hlt1:w.heap.size<w1.heap.size:=(Yh.1 hr).1;have hgb1:gb<w1.heap.size:=by omega
 have k0:w1.cell? ⟨gb,0,none⟩=some (.slice An g.ns.length cn):=(Hbx.out.cell (p:=⟨gb,0,none⟩) hgb).trans d0;have k1:w1.cell? ⟨gb,1,none⟩=some (.slice Aa g.at_.length ca):=(Hbx.out.cell (p:=⟨gb,1,none⟩) hgb).trans d1;have d3':=d3.reads.below Hbx.out;have Hw:=Ya (show g.word (x1,x2)=if 0<x2/\0<g.ns.length then 4*g.at_.getD ((x2-1)%g.ns.length).toNat 0+1 else S.plain x1 by
  unfold S.Gr.word;simp only [List.length_pos_iff])
 have Hg:∀ i:Nat,i<g.at_.length->0<=g.at_.getD i 0/\g.at_.getD i 0<=335544320:=fun i hi=>by
  rw [Yk,Yd hi];exact hrng _ (Yap hi)
 have HG:=Ya Hg;rw [hlen] at k1;obtain ⟨N,hN⟩:=Yx g.ns.length;have HN:=Ya hN;rw [<- hN] at k0 k1 Hw hfew;have hNl:(N:Int)<=30:=by omega
 have HD:=Ya d3';have hal:g.at_.length=N:=by omega
 have HAL:=Ya hal;clear d0 d1 d2 d3 d3' hr hrng Hg hlen hN hal;by_cases p0:0<x2
 ·have e1:decide (x2>0)=true:=by simp [p0]
  by_cases p1:0<N
  ·have e2:decide ((N:Int)>0)=true:=by simp;omega
   obtain ⟨j,hj⟩:∃ j:Nat,(x2-1)%N=(j:Int):=⟨((x2-1)%N).toNat,by have:=Int.emod_nonneg (x2-1) (show (N:Int)≠0 from by omega);omega⟩
   have hjN:j<N:=by have:=Int.emod_lt_of_pos (x2-1) (show (0:Int)<N from by omega);omega
   have hjn:((x2-1)%N).toNat=j:=by omega
   rw [hjn,if_pos ⟨p0,p1⟩] at Hw;obtain ⟨bb,off,hA,hbb,hcc⟩:=HD.out (by rw [Ys,HAL.out];exact p1);have hv:=hcc j (.int .i64 (g.at_.getD j 0)) (by rw [Y0,Yd (by rw [HAL.out];exact hjN),Yk,Yd (by rw [HAL.out];exact hjN)];rfl);obtain ⟨g0,g1⟩:=HG.out j (by rw [HAL.out];exact hjN);obtain ⟨v,hve⟩:=Yx (g.at_.getD j 0);rw [<- hve] at hv g0 g1 Hw;subst hA;clear hve hcc hjn;have f1:IntKind.u16.wrap (x2-1)=x2-1:=IntWalk.u16_in _ ⟨by omega,by omega⟩;have f2:IntKind.u32.wrap (v*4)=v*4:=Yb6 _ ⟨by omega,by omega⟩;have f3:IntKind.u32.wrap (v*4+1)=v*4+1:=Yb6 _ ⟨by omega,by omega⟩;have f4:v%4294967296=v:=by omega
   have hbb1:bb<w1.heap.size:=by omega
   have Hwo:=Ya Hw;clear Hw;have hNn:(N:Int)≠0:=by omega
   go_wp2_with fail
   go_quiet (fail)
   go_wp2_with fail
   go_ret
   exact ⟨by rw [Hwo.out,show 4*v+1=v*4+1 from by omega];rfl,below_drewN Hbx.out _⟩
  ·have e2:decide ((N:Int)>0)=false:=by simp;omega
   rw [if_neg (fun h=>p1 h.2)] at Hw;have Hwo:=Ya Hw;clear Hw;go_wp2_with fail
   refine (Ztz x1 w1 hx.1 hx.2.1).mono ?_;rintro e _ ⟨rfl,rfl⟩;go_wp2_with fail
   go_ret
   exact ⟨by rw [Hwo.out];rfl,Hbx.out⟩
 ·have e1:decide (x2>0)=false:=by simp;omega
  rw [if_neg (fun h=>p0 h.1)] at Hw;have Hwo:=Ya Hw;clear Hw;go_wp2_with fail
  refine (Ztz x1 w1 hx.1 hx.2.1).mono ?_;rintro e _ ⟨rfl,rfl⟩;go_wp2_with fail
  go_ret
  exact ⟨by rw [Hwo.out];rfl,Hbx.out⟩
theorem Zxl (x:Int)(hx:0<=x/\x<4294967296)(h:GAt w F gb g):Calls Tryz.prog 139 #[.pointer (some ⟨gb,0,none⟩),.int .u32 x] w fun e w'=>e=.returned (.int .i64 (S.nOf (g.node x)))/\∃ n,w'=w.drewN n:=by
 obtain ⟨An,cn,Aa,ca,d0,d1,d2,d3⟩:=h.cells;have hgb:=h.out.1;have hlen:=h.len;have hfew:=h.few;have hrng:=h.rng;obtain ⟨l,hl⟩:=Yx g.at_;rw [<- hl] at d1 d3 hlen hrng;have Hn:=Ya (show g.node x=if x%4=1 then S.idx (x/4) l else none by rw [hl];rfl);have D3:=Ya d3.reads;have HR:=Ya hrng;obtain ⟨N,hN⟩:=Yx l.length;have HN:=Ya hN;rw [<- hN] at d1;have hNl:(N:Int)<=30:=by omega
 clear d2 d3 hrng hlen hfew hl hN;by_cases c:x%4=1
 ·have e1:(x%4 != 1)=false:=by simp [c]
  rw [if_pos c] at Hn;go_enter Tryz.func139,Tryz.ntmps139
  go_wp2_with fail
  go_loopw [5] (fun i wr=>∃ k n:Nat,k<=N/\i=.int .i64 k/\Hid (S.nOf (g.node x)=S.nOf ((S.idx (x/4) (l.drop k)).map (·+k)))/\wr=w.drewN n) (fun i _=>N-(intOf i).toNat)
  case atStart=>exact ⟨0,0,by omega,rfl,Ya (by rw [Hn.out,List.drop_zero];cases S.idx (x/4) l <;> rfl),rfl⟩
  case round =>
   obtain ⟨k,n,hk,rfl,hf,rfl⟩:=hrel;by_cases hlt:k<N
   ·have hkl:k<l.length:=by rw [<- HN.out];exact hlt
    obtain ⟨b,off,hA,hb,hc⟩:=D3.out (by rw [Ys];omega);have q0:=hc k (.int .i64 l[k]) (by rw [Y0,Yd hkl];rfl);obtain ⟨r0,r1⟩:=HR.out _ (Yap hkl);have hdr:=Ya (List.drop_eq_getElem_cons hkl);obtain ⟨v,hv⟩:=Yx l[k];rw [<- hv] at q0 r0 r1 hdr;subst hA;clear hc hv;by_cases cv:v=x/4
    ·have e2:(v==x/4)=true:=by simp [cv]
     have Cv:=Ya cv;clear cv;go_wp2_with fail
     go_ret
     refine ⟨?_,n,rfl⟩;rw [hf.out,hdr.out,S.idx,if_pos Cv.out]
     show Ending.returned (.int .i64 (k:Int))=Ending.returned (.int .i64 (((0+k:Nat):Int)))
     rw [Yae]
    ·have e2:(v==x/4)=false:=by simp [cv]
     have Cv:=Ya cv;clear cv;go_wp2_with fail
     go_roundw
     case rel =>
      refine ⟨k+1,n,by omega,by go_num,Ya ?_,rfl⟩;rw [hf.out,hdr.out,S.idx,if_neg Cv.out]
      cases S.idx (x/4) (l.drop (k+1)) with
      | none=>rfl
      | some j =>
       show ((j+1+k:Nat):Int)=((j+(k+1):Nat):Int)
       omega
     case measure=>simp [intOf];omega
   ·have hke:k=N:=by omega
    subst hke;go_wp2_with fail
    go_ret
    refine ⟨?_,n,rfl⟩;rw [hf.out,HN.out,List.drop_length];rfl
 ·have e1:(x%4 != 1)=true:=by simp [c]
  rw [if_neg c] at Hn;go_enter Tryz.func139,Tryz.ntmps139
  go_wp2_with fail
  go_ret
  exact ⟨by rw [Hn.out];rfl,0,rfl⟩
def S.ag (l:List Nat)(o:Option Nat):List Nat:=match o with
 | none=>l
 | some n=>if n∈l then l else l++[n]
theorem Zb9 (l:List Nat):S.ag l none=l:=rfl
theorem Zey {l:List Nat}{y:Nat}(h:y∈l):S.ag l (some y)=l:=by
 show (if y∈l then l else l++[y])=l
 rw [if_pos h]
theorem Zdn {l:List Nat}{y:Nat}(h:y ∉ l):S.ag l (some y)=l++[y]:=by
 show (if y∈l then l else l++[y])=_
 rw [if_neg h]
theorem Zpn (l:List Nat)(o:Option Nat):l.length<=(S.ag l o).length/\(S.ag l o).length<=l.length+1:=by
 unfold S.ag
 split
 ·omega
 ·split
  ·omega
  ·simp
theorem Zh1 (w:World)(n:Nat)(row:Option Nat):w.grownBy (w.drewN n) row:=⟨rfl,rfl,rfl,Yf _,fun _ _ _=>rfl⟩
def Zt0 (n:Nat):Value:=.int .i64 n
theorem Z02 (x:Int)(hx:0<=x/\x<4294967296)(h:GAt w F gb g)(A:Option Addr)(c base:Nat)(L:List Nat)(ho:w.ownsRow base 3 1 (.slice A L.length c) L.length (L.map Zt0))(hbase:base<=w.heap.size)(hL:L.length<=1000) :
 Calls Tryz.prog 138 #[.pointer (some ⟨gb,0,none⟩),.slice A L.length c,.int .u32 x] w fun e w'=>∃ A' c',e=.returned (.slice A' (S.ag L (g.node x)).length c')/\w'.ownsRow base 3 1 (.slice A' (S.ag L (g.node x)).length c') (S.ag L (g.node x)).length ((S.ag L (g.node x)).map Zt0)/\Below base w w'/\w.grownBy w' (Value.slice A L.length c).ownBlock:=by
 obtain ⟨o,hoo⟩:=Yx (g.node x);have Hoo:=Ya hoo;rw [<- hoo];clear hoo;have HO:=Ya ho;obtain ⟨N,hN⟩:=Yx L.length;have HN:=Ya hN;rw [<- hN] at hL HO ⊢;have HR:=Ya (Reads.of_own ho);rw [<- hN] at ho;clear hN ho;go_enter Tryz.func138,Tryz.ntmps138
 go_wp2_with fail
 refine (Zxl x hx h).mono ?_;rintro e w2 ⟨rfl,n,rfl⟩;rw [<- Hoo.out];have hww:Below base w (w.drewN n):=below_drewN (Below.refl _ _) n
 cases o with
 | none =>
  simp only [S.nOf];go_wp2_with fail
  go_ret
  rw [Zb9,<- HN.out];exact ⟨A,c,rfl,Zn HO.out n,hww,Zh1 w n _⟩
 | some y =>
  simp only [S.nOf];have hy:¬ ((y:Int)<0):=by omega
  have hyd:decide ((y:Int)<0)=false:=by simp
  go_wp2_with fail
  go_loopw [8] (fun i wr=>∃ k n:Nat,k<=N/\i=.int .i64 k/\Hid (y ∉ L.take k)/\wr=w.drewN n) (fun i _=>N-(intOf i).toNat)
  case atStart=>exact ⟨0,n,by omega,rfl,Ya (by simp),rfl⟩
  case round =>
   obtain ⟨k,m,hk,rfl,hf,rfl⟩:=hrel;by_cases hlt:k<N
   ·have hkl:k<L.length:=by rw [<- HN.out];exact hlt
    obtain ⟨b,off,hA,hb,hc⟩:=HR.out (by rw [Ys];omega);have q0:=hc k (.int .i64 L[k]) (by rw [Y0,Yd hkl];rfl);have htk:=Ya (show L.take (k+1)=L.take k++[L[k]] from by rw [List.take_add_one,Yd hkl];rfl);have hmm:=Ya (show L[k]∈L from Yap hkl);obtain ⟨v,hv⟩:=Yx L[k];rw [<- hv] at q0 htk hmm;subst hA;clear hc hv;by_cases cv:v=y
    ·have e2:((v:Int)==(y:Int))=true:=by simp [cv]
     have Cv:=Ya cv;clear cv;go_wp2_with fail
     go_ret
     rw [Zey (by rw [<- Cv.out];exact hmm.out),<- HN.out];exact ⟨_,c,rfl,Zn HO.out m,below_drewN (Below.refl _ _) m,Zh1 w m _⟩
    ·have e2:((v:Int)==(y:Int))=false:=by simp;omega
     have Cv:=Ya cv;clear cv;go_wp2_with fail
     go_roundw
     case rel =>
      refine ⟨k+1,m,by omega,by go_num,Ya ?_,rfl⟩;rw [htk.out,List.mem_append,List.mem_singleton];exact fun q=>q.elim hf.out fun e=>Cv.out e.symm
     case measure=>simp [intOf];omega
   ·have hke:k=N:=by omega
    subst hke;have hno:=hf.out;rw [HN.out,List.take_length] at hno;have Hadd:=Ya (Zdn hno);have Hle:=Ya (show (L++[y]).length=k+1 by rw [List.length_append,<- HN.out];rfl);clear hf hno;go_wp2_with (at_builtin;refine Zo rfl (.tmp 28) (.tmp 30) _ rfl base 3 Ze0 Tryz.underlying35 rfl (by decide) #[.int .i64 y] _ _ _ rfl (Zn HO.out m) rfl rfl rfl (by simp [Value.oneCell']) (by simp only [maxLen];omega) (by omega) hbase ?_;intro v' w7 ho7 hg7 hb7 _;obtain ⟨A8,c8,rfl⟩:=Za ho7)
    go_ret
    rw [Hadd.out,Hle.out];refine ⟨A8,c8,rfl,?_,(below_drewN (Below.refl base w) m).trans hb7,⟨hg7.os,hg7.tape,hg7.output,hg7.size,hg7.block⟩⟩;rw [List.map_append];exact ho7
end
end
end Go.Proofs.YtdeepoikgfaecaaGreatDoor
