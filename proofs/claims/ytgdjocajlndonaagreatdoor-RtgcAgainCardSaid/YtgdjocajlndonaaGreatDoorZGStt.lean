/- Parts. -/
import Derived.Test.YtgdjocajlndonaaGreatDoorZKNew
import Derived.Test.YtgdjocajlndonaaGreatDoorZGLay
set_option linter.all false
set_option maxHeartbeats 4000000
open Go.Lib renaming hid->Ya
open List renaming getElem?_eq_getElem->Yc,length_append->Yd,getElem?_eq_some_iff->Yg,getD_eq_getElem?_getD->Yk,range->Yo,length_map->Yp,getElem?_map->Ys,map_append->Yv,mem_append->Yw,mem_singleton->Yy,mem_cons->Yz,mem_cons_of_mem->Y0,mem_cons_self->Y1,not_mem_nil->Y6,mem_map->Y7,length_take->Yac,mem_range->Yaf,getElem_mem->Yag,all_eq_true->Ya3,map_cons->Ya4,mem_append_left->Ybg,nodup_append->Ybt,map_nil->Ycf,nodup_nil->Yco,mem_of_mem_take->Ydp
open Nat renaming le_refl->Yf,le_trans->Yar
open Prod renaming fst->Yan
namespace Go.Proofs.YtgdjocajlndonaaGreatDoor
set_option maxRecDepth 100000
section
open Go.RowKit
def S.b9:List ByteArray:=S.kHead::((S.objs26++[S.oMain]).map S.Obj.name++[S.kTail])
theorem Zu6:(S.nodupB S.b9 && (S.objs26++[S.oMain]).all (fun o=>!S.badN o))=true:=by kernel_rfl
theorem Z0s (gw sw:List Int):S.NamesRes (S.wObjs gw sw) 0:=by
 have h:=Zu6;rw [Bool.and_eq_true] at h;have hn:(S.wObjs gw sw).map S.Obj.name=S.b9:=by
  show ((S.oHead gw sw::(S.objs26++[S.oMain]))++[S.oTail]).map S.Obj.name=_
  rw [Yv,Ya4];rfl
 have hd:((S.wObjs gw sw).map S.Obj.name).Nodup:=by rw [hn];exact Zlb h.1
 refine .inr (.inr ⟨?_,fun o ho=>?_,rfl⟩)
 ·rintro ⟨i,j,a,b,hij,hi,hj,hab⟩
  have e1:((S.wObjs gw sw).map S.Obj.name)[i]?=some a.name:=by rw [Ys,hi];rfl
  have e2:((S.wObjs gw sw).map S.Obj.name)[j]?=some b.name:=by rw [Ys,hj];rfl
  obtain ⟨l1,q1⟩:=Yg.1 e1;obtain ⟨l2,q2⟩:=Yg.1 e2;have:=(List.nodup_iff_pairwise_ne.1 hd)
  rw [List.pairwise_iff_getElem] at this;exact this j i l2 l1 hij (by rw [q1,q2,hab])
 ·have ho':o∈(S.oHead gw sw::(S.objs26++[S.oMain]))++[S.oTail]:=ho
  rcases Yw.1 ho' with q | q
  ·rcases Yz.1 q with rfl | q
   ·show (S.kHead.data.toList.isEmpty || S.ownB S.kHead)=false
    decide
   ·have:=Ya3.1 h.2 o q
    simpa using this
  ·rw [Yy] at q
   subst q
   show (S.kTail.data.toList.isEmpty || S.ownB S.kTail)=false
   decide
section
variable {H:Zv}{w:World}(hH:∀ b k,H b=some k->b<w.heap.size)
include hH
theorem Zi3:∀ {os:List S.Obj} {xs:List Value},RepL H w (S.bi os) xs->(∀ x∈os,(∀ y∈x.items,0<=y.word/\y.word<=4294967295)/\x.name.size<=maxLen/\∀ y∈x.items,y.label.size<=maxLen)->OC w w.heap.size os xs
 | [],xs,h,_=>by
  have h':RepL H w [] xs:=h;rw [RepL] at h';subst h';exact { len:=rfl,one:=fun u hu=>(Y6 hu).elim,at_:=fun i x hx=>by simp at hx }
 | o::r,xs,h,hw=>by
  have h':RepL H w (.str o.name::.row o.items.length (S.encItems o.items)::S.bi r) xs:=h;rw [RepL] at h';obtain ⟨v0,rs,rfl,_,hv0,h'⟩:=h';rw [RepL] at h';obtain ⟨v1,rs,rfl,_,hv1,h'⟩:=h';rw [RepV] at hv0;subst hv0;obtain ⟨q1,q2,q3⟩:=hw o Y1;obtain ⟨A,c,rfl,hi⟩:=Zkw hH hv1 q1;have ih:=Zi3 h' fun x hx=>hw x (Y0 _ hx)
  exact (OC.one_ (x:=o) (c:=c) hi q2 q3).app ih
end
theorem KAt.lo {w:World}{lo lo' b p:Nat}{F:Nat->Prop}{H half:Int}{P:List (ByteArray×Int)}{m:S.Mach}(h:KAt w lo b p F H half P m)(hl:lo'<=lo):KAt w lo' b p F H half P m:=by
 obtain ⟨vm,vo,A,c,inp,rd,k1,k2,k3⟩:=h.mach;exact ⟨h.blk,⟨vm,vo,A,c,inp,rd,k1.base hl,k2,k3⟩,Yar hl h.lowb,h.nb,fun k hk=>⟨Yar hl (h.lt k hk).1,(h.lt k hk).2⟩,h.few⟩
theorem ItemAt.block {w w':World}{b o:Nat}{x:S.Item}(h:ItemAt w b o x)(hb:w'.heap[b]?=w.heap[b]?):ItemAt w' b o x:=h.keep fun o=>World.cell?_of_block (a:=⟨b,o,none⟩) hb
theorem Zkk {H:Zv}{w w':World}(hH:∀ b k,H b=some k->b<w.heap.size){g n:Nat}(hg:H g=some n)(hcells:∀ j,j<n->∀ k v,w.cell? ⟨g,j,none⟩≠some (.int k v))(hz:w.heap.size<=w'.heap.size)(hk:∀ k,k<w.heap.size->k≠g->w'.heap[k]?=w.heap[k]?) :
 ∀ {os:List S.Obj} {xs:List Value},RepL H w (S.bi os) xs->(∀ x∈os,(∀ y∈x.items,0<=y.word/\y.word<=4294967295)/\x.name.size<=maxLen/\∀ y∈x.items,y.label.size<=maxLen)->OC w' w'.heap.size os xs
 | [],xs,h,_=>by
  have h':RepL H w [] xs:=h;rw [RepL] at h';subst h';exact { len:=rfl,one:=fun u hu=>(Y6 hu).elim,at_:=fun i x hx=>by simp at hx }
 | o::r,xs,h,hw=>by
  have h':RepL H w (.str o.name::.row o.items.length (S.encItems o.items)::S.bi r) xs:=h;rw [RepL] at h';obtain ⟨v0,rs,rfl,_,hv0,h'⟩:=h';rw [RepL] at h';obtain ⟨v1,rs,rfl,_,hv1,h'⟩:=h';rw [RepV] at hv0;subst hv0;obtain ⟨q1,q2,q3⟩:=hw o Y1;have hv1':=hv1;obtain ⟨A,c,rfl,hi⟩:=Zkw hH hv1 q1;rw [RepV] at hv1';obtain ⟨A',c',e,_,_,hc⟩:=hv1'
  cases e
  have hi':Items w' w'.heap.size A o.items:=fun hp=>by
   obtain ⟨b,off,e,hb,hx⟩:=hi hp;have hne:b≠g:=by
    rintro rfl;rcases hc with e0 | ⟨b',o',k,e0,hbk,hle,hr⟩
    ·cases hxs:o.items with
     | nil=>rw [hxs] at hp;simp at hp
     | cons y ys=>rw [hxs] at e0;cases e0
    ·rw [e] at e0
     cases e0
     rw [hg] at hbk
     cases hbk
     obtain ⟨y,hy⟩:∃ y,o.items[0]?=some y:=⟨_,Yc hp⟩
     have h0:=(hx 0 y hy).1;rw [Nat.zero_mul,Nat.add_zero] at h0;refine hcells off ?_ _ _ h0
     cases hxs:o.items with
     | nil=>rw [hxs] at hp;simp at hp
     | cons y ys =>
      rw [hxs] at hle;have:(S.encItems (y::ys)).length=8+(S.encItems ys).length:=by
       show (_++S.encItems ys).length=_
       rw [Yd];rfl
      omega
   exact ⟨b,off,e,by omega,fun i x h=>(hx i x h).block (hk b hb hne)⟩
  have ih:=Zkk hH hg hcells hz hk h' fun x hx=>hw x (Y0 _ hx)
  exact (OC.one_ (x:=o) (c:=c) hi' q2 q3).app ih
structure S.Wr (gw sw F:List Int)(heap:Int):Prop where
 forms:S.FormsRes (S.joined (S.wObjs gw sw)) 0 0 F
 ok:∀ b,(S.ab b gw sw F ((S.wL gw sw F).length+heap)).Ok
 words:∀ x∈S.wL gw sw F,0<=x/\x<=4294967295
 wd:S.Wd gw sw F ((S.wL gw sw F).length+heap) (S.wM (S.wL gw sw F) heap [])
 fst:S.dt gw sw F heap (S.wM (S.wL gw sw F) heap [])
 len:((S.wL gw sw F).length:Int)=(S.ab true gw sw F ((S.wL gw sw F).length+heap)).lab S.kEnd
 small:(S.wL gw sw F).length<=12000
def S.wP (gw sw F:List Int):List (ByteArray×Int):=S.placesTo (S.joined (S.wObjs gw sw)) F 0 (S.joined (S.wObjs gw sw)).length
section
variable {gw sw:List Int}(hg:∀ x∈gw,0<=x/\x<=4294967295)(hs:∀ x∈sw,0<=x/\x<=4294967295)(hgl:gw.length<=100)(hsl:sw.length<=100)
include hg hs hgl hsl
theorem Z2n {heap:Int}(h0:1<=heap/\heap<=1000000){r:Int}{L:List Int}{P:List (ByteArray×Int)}(h:Zmf (S.wObjs gw sw) 0 r L P):r=0/\∃ F,S.Wr gw sw F heap/\L=S.wL gw sw F/\P=S.wP gw sw F:=by
 have hw:=Zt2 gw sw hg hs;rcases h with ⟨h1,h2,_⟩ | ⟨_,F,h1,h2,h3⟩
 ·exact absurd (Zna h2 (Z0s gw sw)) h1
 ·obtain ⟨a0,ha0⟩:=Yx (S.addr (S.joined (S.wObjs gw sw)) F 0 (S.joined (S.wObjs gw sw)).length)
  by_cases hr:r=0
  ·subst hr
   have hF:S.FormOk (S.joined (S.wObjs gw sw)) F:=by
    rcases h1 with ⟨h,_⟩ | ⟨h,_⟩ | ⟨_,_,h,_⟩
    ·exact absurd rfl h
    ·omega
    ·exact h.1
   have hsz:=(Zc3 (base:=0) hF hw (S.joined (S.wObjs gw sw)).length).1;have key:=fun size:Int=>Z36 (e:=0) (F:=F) (size:=size) h1 hg hs hgl hsl
   have hsm:S.addr (S.joined (S.wObjs gw sw)) F 0 (S.joined (S.wObjs gw sw)).length<=67108864:=by
    rcases h1 with ⟨h,_⟩ | ⟨h,_⟩ | ⟨_,_,_,_,h5⟩
    ·exact absurd rfl h
    ·omega
    ·exact h5
   obtain ⟨-,hok,hle⟩:=key (S.addr (S.joined (S.wObjs gw sw)) F 0 (S.joined (S.wObjs gw sw)).length+heap) (fun _=>by omega) (by omega);have hlen:((S.wL gw sw F).length:Int)=S.addr (S.joined (S.wObjs gw sw)) F 0 (S.joined (S.wObjs gw sw)).length:=by
    have h5:=Zvg (hok true);have h6:=(Zf5 (hok true)).2.2;have h7:(S.ab true gw sw F (S.addr (S.joined (S.wObjs gw sw)) F 0 (S.joined (S.wObjs gw sw)).length+heap)).adr (S.ab true gw sw F (S.addr (S.joined (S.wObjs gw sw)) F 0 (S.joined (S.wObjs gw sw)).length+heap)).xs.length=S.addr (S.joined (S.wObjs gw sw)) F 0 (S.joined (S.wObjs gw sw)).length:=rfl;omega
   rw [<- hlen] at hok;have hwd:=fun x hx=>Zja (F:=F) (base:=0) hw (S.joined (S.wObjs gw sw)).length x hx
   obtain ⟨k1,k2⟩:=Zx8 (inp:=[]) (hok true) hwd (fun x hx=>by cases hx) (by omega);refine ⟨rfl,F,⟨h1,hok,hwd,k1,k2,Zvg (hok true),by omega⟩,?_,?_⟩
   ·rw [h2,if_pos rfl];rfl
   ·rw [h3,if_pos rfl];rfl
  ·exfalso
   have:=(Z36 (e:=r) (F:=F) (size:=100000000) h1 hg hs hgl hsl (fun h=>absurd h hr) (by decide)).1;exact hr this
end
theorem Zea (gw sw:List Int)(hgl:gw.length<=100)(hsl:sw.length<=100):(S.joined (S.bc gw sw (S.objs26++[S.oMain]))).length<=1048576:=by
 have e:S.bc gw sw (S.objs26++[S.oMain])=S.wObjs gw sw:=rfl;have hm:S.mid.length<=100000:=by
  have h:decide (S.mid.length<=100000)=true:=by kernel_rfl
  exact of_decide_eq_true h
 rw [e,Zcw,Yd,Yd,Zb9,show S.tItems.length=3 from rfl];omega
def Z0t (w:World)(gw sw:List Int)(heap:Int)(e:Ending)(w':World):Prop :=
 ∃ Fs b p F,S.Wr gw sw Fs heap/\e=.returned (.pointer (some ⟨b,0,none⟩))/\KAt w' w.heap.size b p F (S.wL gw sw Fs).length (heap/2) (S.wP gw sw Fs) (S.wM (S.wL gw sw Fs) heap [])/\Below w.heap.size w w'
theorem Zps (Ag As:Option Addr)(cg cs:Nat)(gw sw:List Int)(heap:Int)(w:World)(hL:LVE w)(hg:Reads w w.heap.size Ag (gw.map (Value.int .u32)))(hs:Reads w w.heap.size As (sw.map (Value.int .u32)))(hgl:gw.length<=100)(hsl:sw.length<=100)
 (hgw:∀ x∈gw,0<=x/\x<=4294967295) (hsw:∀ x∈sw,0<=x/\x<=4294967295) (hheap:1<=heap/\heap<=1000000) :
 Calls Tryz.prog 15 #[.slice Ag gw.length cg,.slice As sw.length cs,.int .i64 heap] w (Z0t w gw sw heap):=by
 obtain ⟨G,hG⟩:=Yx gw.length;obtain ⟨T,hT⟩:=Yx sw.length;have HG:=Ya hG;have HT:=Ya hT;have Hg:=Ya hg;have Hs:=Ya hs;have Hgw:=Ya hgw;have Hsw:=Ya hsw;have HLV:=Ya hL;rw [<- hG] at hgl ⊢;rw [<- hT] at hsl ⊢;clear hG hT hg hs hgw hsw hL;go_enter Tryz.func15,Tryz.ntmps15
 go_wp2_with fail
 refine (Zso (fun _=>none) w [.int .i64 0] (fun b k h=>by cases h) HLV.out (by rw [RepT];exact ⟨_,_,rfl,by rw [RepV],by rw [RepT]⟩)).mono ?_;rintro e w1 ⟨v1,H1,rfl,hb1,-,hH1,hr1,ht1⟩;obtain ⟨xs1,hl1,ho1,hgH⟩:=Zre (ht1 _ rfl) hr1 (.inl ⟨rfl,rfl⟩) (by kernel_rfl);have hoc1:=Zi3 hH1 hl1 (fun x hx=>Zmb Zh6 x (Ybg _ hx));obtain ⟨A1,c1,rfl⟩:=Za ho1;have Ho1:=Ya ho1;have Hb1:=Ya hb1;obtain ⟨g1,o1,hA1,hg1,hgc⟩:=(Zde ho1) (by rw [hoc1.len];decide)
 have Hgrown:=Ya (fun (w':World) (hz:w1.heap.size<=w'.heap.size) (hk:∀ k,k<w1.heap.size->k≠g1->w'.heap[k]?=w1.heap[k]?)=>Zkk (w':=w') hH1 (g:=g1) (n:=30) (by
  have:=hgH g1 (by rw [hA1];rfl);rw [this];exact congrArg some (by kernel_rfl)) (fun j hj k v hcv=>by
  obtain ⟨g2,rfl,_,_,_,hg4,_⟩:=Zam ho1 (by decide)
  cases hA1
  have hjl:j<xs1.length:=by rw [hoc1.len];exact hj
  have hcj:=hg4 j (by omega);rw [hcv] at hcj;have hi:j/2<S.objs26.length:=by
   have:S.objs26.length=15:=by decide
   omega
  obtain ⟨A',c',p0,p1,_⟩:=hoc1.at_ (j/2) _ (Yc hi);rcases Nat.mod_two_eq_zero_or_one j with e | e
  ·have:j/2*2=j:=by omega
   rw [this,<- hcj] at p0
   cases p0
  ·have:j/2*2+1=j:=by omega
   rw [this,<- hcj] at p1
   cases p1) hz hk hl1 (fun x hx=>Zmb Zh6 x (Ybg _ hx)))
 have HA1:=Ya hA1;clear hr1 ht1 hl1 ho1 hH1 hb1 hgH hgc hA1 hoc1;go_wp2_with fail
 refine (Zvx (fun _=>none) w1 [] (fun b k h=>by cases h) (HLV.out.on Hb1.out) (by rw [RepT])).mono ?_;rintro e w2 ⟨v2,H2,rfl,hb2,hO2,hH2,hr2,-⟩;rw [RepV] at hr2;obtain ⟨vs2,rfl,hl2⟩:=hr2;have hoc2:=Zi3 (os:=[S.oMain]) hH2 hl2 (fun x hx=>Zmb Zh6 x (List.mem_append_right _ hx));obtain ⟨Am,cm,z0,z1,_,_,_⟩:=hoc2.at_ 0 S.oMain rfl;obtain ⟨nm,hnm⟩:=Yx S.oMain.items.length;have hv2:vs2=[.string S.kMain,.slice Am nm cm]:=by
  have hlen:=hoc2.len
  match vs2,hlen,z0,z1 with
  | [a,b],_,z0,z1 =>
   simp at z0 z1;rw [z0,z1,hnm];rfl
 subst hv2;have HnM:=Ya (show ∀ b off,Am=some ⟨b,off,none⟩->b≠g1 from fun b off e=>by
  rintro rfl;have hl3:RepL H2 w2 (.str S.oMain.name::.row S.oMain.items.length (S.encItems S.oMain.items)::[]) [.string S.kMain,.slice Am nm cm]:=hl2;rw [RepL] at hl3;obtain ⟨v0,rs,e0,_,_,hl3⟩:=hl3
  cases e0
  rw [RepL] at hl3;obtain ⟨v1,rs,e1,_,hv1,_⟩:=hl3
  cases e1
  rw [RepV] at hv1;obtain ⟨A',c',e2,_,_,hc⟩:=hv1
  cases e2
  rcases hc with hc | ⟨b',o',k,e3,hbk,_⟩
  ·have:(S.encItems S.oMain.items).length=0:=by rw [hc];rfl
   have h2:(S.encItems S.oMain.items).length=24:=by kernel_rfl
   omega
  ·rw [e] at e3
   cases e3
   rw [hO2 b hg1] at hbk
   cases hbk)
 have Hoc2:=Ya hoc2;have Hb2:=Ya hb2;have hz1:=Hb1.out.size;have hz2:=hb2.size;have Ho2:=Ya (Zc Ho1.out hb2);have Hb02:=Ya (Hb1.out.trans (hb2.mono hz1));clear hoc2 hb2 hl2 z0 z1 hnm hH2;go_wp2_with (at_builtin;refine Zg rfl (.tmp 7) (.tmp 9) _ rfl w.heap.size 111 Zc2 Tryz.underlying107 rfl (by decide) #[.string S.kMain,.slice Am nm cm] _ _ _ rfl Ho2.out rfl rfl rfl (by simp [Value.oneCell']) (by simp [maxLen]) (by decide) (Yar hz1 hz2) ?_;intro v' w3 ho3 hg3 hb3 hat3;obtain ⟨A3,c3,rfl⟩:=Za ho3)
 have hz3:=hb3.size;have Hb03:=Ya (Hb02.out.trans hb3);have hocA:=Hgrown.out w3 (Yar hz2 hz3) (fun k hk hne=>by
  rw [<- Hb2.out.block k hk];refine hg3.block k (by omega) fun e=>hne ?_
  rw [HA1.out] at e;have e':some k=some g1:=e;exact Option.some.inj e')
 have hlow:∀ k,k<w2.heap.size->k≠g1->w3.heap[k]?=w2.heap[k]?:=fun k hk hne=>hg3.block k hk fun e=>hne (by
  rw [HA1.out] at e;have e':some k=some g1:=e;exact Option.some.inj e')
 have hocB:OC w3 w3.heap.size [S.oMain] [.string S.kMain,.slice Am nm cm]:=by
  obtain ⟨Am',cm',z0,z1,z2,z3,z4⟩:=Hoc2.out.at_ 0 S.oMain rfl;refine ⟨Hoc2.out.len,Hoc2.out.one,fun i x hx=>?_⟩
  cases i with
  | zero =>
   cases hx
   refine ⟨Am',cm',z0,z1,fun hp=>?_,z3,z4⟩;obtain ⟨b,off,e,hb,hx⟩:=z2 hp;have hne:b≠g1:=HnM.out b off (by
    have:Am=Am':=by
     simp at z1;exact z1.1
    rw [this];exact e)
   exact ⟨b,off,e,by omega,fun i x h=>(hx i x h).block (hlow b hb hne)⟩
  | succ i=>cases hx
 have hoc3:=hocA.app hocB;have hro3:=Zde ho3;have hlen3:(S.objs26++[S.oMain]).length=16:=by kernel_rfl
 have hnew:=Z34 (S.objs26++[S.oMain]) A3 Ag As none c3 cg cs 0 gw sw [] heap w3 _ hro3 hoc3 (fun h=>by have:=Zlq ho3 h;omega) ((Hg.out.below Hb03.out).moreM Hb03.out.size) ((Hs.out.below Hb03.out).moreM Hb03.out.size) (fun h=>by simp at h) (by rw [<- HG.out];exact hgl) (by rw [<- HT.out];exact hsl) (by rw [hlen3];decide) Hgw.out Hsw.out (fun x hx=>by cases hx) (by decide) ⟨by omega,hheap.2⟩ (Zea gw sw (by rw [<- HG.out];exact hgl) (by rw [<- HT.out];exact hsl)) (fun o ho=>by
  have h:=Zh6;have h2:=Ya3.1 h o ho;simp only [Bool.and_eq_true] at h2;refine ⟨by have:=of_decide_eq_true h2.1.2;omega,fun x hx=>by have:=of_decide_eq_true (Ya3.1 h2.2 x hx);omega⟩) (fun r L P hr=>by
  obtain ⟨e0,F,hwr,rfl,rfl⟩:=Z2n Hgw.out Hsw.out (by rw [<- HG.out];exact hgl) (by rw [<- HT.out];exact hsl) hheap hr;have h1:=hwr.len;have h2:=(Zbp (hwr.ok true)).1;have h3:=hwr.small;refine ⟨e0,by omega,by omega,hwr.words,?_⟩;have h4:=Zce (S.joined (S.wObjs gw sw)) F 0 (S.joined (S.wObjs gw sw)).length;have h5:=Zea gw sw (by rw [<- HG.out];exact hgl) (by rw [<- HT.out];exact hsl);exact Yar h4 h5)
 rw [hlen3,<- HG.out,<- HT.out] at hnew;have Hnew:=Ya hnew;clear hnew hro3 hoc3 hocA hocB ho3 hg3 hb3 hat3 hlow hlen3;refine Hnew.out.mono ?_;rintro e w4 ⟨L,P,b,p,F,hres,rfl,hk,hb4⟩;obtain ⟨_,Fs,hwr,rfl,rfl⟩:=Z2n Hgw.out Hsw.out (by rw [<- HG.out];exact hgl) (by rw [<- HT.out];exact hsl) hheap hres;have HWr:=Ya hwr;have HK:=Ya hk;have Hb04:=Ya (Hb03.out.trans (hb4.mono Hb03.out.size));clear hres hwr hk hb4;go_wp2_with fail
 go_ret
 exact ⟨Fs,b,p,F,HWr.out,rfl,HK.out.lo (Hb03.out.size),Hb04.out⟩
end
section
open Go.RowKit
theorem Zaz {ns:List S.GN}{a:Int}(hw:∀ x∈ns,0<=x.ty/\∀ y∈x.ws,0<=y.1/\y.1<4294967296/\0<=y.2)(ha:0<=a/\a<=335544320):(S.ah ns a).Ok a:=by
 refine ⟨rfl,?_,fun x hx=>?_,fun x hx=>?_,ha.1,ha.2⟩
 ·show ((ns.take 30).map S.ax).length<=30
  rw [Yp,Yac];omega
 ·obtain ⟨y,_,rfl⟩:=Y7.1 (show x∈(ns.take 30).map S.ax from hx)
  show (y.ws.take 12).length<=12
  rw [Yac];omega
 ·obtain ⟨y,hy,rfl⟩:=Y7.1 (show x∈(ns.take 30).map S.ax from hx)
  obtain ⟨q1,q2⟩:=hw y (Ydp hy);exact ⟨q1,fun z hz=>q2 z (Ydp hz)⟩
def S.bj:List S.GN:=[⟨0,[(4,0),(6,0)]⟩,⟨0,[(12,0),(0,2)]⟩]
def S.cz (H:Int)(m0:S.Mach):S.Mach:=(((S.ag (S.ah S.bj H) m0).setV 26 (H+6)).putV 16 (4*(H+3)+1)).putV 8 1
theorem Zpt (H:Int):(S.ah S.bj H).word (0,2)=4*(H+3)+1:=by
 unfold S.Gr.word;rw [if_pos ⟨by decide,by intro h;cases h⟩];rfl
theorem Zkl (H:Int)(hH:0<=H/\H<=1000000):S.Reached (S.ah S.bj H) [4*(H+3)+1] 3 [1]:=by
 have hg:(S.ah S.bj H).Ok H:=Zaz (by decide) ⟨hH.1,by omega⟩;have ha:(S.ah S.bj H).adr 1=H+3:=rfl;have hn:(S.ah S.bj H).node (4*(H+3)+1)=some 1:=by
  have:=Zvb hg (i:=1) (show 1<2 by decide);rw [ha] at this;exact this
 refine ⟨by decide,fun i hi=>?_,fun r hr i hi=>?_,fun i hi x hx j hj=>?_,fun j n hj=>?_,rfl⟩
 ·rw [Yy] at hi
  subst hi;have h2:(S.ah S.bj H).ns.length=2:=rfl;omega
 ·rw [Yy] at hr
  subst hr;rw [hn] at hi
  cases hi
  exact Yy.2 rfl
 ·rw [Yy] at hi
  subst hi;have hx':x∈[((12:Int),(0:Int)),(0,2)]:=hx;simp only [Yz,Y6,or_false] at hx';rcases hx' with rfl | rfl
  ·have:(S.ah S.bj H).word (12,0)=12:=by
    unfold S.Gr.word;rw [if_neg (fun h=>absurd h.1 (by decide))];rfl
   rw [this] at hj;unfold S.Gr.node at hj;rw [if_neg (by decide)] at hj
   cases hj
  ·rw [Zpt,hn] at hj
   cases hj
   exact Yy.2 rfl
 ·cases j with
  | zero =>
   cases hj
   exact .inl ⟨_,Yy.2 rfl,hn⟩
  | succ j=>simp at hj
section
variable {F:List Int}{H:Int}
theorem Z2o (hI:∀ b,(S.ab b [] [] F (H+40)).Ok)(hH:H=(S.ab true [] [] F (H+40)).lab S.kEnd){m0:S.Mach}(hw:S.Wd [] [] F (H+40) m0)(h2:m0.mv 2=H)(h3:m0.mv 3=H+20)(h4:m0.mv 4=20)(h5:m0.mv 5=38)(hlow:∀ a,5<a->a<1312->m0.mv a=0)(hsm:H<=100000) :
 S.Wd [] [] F (H+40) (S.cz H m0)/\S.b6 [] [] F (H+40) (S.ah S.bj H) [4*(H+3)+1] [16] 20 H (H+20) [1] 1 0 (S.cz H m0) (S.aj (S.ab true [] [] F (H+40)) (S.cz H m0) S.kCollect 20000) /\
  (S.aj (S.ab true [] [] F (H+40)) (S.cz H m0) S.kCollect 20000).state=1/\(S.aj (S.ab true [] [] F (H+40)) (S.cz H m0) S.kCollect 20000).place=(S.ab true [] [] F (H+40)).lab S.kStub:=by
 obtain ⟨g,hgE⟩:=Yx (S.ah S.bj H);have he:=Zbp (hI true);rw [<- hH] at he;have hH0:1312<=H:=by have:=he.1;simp at this;omega
 have hg:g.Ok H:=by rw [hgE];exact Zaz (by decide) ⟨by omega,by omega⟩
 have hsz:S.sizes g.ns=6:=by rw [hgE];rfl
 have hgl:g.ns.length=2:=by rw [hgE];rfl
 have hml:=hw.len;have hw1:=Zpq (hI true) hg hw (by omega) (by omega) (by omega) g.ns.length (Yf _);obtain ⟨q1,q2⟩:=Zpp hg m0 (by omega) g.ns.length (Yf _);obtain ⟨m1,hm1⟩:=Yx (S.ag g m0);have hm1':S.puts m0 ((Yo g.ns.length).flatMap (S.ae g))=m1:=hm1.symm;rw [hm1'] at q1 q2 hw1;have hw2:=Zgl (hI true) hw1 (i:=26) (v:=H+6) (by decide) (fun h=>absurd h (by decide)) ⟨by omega,by omega⟩;have nc:∀ x:Int,x<1312->¬ (S.ab true [] [] F (H+40)).code x:=fun x hx hc=>by
  have:=(Ze9 (hI true)).1 hc;simp at this;omega
 have hw3:=Zfk (hI true) hw2 (i:=16) (v:=4*(H+3)+1) ⟨by omega,by omega⟩ (nc 16 (by decide)) ⟨by omega,by omega⟩;have hw4:=Zfk (hI true) hw3 (i:=8) (v:=1) ⟨by omega,by omega⟩ (nc 8 (by decide)) ⟨by decide,by decide⟩;have hM:S.cz H m0=((m1.setV 26 (H+6)).putV 16 (4*(H+3)+1)).putV 8 1:=by rw [hm1,hgE];rfl
 rw [hM,<- hgE];obtain ⟨M,hMM⟩:=Yx (((m1.setV 26 (H+6)).putV 16 (4*(H+3)+1)).putV 8 1);have hmv:∀ x,0<=x->M.mv x=if x=8 then 1 else if x=16 then 4*(H+3)+1 else m1.mv x:=fun x hx=>by
  rw [hMM,Zbi (by decide) (by have:=hw3.len;omega) hx,Zbi (by decide) (by have:=hw2.len;omega) hx,Zcj (by decide) (by decide)]
 rw [<- hMM] at hw4 ⊢;have hlowM:∀ x,0<=x->x<1312->m1.mv x=m0.mv x:=fun x h0 h1=>q2 x h0 (by omega)
 have hlab:(S.ab true [] [] F (H+40)).lab S.kCode=1312:=by
  have:=(Zt (hI true)).2.1;simp at this;exact this
 have hG:S.an [] [] F (H+40) g H [4*(H+3)+1] [16] M.mv 20 H (H+20) (H+6) (Yo g.ns.length) g.adr 3 [1] 1 0:=by
  refine ⟨⟨by rw [<- hH];omega,by decide,.inl ⟨hH,by rw [<- hH]⟩⟩,hg,by omega,?_,fun x hx=>?_,by omega,by rw [Zfq hg,hsz];decide,by rw [hgE];exact Zkl H ⟨by omega,by omega⟩,?_,?_,?_,?_,by decide,.inl ⟨?_,rfl⟩,fun x hx=>?_,fun x hx=>?_⟩
  ·have e16:[(16:Int)].map M.mv=[4*(H+3)+1]:=by
    rw [Ya4,Ycf,hmv 16 (by decide)];rfl
   rw [e16];have:=Zkh hg (mem:=M.mv) (by omega) (fun j hj=>by
    have hE:=Zfj hg hj;obtain ⟨p1,p2⟩:=q1 j hj;refine ⟨by rw [hmv _ (by omega),if_neg (by omega),if_neg (by omega)];exact p1,fun k x hx=>by rw [hmv _ (by omega),if_neg (by omega),if_neg (by omega)];exact p2 k x hx⟩) [4*(H+3)+1]
   rw [hsz] at this;exact this
  ·rw [Yy] at hx
   subst hx;have:=Zhm hg (x:=(0,2)) (by decide) (by omega);rw [hgE,Zpt] at this;rw [hgE];exact this
  ·rw [hmv 2 (by decide),if_neg (by decide),if_neg (by decide),hlowM 2 (by decide) (by decide),h2]
  ·rw [hmv 3 (by decide),if_neg (by decide),if_neg (by decide),hlowM 3 (by decide) (by decide),h3]
  ·rw [hmv 4 (by decide),if_neg (by decide),if_neg (by decide),hlowM 4 (by decide) (by decide),h4]
  ·rw [hmv 8 (by decide),if_pos rfl];rfl
  ·rw [hmv 6 (by decide),if_neg (by decide),if_neg (by decide),hlowM 6 (by decide) (by decide)]
   exact hlow 6 (by decide) (by decide)
  ·rcases hx with ((rfl | ⟨c1,c2⟩) | ⟨j,hj,_⟩) | ⟨c1,c2⟩
   ·refine .inr ?_
    rw [hmv 5 (by decide),if_neg (by decide),if_neg (by decide),hlowM 5 (by decide) (by decide),h5]
    decide
   ·have:x=16:=by omega
    subst this;exact .inl (Yy.2 rfl)
   ·omega
   ·omega
  ·rw [Yy] at hx
   subst hx;exact .inl (.inl (.inr ⟨by decide,by decide⟩))
 obtain ⟨k1,k2,k3,_⟩:=Zpo hI hw4 hG (N:=20000) (by decide);exact ⟨hw4,k1,k2,k3⟩
end
end
section
open Go.RowKit
theorem Zq1 {m:S.Mach}{x:Int}(hx:0<=x):∀ {pl:List (Int×Int)},(∀ q∈pl,0<=q.1/\q.1<m.mem.length)->x ∉ pl.map Yan->(S.puts m pl).mv x=m.mv x:=by
 intro pl
 induction pl generalizing m with
 | nil=>intro _ _;rfl
 | cons p r ih =>
  intro h1 h2;have hp:=h1 p Y1;have hl:(m.putV p.1 p.2).mem.length=m.mem.length:=(Zci m p.1 p.2).2.2.2.2.2.2;rw [S.puts,ih (m:=m.putV p.1 p.2) (fun q hq=>by rw [hl];exact h1 q (Y0 _ hq)) (fun q=>h2 (Y0 _ q)),Zbi hp.1 hp.2 hx,if_neg (fun e=>h2 (by rw [e];exact Y1))]
theorem Z0u {m:S.Mach}:∀ {pl:List (Int×Int)},(∀ q∈pl,0<=q.1/\q.1<m.mem.length)->(pl.map Yan).Nodup->∀ q∈pl,(S.puts m pl).mv q.1=q.2:=by
 intro pl
 induction pl generalizing m with
 | nil=>intro _ _ q hq;cases hq
 | cons p r ih =>
  intro h1 h2 q hq;have hp:=h1 p Y1;have hl:(m.putV p.1 p.2).mem.length=m.mem.length:=(Zci m p.1 p.2).2.2.2.2.2.2;have hr:∀ q∈r,0<=q.1/\q.1<(m.putV p.1 p.2).mem.length:=fun q hq=>by rw [hl];exact h1 q (Y0 _ hq)
  rw [Ya4,List.nodup_cons] at h2;rcases Yz.1 hq with rfl | hq
  ·rw [S.puts,Zq1 hp.1 hr h2.1,Zbi hp.1 hp.2 hp.1,if_pos rfl]
  ·rw [S.puts]
   exact ih hr h2.2 q hq
theorem Z0v {gw sw F:List Int}{size:Int}(hI:(S.ab true gw sw F size).Ok):∀ {pl:List (Int×Int)} {m:S.Mach},S.Wd gw sw F size m->(∀ q∈pl,0<=q.1/\q.1<size/\¬ (S.ab true gw sw F size).code q.1/\0<=q.2/\q.2<=4294967295)->S.Wd gw sw F size (S.puts m pl):=by
 intro pl
 induction pl with
 | nil=>intro m h _;exact h
 | cons p r ih =>
  intro m h hp;obtain ⟨p1,p2,p3,p4⟩:=hp p Y1;exact ih (Zfk hI h ⟨p1,p2⟩ p3 p4) fun q hq=>hp q (Y0 _ hq)
def S.be (b:Int)(s:Nat):Int:=((b.toNat ||| 2^s:Nat):Int)
theorem Zu7 (n:Nat)(i:Nat):S.bm (n:Int) i=n.testBit i:=by
 unfold S.bm;rw [Nat.testBit_eq_decide_div_mod_eq];have e:(n:Int)/2^i%2=((n/2^i%2:Nat):Int):=by
  simp
 rw [e];by_cases c:n/2^i%2=1
 ·rw [c];rfl
 ·have h0:n/2^i%2=0:=by omega
  rw [h0];rfl
theorem Ze6 {b:Int}(hb:0<=b)(s i:Nat):S.bm (S.be b s) i=(S.bm b i || decide (s=i)):=by
 obtain ⟨n,rfl⟩:=Int.eq_ofNat_of_zero_le hb;unfold S.be;rw [Zu7,Zu7,Int.toNat_natCast,Nat.testBit_or,Nat.testBit_two_pow]
theorem Zu8 {b:Int}(hb:0<=b/\b<4294967296){s:Nat}(hs:s<32):0<=S.be b s/\S.be b s<4294967296:=by
 unfold S.be;have h1:b.toNat<2^32:=by omega
 have h2:2^s<2^32:=Nat.pow_lt_pow_right (by decide) hs;have h3:=Nat.or_lt_two_pow h1 h2;generalize b.toNat ||| 2^s=q at *
 omega
theorem Zh3 (i:Nat):S.bm 0 i=false:=by
 unfold S.bm;simp
structure S.am where
 nodes:List S.GN
 roots:List (Int×Int)
 glob:List (Int×Int)
 stat:List (Int×Int)
 slots:List (Int×Int)
 places:List Int
 sym:Int×Int
def S.wf (y:Int×Int):Prop:=0<=y.1/\y.1<4294967296/\0<=y.2/\y.2<65536
structure S.am.Ok (x:S.am):Prop where
 nodes:∀ n∈x.nodes,0<=n.ty/\∀ y∈n.ws,0<=y.1/\y.1<4294967296/\0<=y.2
 roots:∀ y∈x.roots,S.wf y
 glob:∀ y∈x.glob,S.wf y
 stat:∀ y∈x.stat,S.wf y
 slots:∀ y∈x.slots,S.wf y
 places:∀ y∈x.places,0<=y/\y<256
 sym:S.wf x.sym
def S.am.nr (x:S.am):Nat:=min x.roots.length 8
def S.am.ng (x:S.am):Nat:=min x.glob.length 6
def S.am.ns (x:S.am):Nat:=min x.stat.length 6
def S.am.nq (x:S.am):Nat:=min (min x.slots.length x.places.length) 6
def S.ao (g:S.Gr)(a:Int)(l:List (Int×Int))(n:Nat):List (Int×Int):=(Yo n).map fun i=>(a+(i:Nat),g.word (l.getD i (0,0)))
theorem Zi4 (g:S.Gr)(a:Int)(l:List (Int×Int))(n:Nat):S.ao g a l (n+1)=S.ao g a l n++[(a+(n:Nat),g.word (l.getD n (0,0)))]:=by
 unfold S.ao;rw [List.range_succ,Yv];rfl
theorem Zx2 (g:S.Gr)(a:Int)(l:List (Int×Int))(n:Nat):(S.ao g a l n).length=n:=by
 unfold S.ao;rw [Yp,List.length_range]
theorem Zby (g:S.Gr)(a:Int)(l:List (Int×Int))(n:Nat)(x:Int):x∈(S.ao g a l n).map Yan↔a<=x/\x<a+n:=by
 constructor
 ·intro h
  obtain ⟨q,hq,rfl⟩:=Y7.1 h;obtain ⟨i,hi,rfl⟩:=Y7.1 (show q∈(Yo n).map _ from hq);have:=Yaf.1 hi
  show a<=a+(i:Int)/\a+(i:Int)<a+n
  omega
 ·intro h
  refine Y7.2 ⟨(x,g.word (l.getD (x-a).toNat (0,0))),Y7.2 ⟨(x-a).toNat,Yaf.2 (by omega),?_⟩,rfl⟩;rw [show a+(((x-a).toNat:Nat):Int)=x from by omega]
theorem Ze7 (g:S.Gr)(a:Int)(l:List (Int×Int)):∀ n:Nat,((S.ao g a l n).map Yan).Nodup
 | 0=>Yco
 | n+1=>by
  rw [Zi4,Yv,Ybt];refine ⟨Ze7 g a l n,by simp,fun x hx y hy e=>?_⟩;have:=(Zby g a l n x).1 hx;rw [Ya4,Ycf,Yy] at hy;subst hy;have e2:x=a+(n:Int):=e;omega
theorem Zlr {g:S.Gr}{a0:Int}(hg:g.Ok a0)(hz:a0+S.sizes g.ns<=335544320){a:Int}{l:List (Int×Int)}{n:Nat}(hn:n<=l.length)(hl:∀ y∈l,S.wf y):∀ q∈S.ao g a l n,g.fit q.2:=fun q hq=>by
 obtain ⟨i,hi,rfl⟩:=Y7.1 (show q∈(Yo n).map _ from hq);have:=Yaf.1 hi;have hil:i<l.length:=by omega
 show g.fit (g.word (l.getD i (0,0)))
 rw [Yk,Yc hil];have hw:=hl _ (Yag hil);exact Zhm hg ⟨hw.1,hw.2.1,hw.2.2.1⟩ hz
def S.af (g:S.Gr)(sl:List (Int×Int))(pl:List Int):Nat->Int×Int×List (Int×Int)
 | 0=>(0,0,[])
 | i+1 =>
  if (pl.getD i 0%64).toNat<32 then
   if S.bm (S.af g sl pl i).1 (pl.getD i 0%64).toNat then S.af g sl pl i
   else (S.be (S.af g sl pl i).1 (pl.getD i 0%64).toNat,(S.af g sl pl i).2.1,(S.af g sl pl i).2.2++[(32+pl.getD i 0%64,g.word (sl.getD i (0,0)))])
  else
   if S.bm (S.af g sl pl i).2.1 ((pl.getD i 0%64).toNat-32) then S.af g sl pl i
   else ((S.af g sl pl i).1,S.be (S.af g sl pl i).2.1 ((pl.getD i 0%64).toNat-32),(S.af g sl pl i).2.2++[(32+pl.getD i 0%64,g.word (sl.getD i (0,0)))])
def S.dh (b0 b1 x:Int):Prop:=(∃ i:Nat,i<32/\x=32+i/\S.bm b0 i=true)\/(∃ i:Nat,i<32/\x=64+i/\S.bm b1 i=true)
structure S.dm (g:S.Gr)(q:Int×Int×List (Int×Int)):Prop where
 b0:0<=q.1/\q.1<4294967296
 b1:0<=q.2.1/\q.2.1<4294967296
 nd:(q.2.2.map Yan).Nodup
 at_:∀ x,x∈q.2.2.map Yan↔S.dh q.1 q.2.1 x
 fit:∀ y∈q.2.2,g.fit y.2
theorem Zet {b0 b1 x:Int}(h:S.dh b0 b1 x):32<=x/\x<96:=by
 rcases h with ⟨i,hi,rfl,_⟩ | ⟨i,hi,rfl,_⟩ <;> omega
theorem Zx3 {g:S.Gr}{b0 b1:Int}{l:List (Int×Int)}(h:S.dm g (b0,b1,l)){s:Nat}{v:Int}(hv:g.fit v)(hs:s<64) :
 (s<32->S.bm b0 s=false->S.dm g (S.be b0 s,b1,l++[(32+(s:Int),v)]))/\(¬ s<32->S.bm b1 (s-32)=false->S.dm g (b0,S.be b1 (s-32),l++[(32+(s:Int),v)])):=by
 have hb0:=h.b0;have hb1:=h.b1;simp only at hb0 hb1;have nd:¬ S.dh b0 b1 (32+(s:Int))->((l++[(32+(s:Int),v)]).map Yan).Nodup:=fun hn=>by
  rw [Yv,Ybt];refine ⟨h.nd,by simp,fun x hx y hy e=>?_⟩;rw [Ya4,Ycf,Yy] at hy;subst hy;have e2:x=32+(s:Int):=e;subst e2;exact hn ((h.at_ _).1 hx)
 have fit:∀ y∈l++[(32+(s:Int),v)],g.fit y.2:=fun y hy=>by
  rcases Yw.1 hy with q | q
  ·exact h.fit y q
  ·rw [Yy] at q
   subst q;exact hv
 have mem:∀ x,x∈(l++[(32+(s:Int),v)]).map Yan↔S.dh b0 b1 x\/x=32+(s:Int):=fun x=>by
  rw [Yv,Yw,Ya4,Ycf,Yy];exact or_congr (h.at_ x) Iff.rfl
 refine ⟨fun h1 h2=>⟨Zu8 hb0 h1,hb1,nd ?_,fun x=>(mem x).trans ?_,fit⟩,fun h1 h2=>⟨hb0,Zu8 hb1 (by omega),nd ?_,fun x=>(mem x).trans ?_,fit⟩⟩
 ·rintro (⟨i,hi,e,hb⟩ | ⟨i,hi,e,hb⟩)
  ·have:i=s:=by omega
   subst this;rw [h2] at hb
   cases hb
  ·omega
 ·constructor
  ·rintro ((⟨i,hi,e,hb⟩ | q) | rfl)
   ·exact .inl ⟨i,hi,e,by rw [Ze6 hb0.1,hb];rfl⟩
   ·exact .inr q
   ·exact .inl ⟨s,h1,rfl,by rw [Ze6 hb0.1];simp⟩
  ·rintro (⟨i,hi,rfl,hb⟩ | q)
   ·rw [Ze6 hb0.1] at hb
    by_cases c:s=i
    ·subst c
     exact .inr rfl
    ·rw [decide_eq_false c,Bool.or_false] at hb
     exact .inl (.inl ⟨i,hi,rfl,hb⟩)
   ·exact .inl (.inr q)
 ·rintro (⟨i,hi,e,hb⟩ | ⟨i,hi,e,hb⟩)
  ·omega
  ·have:i=s-32:=by omega
   subst this;rw [h2] at hb
   cases hb
 ·constructor
  ·rintro ((q | ⟨i,hi,e,hb⟩) | rfl)
   ·exact .inl q
   ·exact .inr ⟨i,hi,e,by rw [Ze6 hb1.1,hb];rfl⟩
   ·exact .inr ⟨s-32,by omega,by omega,by rw [Ze6 hb1.1];simp⟩
  ·rintro (q | ⟨i,hi,rfl,hb⟩)
   ·exact .inl (.inl q)
   ·rw [Ze6 hb1.1] at hb
    by_cases c:s-32=i
    ·exact .inr (by omega)
    ·rw [decide_eq_false c,Bool.or_false] at hb
     exact .inl (.inr ⟨i,hi,rfl,hb⟩)
theorem Zi5 {g:S.Gr}{a0:Int}(hg:g.Ok a0)(hz:a0+S.sizes g.ns<=335544320){sl:List (Int×Int)}{pl:List Int}(hs:∀ y∈sl,S.wf y):∀ n:Nat,n<=sl.length->S.dm g (S.af g sl pl n)
 | 0,_=>⟨⟨Int.le_refl 0,by show (0:Int)<4294967296;decide⟩,⟨Int.le_refl 0,by show (0:Int)<4294967296;decide⟩,Yco,fun x=>⟨fun h=>(Y6 h).elim,fun h=>by
  rcases h with ⟨i,_,_,hb⟩ | ⟨i,_,_,hb⟩
  ·rw [show (S.af g sl pl 0).1=0 from rfl,Zh3] at hb;cases hb
  ·rw [show (S.af g sl pl 0).2.1=0 from rfl,Zh3] at hb;cases hb⟩,fun y hy=>(Y6 hy).elim⟩
 | n+1,h=>by
  have ih:=Zi5 hg hz (pl:=pl) hs n (by omega);have hil:n<sl.length:=by omega
  have hw:=hs _ (Yag hil);have hv:g.fit (g.word (sl.getD n (0,0))):=by
   rw [Yk,Yc hil];exact Zhm hg ⟨hw.1,hw.2.1,hw.2.2.1⟩ hz
  obtain ⟨q,hq⟩:=Yx (S.af g sl pl n);obtain ⟨s,hse⟩:=Yx (pl.getD n 0%64).toNat;have hs64:s<64:=by omega
  have es:pl.getD n 0%64=(s:Int):=by omega
  rw [S.af,<- hse,<- hq,es];rw [<- hq] at ih;obtain ⟨b0,b1,l⟩:=q;obtain ⟨k1,k2⟩:=Zx3 ih hv hs64
  split
  ·rename_i c
   split
   ·exact ih
   ·rename_i c2
    exact k1 c (by simpa using c2)
  ·rename_i c
   split
   ·exact ih
   ·rename_i c2
    exact k2 c (by simpa using c2)
end
end Go.Proofs.YtgdjocajlndonaaGreatDoor
