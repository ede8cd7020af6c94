/- Parts. -/
import Derived.Test.YtdeepoikgfaecaaGreatDoorZKNew
import Derived.Test.YtdeepoikgfaecaaGreatDoorZKLay
import Derived.Deep.OwnRows
set_option linter.all false
set_option maxHeartbeats 4000000
open Go.Lib renaming hid->Ya
open List renaming length_append->Yc,getElem?_eq_getElem->Yd,getElem?_eq_some_iff->Ye,mem_singleton->Yq,mem_cons->Yu,mem_cons_of_mem->Yw,mem_cons_self->Yy,range->Yz,getElem?_map->Y0,not_mem_nil->Y3,length_take->Yaa,all_eq_true->Yaz,mem_map->Ya1,mem_append_left->Yba,map_cons->Ybr,mem_of_mem_take->Yc9
open Nat renaming le_refl->Yf,le_trans->Y9
open Go.AllReady renaming cons->Yg,nil->Yi
open Go.Value renaming int->Y1
namespace Go.Proofs.YtdeepoikgfaecaaGreatDoor
set_option maxRecDepth 100000
section
open Go.RowKit
def S.bc:List ByteArray:=S.kHead::((S.objs26++[S.oMain]).map S.Obj.name++[S.kTail])
theorem Zty:(S.nodupB S.bc && (S.objs26++[S.oMain]).all (fun o=>!S.badN o))=true:=by kernel_rfl
theorem Zy0 (gw sw:List Int):S.NamesRes (S.wObjs gw sw) 0:=by
 have h:=Zty;rw [Bool.and_eq_true] at h;have hn:(S.wObjs gw sw).map S.Obj.name=S.bc:=by
  show ((S.oHead gw sw::(S.objs26++[S.oMain]))++[S.oTail]).map S.Obj.name=_
  rw [List.map_append,Ybr];rfl
 have hd:((S.wObjs gw sw).map S.Obj.name).Nodup:=by rw [hn];exact Zjx h.1
 refine .inr (.inr ⟨?_,fun o ho=>?_,rfl⟩)
 ·rintro ⟨i,j,a,b,hij,hi,hj,hab⟩
  have e1:((S.wObjs gw sw).map S.Obj.name)[i]?=some a.name:=by rw [Y0,hi];rfl
  have e2:((S.wObjs gw sw).map S.Obj.name)[j]?=some b.name:=by rw [Y0,hj];rfl
  obtain ⟨l1,q1⟩:=Ye.1 e1;obtain ⟨l2,q2⟩:=Ye.1 e2;have:=(List.nodup_iff_pairwise_ne.1 hd)
  rw [List.pairwise_iff_getElem] at this;exact this j i l2 l1 hij (by rw [q1,q2,hab])
 ·have ho':o∈(S.oHead gw sw::(S.objs26++[S.oMain]))++[S.oTail]:=ho
  rcases List.mem_append.1 ho' with q | q
  ·rcases Yu.1 q with rfl | q
   ·show (S.kHead.data.toList.isEmpty || S.ownB S.kHead)=false
    decide
   ·have:=Yaz.1 h.2 o q
    simpa using this
  ·rw [Yq] at q
   subst q
   show (S.kTail.data.toList.isEmpty || S.ownB S.kTail)=false
   decide
section
variable {H:Zp}{w:World}(hH:∀ b k,H b=some k->b<w.heap.size)
include hH
theorem Zhy:∀ {os:List S.Obj} {xs:List Value},RepL H w (S.an os) xs->(∀ x∈os,(∀ y∈x.items,0<=y.word/\y.word<=4294967295)/\x.name.size<=maxLen/\∀ y∈x.items,y.label.size<=maxLen)->OC w w.heap.size os xs
 | [],xs,h,_=>by
  have h':RepL H w [] xs:=h;rw [RepL] at h';subst h';exact { len:=rfl,one:=fun u hu=>(Y3 hu).elim,at_:=fun i x hx=>by simp at hx }
 | o::r,xs,h,hw=>by
  have h':RepL H w (.str o.name::.row o.items.length (S.encItems o.items)::S.an r) xs:=h;rw [RepL] at h';obtain ⟨v0,rs,rfl,_,hv0,h'⟩:=h';rw [RepL] at h';obtain ⟨v1,rs,rfl,_,hv1,h'⟩:=h';rw [RepV] at hv0;subst hv0;obtain ⟨q1,q2,q3⟩:=hw o Yy;obtain ⟨A,c,rfl,hi⟩:=Zjm hH hv1 q1;have ih:=Zhy h' fun x hx=>hw x (Yw _ hx)
  exact (OC.one_ (x:=o) (c:=c) hi q2 q3).app ih
end
theorem KAt.lo {w:World}{lo lo' b p:Nat}{F:Nat->Prop}{H half:Int}{P:List (ByteArray×Int)}{m:S.Mach}(h:KAt w lo b p F H half P m)(hl:lo'<=lo):KAt w lo' b p F H half P m:=by
 obtain ⟨vm,vo,A,c,inp,rd,k1,k2,k3⟩:=h.mach;exact ⟨h.blk,⟨vm,vo,A,c,inp,rd,k1.base hl,k2,k3⟩,Y9 hl h.lowb,h.nb,fun k hk=>⟨Y9 hl (h.lt k hk).1,(h.lt k hk).2⟩,h.few⟩
theorem ItemAt.block {w w':World}{b o:Nat}{x:S.Item}(h:ItemAt w b o x)(hb:w'.heap[b]?=w.heap[b]?):ItemAt w' b o x:=h.keep fun o=>World.cell?_of_block (a:=⟨b,o,none⟩) hb
theorem Zjg {H:Zp}{w w':World}(hH:∀ b k,H b=some k->b<w.heap.size){g n:Nat}(hg:H g=some n)(hcells:∀ j,j<n->∀ k v,w.cell? ⟨g,j,none⟩≠some (.int k v))(hz:w.heap.size<=w'.heap.size)(hk:∀ k,k<w.heap.size->k≠g->w'.heap[k]?=w.heap[k]?) :
 ∀ {os:List S.Obj} {xs:List Value},RepL H w (S.an os) xs->(∀ x∈os,(∀ y∈x.items,0<=y.word/\y.word<=4294967295)/\x.name.size<=maxLen/\∀ y∈x.items,y.label.size<=maxLen)->OC w' w'.heap.size os xs
 | [],xs,h,_=>by
  have h':RepL H w [] xs:=h;rw [RepL] at h';subst h';exact { len:=rfl,one:=fun u hu=>(Y3 hu).elim,at_:=fun i x hx=>by simp at hx }
 | o::r,xs,h,hw=>by
  have h':RepL H w (.str o.name::.row o.items.length (S.encItems o.items)::S.an r) xs:=h;rw [RepL] at h';obtain ⟨v0,rs,rfl,_,hv0,h'⟩:=h';rw [RepL] at h';obtain ⟨v1,rs,rfl,_,hv1,h'⟩:=h';rw [RepV] at hv0;subst hv0;obtain ⟨q1,q2,q3⟩:=hw o Yy;have hv1':=hv1;obtain ⟨A,c,rfl,hi⟩:=Zjm hH hv1 q1;rw [RepV] at hv1';obtain ⟨A',c',e,_,_,hc⟩:=hv1'
  cases e
  have hi':Items w' w'.heap.size A o.items:=fun hp=>by
   obtain ⟨b,off,e,hb,hx⟩:=hi hp;have hne:b≠g:=by
    rintro rfl;rcases hc with e0 | ⟨b',o',k,e0,hbk,hle,hr⟩
    ·cases hxs:o.items with
     | nil=>rw [hxs] at hp;simp at hp
     | cons y ys=>rw [hxs] at e0;cases e0
    ·rw [e] at e0
     cases e0
     rw [hg] at hbk
     cases hbk
     obtain ⟨y,hy⟩:∃ y,o.items[0]?=some y:=⟨_,Yd hp⟩
     have h0:=(hx 0 y hy).1;rw [Nat.zero_mul,Nat.add_zero] at h0;refine hcells off ?_ _ _ h0
     cases hxs:o.items with
     | nil=>rw [hxs] at hp;simp at hp
     | cons y ys =>
      rw [hxs] at hle;have:(S.encItems (y::ys)).length=8+(S.encItems ys).length:=by
       show (_++S.encItems ys).length=_
       rw [Yc];rfl
      omega
   exact ⟨b,off,e,by omega,fun i x h=>(hx i x h).block (hk b hb hne)⟩
  have ih:=Zjg hH hg hcells hz hk h' fun x hx=>hw x (Yw _ hx)
  exact (OC.one_ (x:=o) (c:=c) hi' q2 q3).app ih
structure S.Wr (gw sw F:List Int)(heap:Int):Prop where
 forms:S.FormsRes (S.joined (S.wObjs gw sw)) 0 0 F
 ok:∀ b,(S.aa b gw sw F ((S.wL gw sw F).length+heap)).Ok
 words:∀ x∈S.wL gw sw F,0<=x/\x<=4294967295
 wd:S.Wd gw sw F ((S.wL gw sw F).length+heap) (S.wM (S.wL gw sw F) heap [])
 fst:S.b7 gw sw F heap (S.wM (S.wL gw sw F) heap [])
 len:((S.wL gw sw F).length:Int)=(S.aa true gw sw F ((S.wL gw sw F).length+heap)).lab S.kEnd
 small:(S.wL gw sw F).length<=12000
def S.wP (gw sw F:List Int):List (ByteArray×Int):=S.placesTo (S.joined (S.wObjs gw sw)) F 0 (S.joined (S.wObjs gw sw)).length
section
variable {gw sw:List Int}(hg:∀ x∈gw,0<=x/\x<=4294967295)(hs:∀ x∈sw,0<=x/\x<=4294967295)(hgl:gw.length<=100)(hsl:sw.length<=100)
include hg hs hgl hsl
theorem Z0v {heap:Int}(h0:1<=heap/\heap<=1000000){r:Int}{L:List Int}{P:List (ByteArray×Int)}(h:Zkx (S.wObjs gw sw) 0 r L P):r=0/\∃ F,S.Wr gw sw F heap/\L=S.wL gw sw F/\P=S.wP gw sw F:=by
 have hw:=Zr2 gw sw hg hs;rcases h with ⟨h1,h2,_⟩ | ⟨_,F,h1,h2,h3⟩
 ·exact absurd (Zlu h2 (Zy0 gw sw)) h1
 ·obtain ⟨a0,ha0⟩:=Yx (S.addr (S.joined (S.wObjs gw sw)) F 0 (S.joined (S.wObjs gw sw)).length)
  by_cases hr:r=0
  ·subst hr
   have hF:S.FormOk (S.joined (S.wObjs gw sw)) F:=by
    rcases h1 with ⟨h,_⟩ | ⟨h,_⟩ | ⟨_,_,h,_⟩
    ·exact absurd rfl h
    ·omega
    ·exact h.1
   have hsz:=(Zco (base:=0) hF hw (S.joined (S.wObjs gw sw)).length).1;have key:=fun size:Int=>Z19 (e:=0) (F:=F) (size:=size) h1 hg hs hgl hsl
   have hsm:S.addr (S.joined (S.wObjs gw sw)) F 0 (S.joined (S.wObjs gw sw)).length<=67108864:=by
    rcases h1 with ⟨h,_⟩ | ⟨h,_⟩ | ⟨_,_,_,_,h5⟩
    ·exact absurd rfl h
    ·omega
    ·exact h5
   obtain ⟨-,hok,hle⟩:=key (S.addr (S.joined (S.wObjs gw sw)) F 0 (S.joined (S.wObjs gw sw)).length+heap) (fun _=>by omega) (by omega);have hlen:((S.wL gw sw F).length:Int)=S.addr (S.joined (S.wObjs gw sw)) F 0 (S.joined (S.wObjs gw sw)).length:=by
    have h5:=Ztq (hok true);have h6:=(Ze6 (hok true)).2.2;have h7:(S.aa true gw sw F (S.addr (S.joined (S.wObjs gw sw)) F 0 (S.joined (S.wObjs gw sw)).length+heap)).adr (S.aa true gw sw F (S.addr (S.joined (S.wObjs gw sw)) F 0 (S.joined (S.wObjs gw sw)).length+heap)).xs.length=S.addr (S.joined (S.wObjs gw sw)) F 0 (S.joined (S.wObjs gw sw)).length:=rfl;omega
   rw [<- hlen] at hok;have hwd:=fun x hx=>Zh4 (F:=F) (base:=0) hw (S.joined (S.wObjs gw sw)).length x hx
   obtain ⟨k1,k2⟩:=Zwe (inp:=[]) (hok true) hwd (fun x hx=>by cases hx) (by omega);refine ⟨rfl,F,⟨h1,hok,hwd,k1,k2,Ztq (hok true),by omega⟩,?_,?_⟩
   ·rw [h2,if_pos rfl];rfl
   ·rw [h3,if_pos rfl];rfl
  ·exfalso
   have:=(Z19 (e:=r) (F:=F) (size:=100000000) h1 hg hs hgl hsl (fun h=>absurd h hr) (by decide)).1;exact hr this
end
theorem Zds (gw sw:List Int)(hgl:gw.length<=100)(hsl:sw.length<=100):(S.joined (S.al gw sw (S.objs26++[S.oMain]))).length<=1048576:=by
 have e:S.al gw sw (S.objs26++[S.oMain])=S.wObjs gw sw:=rfl;have hm:S.mid.length<=100000:=by
  have h:decide (S.mid.length<=100000)=true:=by kernel_rfl
  exact of_decide_eq_true h
 rw [e,Zch,Yc,Yc,Zbv,show S.tItems.length=3 from rfl];omega
def Zy1 (w:World)(gw sw:List Int)(heap:Int)(e:Ending)(w':World):Prop :=
 ∃ Fs b p F,S.Wr gw sw Fs heap/\e=.returned (.pointer (some ⟨b,0,none⟩))/\KAt w' w.heap.size b p F (S.wL gw sw Fs).length (heap/2) (S.wP gw sw Fs) (S.wM (S.wL gw sw Fs) heap [])/\Below w.heap.size w w'
theorem Zhz (Ag As:Option Addr)(cg cs:Nat)(gw sw:List Int)(heap:Int)(w:World)(hL:LVE w)(hg:Reads w w.heap.size Ag (gw.map (Y1 .u32)))(hs:Reads w w.heap.size As (sw.map (Y1 .u32)))(hgl:gw.length<=100)(hsl:sw.length<=100)
 (hgw:∀ x∈gw,0<=x/\x<=4294967295) (hsw:∀ x∈sw,0<=x/\x<=4294967295) (hheap:1<=heap/\heap<=1000000) :
 Calls Tryz.prog 6 #[.slice Ag gw.length cg,.slice As sw.length cs,.int .i64 heap] w (Zy1 w gw sw heap):=by
 obtain ⟨G,hG⟩:=Yx gw.length;obtain ⟨T,hT⟩:=Yx sw.length;have HG:=Ya hG;have HT:=Ya hT;have Hg:=Ya hg;have Hs:=Ya hs;have Hgw:=Ya hgw;have Hsw:=Ya hsw;have HLV:=Ya hL;rw [<- hG] at hgl ⊢;rw [<- hT] at hsl ⊢;clear hG hT hg hs hgw hsw hL;go_enter Tryz.func6,Tryz.ntmps6
 go_wp2_with fail
 refine (Zqz (fun _=>none) w [.int .i64 0] (fun b k h=>by cases h) HLV.out (by rw [RepT];exact ⟨_,_,rfl,by rw [RepV],by rw [RepT]⟩)).mono ?_;rintro e w1 ⟨v1,H1,rfl,hb1,-,hH1,hr1,ht1⟩;obtain ⟨xs1,hl1,ho1,hgH⟩:=Zpv (ht1 _ rfl) hr1 (.inl ⟨rfl,rfl⟩) (by kernel_rfl);have hoc1:=Zhy hH1 hl1 (fun x hx=>Zkv Zgu x (Yba _ hx));obtain ⟨A1,c1,rfl⟩:=Za ho1;have Ho1:=Ya ho1;have Hb1:=Ya hb1;obtain ⟨g1,o1,hA1,hg1,hgc⟩:=(Zc0 ho1) (by rw [hoc1.len];decide)
 have Hgrown:=Ya (fun (w':World) (hz:w1.heap.size<=w'.heap.size) (hk:∀ k,k<w1.heap.size->k≠g1->w'.heap[k]?=w1.heap[k]?)=>Zjg (w':=w') hH1 (g:=g1) (n:=30) (by
  have:=hgH g1 (by rw [hA1];rfl);rw [this];exact congrArg some (by kernel_rfl)) (fun j hj k v hcv=>by
  obtain ⟨g2,rfl,_,_,_,hg4,_⟩:=Zau ho1 (by decide)
  cases hA1
  have hjl:j<xs1.length:=by rw [hoc1.len];exact hj
  have hcj:=hg4 j (by omega);rw [hcv] at hcj;have hi:j/2<S.objs26.length:=by
   have:S.objs26.length=15:=by decide
   omega
  obtain ⟨A',c',p0,p1,_⟩:=hoc1.at_ (j/2) _ (Yd hi);rcases Nat.mod_two_eq_zero_or_one j with e | e
  ·have:j/2*2=j:=by omega
   rw [this,<- hcj] at p0
   cases p0
  ·have:j/2*2+1=j:=by omega
   rw [this,<- hcj] at p1
   cases p1) hz hk hl1 (fun x hx=>Zkv Zgu x (Yba _ hx)))
 have HA1:=Ya hA1;clear hr1 ht1 hl1 ho1 hH1 hb1 hgH hgc hA1 hoc1;go_wp2_with fail
 refine (Zt4 (fun _=>none) w1 [] (fun b k h=>by cases h) (HLV.out.on Hb1.out) (by rw [RepT])).mono ?_;rintro e w2 ⟨v2,H2,rfl,hb2,hO2,hH2,hr2,-⟩;rw [RepV] at hr2;obtain ⟨vs2,rfl,hl2⟩:=hr2;have hoc2:=Zhy (os:=[S.oMain]) hH2 hl2 (fun x hx=>Zkv Zgu x (List.mem_append_right _ hx));obtain ⟨Am,cm,z0,z1,_,_,_⟩:=hoc2.at_ 0 S.oMain rfl;obtain ⟨nm,hnm⟩:=Yx S.oMain.items.length;have hv2:vs2=[.string S.kMain,.slice Am nm cm]:=by
  have hlen:=hoc2.len
  match vs2,hlen,z0,z1 with
  | [a,b],_,z0,z1 =>
   simp at z0 z1;rw [z0,z1,hnm];rfl
 subst hv2;have HnM:=Ya (show ∀ b off,Am=some ⟨b,off,none⟩->b≠g1 from fun b off e=>by
  rintro rfl;have hl3:RepL H2 w2 (.str S.oMain.name::.row S.oMain.items.length (S.encItems S.oMain.items)::[]) [.string S.kMain,.slice Am nm cm]:=hl2;rw [RepL] at hl3;obtain ⟨v0,rs,e0,_,_,hl3⟩:=hl3
  cases e0
  rw [RepL] at hl3;obtain ⟨v1,rs,e1,_,hv1,_⟩:=hl3
  cases e1
  rw [RepV] at hv1;obtain ⟨A',c',e2,_,_,hc⟩:=hv1
  cases e2
  rcases hc with hc | ⟨b',o',k,e3,hbk,_⟩
  ·have:(S.encItems S.oMain.items).length=0:=by rw [hc];rfl
   have h2:(S.encItems S.oMain.items).length=24:=by kernel_rfl
   omega
  ·rw [e] at e3
   cases e3
   rw [hO2 b hg1] at hbk
   cases hbk)
 have Hoc2:=Ya hoc2;have Hb2:=Ya hb2;have hz1:=Hb1.out.size;have hz2:=hb2.size;have Ho2:=Ya (Zc Ho1.out hb2);have Hb02:=Ya (Hb1.out.trans (hb2.mono hz1));clear hoc2 hb2 hl2 z0 z1 hnm hH2;go_wp2_with (at_builtin;refine Zo rfl (.tmp 7) (.tmp 9) _ rfl w.heap.size 55 Zcn Tryz.underlying51 rfl (by decide) #[.string S.kMain,.slice Am nm cm] _ _ _ rfl Ho2.out rfl rfl rfl (by simp [Value.oneCell']) (by simp [maxLen]) (by decide) (Y9 hz1 hz2) ?_;intro v' w3 ho3 hg3 hb3 hat3;obtain ⟨A3,c3,rfl⟩:=Za ho3)
 have hz3:=hb3.size;have Hb03:=Ya (Hb02.out.trans hb3);have hocA:=Hgrown.out w3 (Y9 hz2 hz3) (fun k hk hne=>by
  rw [<- Hb2.out.block k hk];refine hg3.block k (by omega) fun e=>hne ?_
  rw [HA1.out] at e;have e':some k=some g1:=e;exact Option.some.inj e')
 have hlow:∀ k,k<w2.heap.size->k≠g1->w3.heap[k]?=w2.heap[k]?:=fun k hk hne=>hg3.block k hk fun e=>hne (by
  rw [HA1.out] at e;have e':some k=some g1:=e;exact Option.some.inj e')
 have hocB:OC w3 w3.heap.size [S.oMain] [.string S.kMain,.slice Am nm cm]:=by
  obtain ⟨Am',cm',z0,z1,z2,z3,z4⟩:=Hoc2.out.at_ 0 S.oMain rfl;refine ⟨Hoc2.out.len,Hoc2.out.one,fun i x hx=>?_⟩
  cases i with
  | zero =>
   cases hx
   refine ⟨Am',cm',z0,z1,fun hp=>?_,z3,z4⟩;obtain ⟨b,off,e,hb,hx⟩:=z2 hp;have hne:b≠g1:=HnM.out b off (by
    have:Am=Am':=by
     simp at z1;exact z1.1
    rw [this];exact e)
   exact ⟨b,off,e,by omega,fun i x h=>(hx i x h).block (hlow b hb hne)⟩
  | succ i=>cases hx
 have hoc3:=hocA.app hocB;have hro3:=Zc0 ho3;have hlen3:(S.objs26++[S.oMain]).length=16:=by kernel_rfl
 have hnew:=Z17 (S.objs26++[S.oMain]) A3 Ag As none c3 cg cs 0 gw sw [] heap w3 _ hro3 hoc3 (fun h=>by have:=Zkb ho3 h;omega) ((Hg.out.below Hb03.out).moreM Hb03.out.size) ((Hs.out.below Hb03.out).moreM Hb03.out.size) (fun h=>by simp at h) (by rw [<- HG.out];exact hgl) (by rw [<- HT.out];exact hsl) (by rw [hlen3];decide) Hgw.out Hsw.out (fun x hx=>by cases hx) (by decide) ⟨by omega,hheap.2⟩ (Zds gw sw (by rw [<- HG.out];exact hgl) (by rw [<- HT.out];exact hsl)) (fun o ho=>by
  have h:=Zgu;have h2:=Yaz.1 h o ho;simp only [Bool.and_eq_true] at h2;refine ⟨by have:=of_decide_eq_true h2.1.2;omega,fun x hx=>by have:=of_decide_eq_true (Yaz.1 h2.2 x hx);omega⟩) (fun r L P hr=>by
  obtain ⟨e0,F,hwr,rfl,rfl⟩:=Z0v Hgw.out Hsw.out (by rw [<- HG.out];exact hgl) (by rw [<- HT.out];exact hsl) hheap hr;have h1:=hwr.len;have h2:=(Zb5 (hwr.ok true)).1;have h3:=hwr.small;refine ⟨e0,by omega,by omega,hwr.words,?_⟩;have h4:=Zb1 (S.joined (S.wObjs gw sw)) F 0 (S.joined (S.wObjs gw sw)).length;have h5:=Zds gw sw (by rw [<- HG.out];exact hgl) (by rw [<- HT.out];exact hsl);exact Y9 h4 h5)
 rw [hlen3,<- HG.out,<- HT.out] at hnew;have Hnew:=Ya hnew;clear hnew hro3 hoc3 hocA hocB ho3 hg3 hb3 hat3 hlow hlen3;refine Hnew.out.mono ?_;rintro e w4 ⟨L,P,b,p,F,hres,rfl,hk,hb4⟩;obtain ⟨_,Fs,hwr,rfl,rfl⟩:=Z0v Hgw.out Hsw.out (by rw [<- HG.out];exact hgl) (by rw [<- HT.out];exact hsl) hheap hres;have HWr:=Ya hwr;have HK:=Ya hk;have Hb04:=Ya (Hb03.out.trans (hb4.mono Hb03.out.size));clear hres hwr hk hb4;go_wp2_with fail
 go_ret
 exact ⟨Fs,b,p,F,HWr.out,rfl,HK.out.lo (Hb03.out.size),Hb04.out⟩
end
section
open Go.RowKit
theorem Zeg {ns:List S.GN}{a:Int}(hw:∀ x∈ns,0<=x.ty/\∀ y∈x.ws,0<=y.1/\y.1<4294967296/\0<=y.2)(ha:0<=a/\a<=335544320):(S.aj ns a).Ok a:=by
 refine ⟨rfl,?_,fun x hx=>?_,fun x hx=>?_,ha.1,ha.2⟩
 ·show ((ns.take 30).map S.ah).length<=30
  rw [List.length_map,Yaa];omega
 ·obtain ⟨y,_,rfl⟩:=Ya1.1 (show x∈(ns.take 30).map S.ah from hx)
  show (y.ws.take 12).length<=12
  rw [Yaa];omega
 ·obtain ⟨y,hy,rfl⟩:=Ya1.1 (show x∈(ns.take 30).map S.ah from hx)
  obtain ⟨q1,q2⟩:=hw y (Yc9 hy);exact ⟨q1,fun z hz=>q2 z (Yc9 hz)⟩
def S.ao:List S.GN:=[⟨0,[(4,0),(6,0)]⟩,⟨0,[(12,0),(0,2)]⟩]
def S.be (H:Int)(m0:S.Mach):S.Mach:=(((S.aq (S.aj S.ao H) m0).setV 26 (H+6)).putV 16 (4*(H+3)+1)).putV 8 1
theorem Zom (H:Int):(S.aj S.ao H).word (0,2)=4*(H+3)+1:=by
 unfold S.Gr.word;rw [if_pos ⟨by decide,by intro h;cases h⟩];rfl
theorem Zjh (H:Int)(hH:0<=H/\H<=1000000):S.Reached (S.aj S.ao H) [4*(H+3)+1] 3 [1]:=by
 have hg:(S.aj S.ao H).Ok H:=Zeg (by decide) ⟨hH.1,by omega⟩;have ha:(S.aj S.ao H).adr 1=H+3:=rfl;have hn:(S.aj S.ao H).node (4*(H+3)+1)=some 1:=by
  have:=Ztj hg (i:=1) (show 1<2 by decide);rw [ha] at this;exact this
 refine ⟨by decide,fun i hi=>?_,fun r hr i hi=>?_,fun i hi x hx j hj=>?_,fun j n hj=>?_,rfl⟩
 ·rw [Yq] at hi
  subst hi;have h2:(S.aj S.ao H).ns.length=2:=rfl;omega
 ·rw [Yq] at hr
  subst hr;rw [hn] at hi
  cases hi
  exact Yq.2 rfl
 ·rw [Yq] at hi
  subst hi;have hx':x∈[((12:Int),(0:Int)),(0,2)]:=hx;simp only [Yu,Y3,or_false] at hx';rcases hx' with rfl | rfl
  ·have:(S.aj S.ao H).word (12,0)=12:=by
    unfold S.Gr.word;rw [if_neg (fun h=>absurd h.1 (by decide))];rfl
   rw [this] at hj;unfold S.Gr.node at hj;rw [if_neg (by decide)] at hj
   cases hj
  ·rw [Zom,hn] at hj
   cases hj
   exact Yq.2 rfl
 ·cases j with
  | zero =>
   cases hj
   exact .inl ⟨_,Yq.2 rfl,hn⟩
  | succ j=>simp at hj
section
variable {F:List Int}{H:Int}
theorem Z0w (hI:∀ b,(S.aa b [] [] F (H+40)).Ok)(hH:H=(S.aa true [] [] F (H+40)).lab S.kEnd){m0:S.Mach}(hw:S.Wd [] [] F (H+40) m0)(h2:m0.mv 2=H)(h3:m0.mv 3=H+20)(h4:m0.mv 4=20)(h5:m0.mv 5=38)(hlow:∀ a,5<a->a<1312->m0.mv a=0)(hsm:H<=100000) :
 S.Wd [] [] F (H+40) (S.be H m0)/\S.bl [] [] F (H+40) (S.aj S.ao H) [4*(H+3)+1] [16] 20 H (H+20) [1] 1 0 (S.be H m0) (S.ae (S.aa true [] [] F (H+40)) (S.be H m0) S.kCollect 20000) /\
  (S.ae (S.aa true [] [] F (H+40)) (S.be H m0) S.kCollect 20000).state=1/\(S.ae (S.aa true [] [] F (H+40)) (S.be H m0) S.kCollect 20000).place=(S.aa true [] [] F (H+40)).lab S.kStub:=by
 obtain ⟨g,hgE⟩:=Yx (S.aj S.ao H);have he:=Zb5 (hI true);rw [<- hH] at he;have hH0:1312<=H:=by have:=he.1;simp at this;omega
 have hg:g.Ok H:=by rw [hgE];exact Zeg (by decide) ⟨by omega,by omega⟩
 have hsz:S.sizes g.ns=6:=by rw [hgE];rfl
 have hgl:g.ns.length=2:=by rw [hgE];rfl
 have hml:=hw.len;have hw1:=Zof (hI true) hg hw (by omega) (by omega) (by omega) g.ns.length (Yf _);obtain ⟨q1,q2⟩:=Zoe hg m0 (by omega) g.ns.length (Yf _);obtain ⟨m1,hm1⟩:=Yx (S.aq g m0);have hm1':S.puts m0 ((Yz g.ns.length).flatMap (S.ab g))=m1:=hm1.symm;rw [hm1'] at q1 q2 hw1;have hw2:=Zja (hI true) hw1 (i:=26) (v:=H+6) (by decide) (fun h=>absurd h (by decide)) ⟨by omega,by omega⟩;have nc:∀ x:Int,x<1312->¬ (S.aa true [] [] F (H+40)).code x:=fun x hx hc=>by
  have:=(Zgs (hI true)).1 hc;simp at this;omega
 have hw3:=Ztp (hI true) hw2 (i:=16) (v:=4*(H+3)+1) ⟨by omega,by omega⟩ (nc 16 (by decide)) ⟨by omega,by omega⟩;have hw4:=Ztp (hI true) hw3 (i:=8) (v:=1) ⟨by omega,by omega⟩ (nc 8 (by decide)) ⟨by decide,by decide⟩;have hM:S.be H m0=((m1.setV 26 (H+6)).putV 16 (4*(H+3)+1)).putV 8 1:=by rw [hm1,hgE];rfl
 rw [hM,<- hgE];obtain ⟨M,hMM⟩:=Yx (((m1.setV 26 (H+6)).putV 16 (4*(H+3)+1)).putV 8 1);have hmv:∀ x,0<=x->M.mv x=if x=8 then 1 else if x=16 then 4*(H+3)+1 else m1.mv x:=fun x hx=>by
  rw [hMM,Zhs (by decide) (by have:=hw3.len;omega) hx,Zhs (by decide) (by have:=hw2.len;omega) hx,Zkg (by decide) (by decide)]
 rw [<- hMM] at hw4 ⊢;have hlowM:∀ x,0<=x->x<1312->m1.mv x=m0.mv x:=fun x h0 h1=>q2 x h0 (by omega)
 have hlab:(S.aa true [] [] F (H+40)).lab S.kCode=1312:=by
  have:=(Zv (hI true)).2.1;simp at this;exact this
 have hG:S.au [] [] F (H+40) g H [4*(H+3)+1] [16] M.mv 20 H (H+20) (H+6) (Yz g.ns.length) g.adr 3 [1] 1 0:=by
  refine ⟨⟨by rw [<- hH];omega,by decide,.inl ⟨hH,by rw [<- hH]⟩⟩,hg,by omega,?_,fun x hx=>?_,by omega,by rw [Zhp hg,hsz];decide,by rw [hgE];exact Zjh H ⟨by omega,by omega⟩,?_,?_,?_,?_,by decide,.inl ⟨?_,rfl⟩,fun x hx=>?_,fun x hx=>?_⟩
  ·have e16:[(16:Int)].map M.mv=[4*(H+3)+1]:=by
    rw [Ybr,List.map_nil,hmv 16 (by decide)];rfl
   rw [e16];have:=Zi7 hg (mem:=M.mv) (by omega) (fun j hj=>by
    have hE:=Zhr hg hj;obtain ⟨p1,p2⟩:=q1 j hj;refine ⟨by rw [hmv _ (by omega),if_neg (by omega),if_neg (by omega)];exact p1,fun k x hx=>by rw [hmv _ (by omega),if_neg (by omega),if_neg (by omega)];exact p2 k x hx⟩) [4*(H+3)+1]
   rw [hsz] at this;exact this
  ·rw [Yq] at hx
   subst hx;have:=Zpl hg (x:=(0,2)) (by decide) (by omega);rw [hgE,Zom] at this;rw [hgE];exact this
  ·rw [hmv 2 (by decide),if_neg (by decide),if_neg (by decide),hlowM 2 (by decide) (by decide),h2]
  ·rw [hmv 3 (by decide),if_neg (by decide),if_neg (by decide),hlowM 3 (by decide) (by decide),h3]
  ·rw [hmv 4 (by decide),if_neg (by decide),if_neg (by decide),hlowM 4 (by decide) (by decide),h4]
  ·rw [hmv 8 (by decide),if_pos rfl];rfl
  ·rw [hmv 6 (by decide),if_neg (by decide),if_neg (by decide),hlowM 6 (by decide) (by decide)]
   exact hlow 6 (by decide) (by decide)
  ·rcases hx with ((rfl | ⟨c1,c2⟩) | ⟨j,hj,_⟩) | ⟨c1,c2⟩
   ·refine .inr ?_
    rw [hmv 5 (by decide),if_neg (by decide),if_neg (by decide),hlowM 5 (by decide) (by decide),h5]
    decide
   ·have:x=16:=by omega
    subst this;exact .inl (Yq.2 rfl)
   ·omega
   ·omega
  ·rw [Yq] at hx
   subst hx;exact .inl (.inl (.inr ⟨by decide,by decide⟩))
 obtain ⟨k1,k2,k3,_⟩:=Zho hI hw4 hG (N:=20000) (by decide);exact ⟨hw4,k1,k2,k3⟩
end
end
section
open Go.RowKit
def S.wf (y:Int×Int):Prop:=0<=y.1/\y.1<4294967296/\0<=y.2/\y.2<65536
end
section
open Go.RowKit
section
variable {gw sw F:List Int}{size H half:Int}{g:S.Gr}
theorem Z0x (hI:∀ b,(S.aa b gw sw F size).Ok)(hH:(S.aa true gw sw F size).lab S.kEnd=H)(hsz:H+2*half<=size)(h0:0<=half)(hg:g.Ok H){mem:Int->Int}
 (hlaid:∀ j,j<g.ns.length->mem (g.adr j)=S.headW (g.nd j).ty (g.nd j).ws.length/\∀ (k:Nat) (x:Int×Int),(g.nd j).ws[k]?=some x->mem (g.adr j+1+k)=g.word x) (hfit:S.sizes g.ns<=half)
 {pl:List (Int×Int)} (hpl:∀ q∈pl,mem q.1=q.2/\g.fit q.2) {n0:Int} {l:List Nat} (re:S.Reached g (pl.map Prod.snd) n0 l) {cnt n:Nat} (m2:mem 2=H) (m3:mem 3=H+half) (m4:mem 4=half) (m8:mem 8=cnt) (c16:cnt<=16)
 (fm:(mem 6=0/\n=0)\/(mem 6=9/\n=2/\mem 9=2/\(0<=mem 10/\mem 10<4294967296)/\(0<=mem 11/\mem 11<4294967296)))
 (root:∀ x,S.RX (S.aa true gw sw F size) mem cnt n x->x∈pl.map Prod.fst\/(0<=mem x/\mem x<4294967296/\mem x%4≠1)) (hat:∀ x∈pl.map Prod.fst,S.RX (S.aa true gw sw F size) mem cnt n x) :
 S.au gw sw F size g H (pl.map Prod.snd) (pl.map Prod.fst) mem half H (H+half) (H+S.sizes g.ns) (Yz g.ns.length) g.adr n0 l cnt n:=by
 have hs2:=(hI true).size2;have hsz2:(S.aa true gw sw F size).size=size:=rfl;have e:(pl.map Prod.fst).map mem=pl.map Prod.snd:=by
  rw [List.map_map];exact List.map_congr_left fun q hq=>(hpl q hq).1
 refine ⟨⟨by rw [hH];exact hsz,h0,.inl ⟨hH.symm,by rw [hH]⟩⟩,hg,by omega,?_,fun x hx=>?_,by omega,by rw [Zhp hg];exact hfit,re,m2,m3,m4,m8,c16,fm,root,hat⟩
 ·rw [e]
  exact Zi7 hg (by omega) hlaid _
 ·obtain ⟨q,hq,rfl⟩:=Ya1.1 hx
  exact (hpl q hq).2
end
def S.af (n:Nat):List Int:=List.replicate n 0
end
section
open Go.RowKit
theorem Zd8 (m:S.Mach)(d v:Int):(m.put d v).mem.length=m.mem.length:=by
 unfold S.Mach.put
 split <;> rfl
theorem Zy2 (m:S.Mach)(i:S.Inst):(m.act i).1.mem.length=m.mem.length:=by
 obtain ⟨op,d,a,b,imm⟩:=i;unfold S.Mach.act;simp only;by_cases h1:op<=14
 ·rw [if_pos h1]
  by_cases h2:m.rd b=0/\(op=5\/op=6)
  ·rw [if_pos h2]
  ·rw [if_neg h2];exact Zd8 _ _ _
 rw [if_neg h1];by_cases h2:op<=22
 ·rw [if_pos h2];exact Zd8 _ _ _
 rw [if_neg h2];by_cases h3:op=23
 ·rw [if_pos h3];exact Zd8 _ _ _
 rw [if_neg h3];by_cases h4:op=24
 ·rw [if_pos h4]
  by_cases h5:S.u32m (m.rd a+S.u32m imm)<m.mem.length
  ·rw [if_pos h5];exact Zd8 _ _ _
  ·rw [if_neg h5]
 rw [if_neg h4];by_cases h5:op=25
 ·rw [if_pos h5]
  by_cases h6:S.u32m (m.rd a+S.u32m imm)<m.mem.length
  ·rw [if_pos h6];exact List.length_set
  ·rw [if_neg h6]
 rw [if_neg h5];by_cases h6:op<=31
 ·rw [if_pos h6]
 rw [if_neg h6];by_cases h7:op=32
 ·rw [if_pos h7];exact Zd8 _ _ _
 rw [if_neg h7];by_cases h8:op=33
 ·rw [if_pos h8];exact Zd8 _ _ _
 rw [if_neg h8];by_cases h9:op=34
 ·rw [if_pos h9]
  cases hi:m.input with
  | nil=>exact Zd8 _ _ _
  | cons x r=>exact Zd8 _ _ _
 rw [if_neg h9];by_cases h10:op=35
 ·rw [if_pos h10]
 ·rw [if_neg h10]
theorem Zwj (m:S.Mach):m.step.mem.length=m.mem.length:=by
 unfold S.Mach.step S.Mach.fell
 split
 ·rfl
 split
 ·rfl
 split
 ·rfl
 split
 ·rfl
 ·exact Zy2 _ _
theorem Zmr (m:S.Mach):∀ k,(m.steps_ k).mem.length=m.mem.length
 | 0=>rfl
 | k+1=>(Zwj _).trans (Zmr m k)
theorem Zks {gw sw F:List Int}{size:Int}{I:S.Img}{m:S.Mach}(h:S.Wd gw sw F size m)(name:ByteArray)(N:Nat):((S.ae I m name N).mem.length:Int)=size:=by
 have e:(S.ae I m name N).mem.length=m.mem.length:=by
  unfold S.ae;rw [Zmr];unfold S.Mach.goV
  split
  ·rw [Zbn (by decide) (by decide)]
  ·show (m.setV 31 (I.lab S.kStub)).mem.length=_
   rw [Zbn (by decide) (by decide)]
 rw [e];exact h.len
end
section
open Go.RowKit
theorem Zon {w:World}{b n:Nat}(h:w.heap[b]?=some (.cells (madeCells #[.int .u32 0] n) 25 (0,0))):Reads w w.heap.size (some ⟨b,0,none⟩) ((S.af n).map (Y1 .u32)):=fun _=>by
 refine ⟨b,0,rfl,(Array.getElem?_eq_some_iff.1 h).1,fun i x hx=>?_⟩;have e:(madeCells #[Y1 .u32 0] n).toList=(S.af n).map (Y1 .u32):=by
  rw [S.af,List.map_replicate];exact toList_madeCells_one _ n
 rw [Nat.zero_add,Lib.cell_of_heap h];rw [<- e,Array.getElem?_toList] at hx;exact hx
end
section
open Go.RowKit
def S.am (m2:S.Mach)(en:Int):Int:=if m2.state≠1 then -1 else if m2.place=en then 0 else 1+m2.code
def S.aw (m:S.Mach)(st a:Int)(N:Int):S.Mach:=((m.setV 31 st).goV a).steps_ N.toNat
section
variable {w w':World}{F:Nat->Prop}{lo b p:Nat}{H half:Int}{P:List (ByteArray×Int)}{m:S.Mach}
theorem Zxk (s:ByteArray)(N a st:Int)(hK:KAt w lo b p F H half P m)(hs:S.findP P s=some a)(hst:S.findP P S.kStub=some st)(ha:0<=a/\a<=1000000000)(hst2:0<=st/\st<=1000000000)(h0:m.state=0)(h1:m.out=[])(h2:m.steps=0)(hN:N<=100000000) :
 Calls Tryz.prog 7 #[.pointer (some ⟨b,0,none⟩),.string s,.bool false,.int .i64 N] w fun e w'=>e=.returned (.int .i64 (S.am (S.aw m st a N) st))/\Zwk w lo b p F H half P (S.aw m st a N) w':=by
 have HK:=Ya hK;have ha1:∀ (W:World),KAt W lo b p F H half P m->Calls Tryz.prog 22 #[.pointer (some ⟨b,0,none⟩),.string s] W fun e w'=>e=.returned (.int .i64 a)/\Below W.heap.size W w':=fun W h=>by
  have:=Z2g s h;rw [hs] at this;exact this
 have hs1:∀ (W:World),KAt W lo b p F H half P m->Calls Tryz.prog 22 #[.pointer (some ⟨b,0,none⟩),.string S.kStub] W fun e w'=>e=.returned (.int .i64 st)/\Below W.heap.size W w':=fun W h=>by
  have:=Z2g S.kStub h;rw [hst] at this;exact this
 have HA:=Ya ha1;have HS:=Ya hs1;have H0:=Ya h0;have H1:=Ya h1;have H2:=Ya h2;obtain ⟨m2,hm2⟩:=Yx (S.aw m st a N);rw [<- hm2];have HD:=Ya (show ((m.setV 31 st).goV a).steps_ N.toNat=m2 from hm2.symm);clear hm2;clear hK hs hst ha1 hs1 h0 h1 h2;go_enter Tryz.func7,Tryz.ntmps7
 go_wp2_with fail
 refine (HA.out _ HK.out).mono ?_;rintro e w1 ⟨rfl,hb1⟩;have HK1:=Ya (HK.out.below hb1);have HB1:=Ya hb1;clear hb1;go_wp2_with fail
 refine (HS.out _ HK1.out).mono ?_;rintro e w2 ⟨rfl,hb2⟩;have HK2:=Ya (HK1.out.below hb2);have HB2:=Ya (HB1.out.trans (hb2.mono HB1.out.size));clear hb2 HK1 HB1;have l1:decide (a<0)=false:=by simp;omega
 have l2:st%4294967296=st:=by omega
 have l3:a%4294967296=a:=by omega
 go_upto_region 7 with fail
 obtain ⟨_,_,_,_,_,_,e0,e1,e2,e3,e4⟩:=HK2.out.cells;have hbl:=HK2.out.blt;have Hst:=Ya (show ∀ y:Ext w2,Calls Tryz.prog 22 #[.pointer (some ⟨b,0,none⟩),.string S.kStub] y.val fun e w'=>e=.returned (.int .i64 st)/\Below y.val.heap.size y.val w' from fun y=>HS.out y.val (HK2.out.below y.property));refine Z2 11 (Array.replicate 11 true++Array.replicate 13 false) (by kernel_rfl) (by kernel_rfl) ?_;have hE:=Ze w2;have hES:=Zpm w2;simp only [List.take_succ_cons,List.take_zero]
 repeat (first | go_big_quiet_step ((go_at_call 22;exact Zas (Hst.out _))))
 refine wpQuiet_nil ?_;rintro w3 ⟨⟨_,hb3⟩,rfl⟩;have HK3:=Ya (HK2.out.below hb3);have HB3:=Ya (HB2.out.trans (hb3.mono HB2.out.size));clear hE hES hb3 e0 e1 e2 e3 e4 hbl Hst HK2 HB2;change wpAny _ _ _ _ 13 _ _ _;refine wpAny_ready (rs:=[11]) (by kernel_rfl) (by simp) ?_;refine Yg rfl (fun K hK=>?_) Yi;go_simp
 refine (Z0z 31 st HK3.out ⟨by omega,by omega⟩ (by decide)).mono ?_;rintro e w4 ⟨rfl,hk4,ho4⟩;have HK4:=Ya hk4;have HP4:=Ya ((Pass.of_below (F:=F) HB3.out).trans (.of_only ho4));clear hk4 ho4 HB3 HK3;go_simp
 refine hK _ _ ?_;clear hK K;obtain ⟨_,_,_,_,_,_,e0,e1,e2,e3,e4⟩:=HK4.out.cells;have hbl:=HK4.out.blt;refine wpAny_take (i:=12) (v:=?v12n) rfl (by kernel_rfl) (by kernel_rfl) (by kernel_rfl) (fun _ _ _ h=>h) (Or.inl ⟨by rfl,?y12n⟩) ?z12n
 case y12n=>(intro w;first | (go_simp;done) | (go_simp;with_reducible rfl))
 refine wpAny_take (i:=13) (v:=?v13n) rfl (by kernel_rfl) (by kernel_rfl) (by kernel_rfl) (fun _ _ _ h=>h) (Or.inl ⟨by rfl,?y13n⟩) ?z13n
 case y13n=>(intro w;first | (go_simp;done) | (go_simp;with_reducible rfl))
 refine wpAny_take (i:=14) (v:=?v14n) rfl (by kernel_rfl) (by kernel_rfl) (by kernel_rfl) (fun _ _ _ h=>h) (Or.inl ⟨by rfl,?y14n⟩) ?z14n
 case y14n=>(intro w;first | (go_simp;done) | (go_simp;with_reducible rfl))
 refine wpAny_take (i:=15) (v:=?v15n) rfl (by kernel_rfl) (by kernel_rfl) (by kernel_rfl) (fun _ _ _ h=>h) (Or.inl ⟨by rfl,?y15n⟩) ?z15n
 case y15n=>(intro w;first | (go_simp;done) | (go_simp;with_reducible rfl))
 refine wpAny_take (i:=19) (v:=?v19n) rfl (by kernel_rfl) (by kernel_rfl) (by kernel_rfl) (fun _ _ _ h=>h) (Or.inl ⟨by rfl,?y19n⟩) ?z19n
 case y19n=>(intro w;first | (go_simp;done) | (go_simp;with_reducible rfl))
 refine wpAny_take (i:=20) (v:=?v20n) rfl (by kernel_rfl) (by kernel_rfl) (by kernel_rfl) (fun _ _ _ h=>h) (Or.inl ⟨by rfl,?y20n⟩) ?z20n
 case y20n=>(intro w;first | (go_simp;done) | (go_simp;with_reducible rfl))
 refine wpAny_ready (rs:=[16]) (by kernel_rfl) (by simp) ?_;refine Yg rfl (fun K hK=>?_) Yi;go_simp
 refine hK _ _ ?_;clear hK K;refine wpAny_ready (rs:=[17]) (by kernel_rfl) (by simp) ?_;refine Yg rfl (fun K hK=>?_) Yi;go_simp
 refine hK _ _ ?_;clear hK K;refine wpAny_ready (rs:=[18]) (by kernel_rfl) (by simp) ?_;refine Yg rfl (fun K hK=>?_) Yi;go_simp
 refine hK _ _ ?_;clear hK K;refine wpAny_ready (rs:=[21]) (by kernel_rfl) (by simp) ?_;refine Yg rfl (fun K hK=>?_) Yi;go_simp
 have hst0:(m.setV 31 st).state=0:=by rw [Zbn (by decide) (by decide)];exact H0.out
 have hgo:Calls Tryz.prog 23 #[.pointer (some ⟨p,0,none⟩),.int .u32 a] w4 fun e w'=>e=.returned (.int .i64 0)/\KAt w' lo b p F H half P ((m.setV 31 st).goV a)/\Only F w4 w':=by
  have:=Z2v a HK4.out ⟨by omega,by omega⟩;rw [if_neg (by rw [hst0];decide)] at this;exact this
 have HGo:=Ya hgo;have Hst0:=Ya hst0;clear hgo hst0 e0 e1 e2 e3 e4 hbl;rw [show IntKind.u32.wrap a=a from IntWalk.u32_in _ ⟨by omega,by omega⟩];refine HGo.out.mono ?_;rintro e w5 ⟨rfl,hk5,ho5⟩;have HK5:=Ya hk5;have HP5:=Ya (HP4.out.trans (.of_only ho5));clear hk5 ho5 HP4 HK4 HGo;go_simp
 refine hK _ _ ?_;clear hK K;refine wpAny_take (i:=22) (v:=?v22n) rfl (by kernel_rfl) (by kernel_rfl) (by kernel_rfl) (fun _ _ _ h=>h) (Or.inl ⟨by rfl,?y22n⟩) ?z22n
 case y22n=>(intro w;first | (go_simp;done) | (go_simp;with_reducible rfl))
 refine wpAny_take (i:=23) (v:=?v23n) rfl (by kernel_rfl) (by kernel_rfl) (by kernel_rfl) (fun _ _ _ h=>h) (Or.inl ⟨by rfl,?y23n⟩) ?z23n
 case y23n=>(intro w;first | (go_simp;done) | (go_simp;with_reducible rfl))
 refine wpAny_done (by kernel_rfl) ?_ _;obtain ⟨_,_,_,_,_,_,e0,e1,e2,e3,e4⟩:=HK5.out.cells;have hbl:=HK5.out.blt;have Hrun:=Ya (Z13 N HK5.out (by
  unfold S.Mach.goV;rw [if_neg (by rw [Hst0.out];decide),Zbn (by decide) (by decide)];exact H1.out) (by
  unfold S.Mach.goV;rw [if_neg (by rw [Hst0.out];decide),Zbn (by decide) (by decide)];exact H2.out) hN)
 rw [HD.out] at Hrun;clear HD;go_wp2_with fail
 refine Hrun.out.mono ?_;rintro e w6 ⟨rfl,F6,hk6,ho6,hf6⟩;have HK6:=Ya hk6;have HP6:=Ya (HP5.out.trans (F2:=F6) ⟨ho6,hf6⟩);clear hk6 ho6 hf6 HP5 HK5 e0 e1 e2 e3 e4 hbl Hrun;have hplace:=HK6.out.ok.place0;have hplace1:=HK6.out.ok.place1;have hcode:=HK6.out.ok.code0;have hcode1:=HK6.out.ok.code1;obtain ⟨ms,hms⟩:=Yx m2.state;obtain ⟨mp,hmp⟩:=Yx m2.place;obtain ⟨mc,hmc⟩:=Yx m2.code;have HR:=Ya (show S.am m2 st=if ms≠1 then -1 else if mp=st then 0 else 1+mc by unfold S.am;rw [hms,hmp,hmc]);have HPl:=Ya (Zy3 HK6.out);have HCo:=Ya (Z00 HK6.out);rw [<- hms];rw [<- hmp] at hplace hplace1 HPl;rw [<- hmc] at hcode hcode1 HCo;clear hms hmp hmc;obtain ⟨_,_,_,_,_,_,e0,e1,e2,e3,e4⟩:=HK6.out.cells;have hbl:=HK6.out.blt;have hfin:=Ya (show Zwk w lo b p F H half P m2 w6 from ⟨F6,HK6.out,HP6.out.1,HP6.out.2⟩);by_cases c1:ms=1
 ·have g1:(ms != 1)=false:=by simp [c1]
  rw [if_neg (fun h=>h c1)] at HR;clear c1;go_wp2_with fail
  refine HPl.out.mono ?_;rintro e _ ⟨rfl,rfl⟩;have g2:mp%18446744073709551616=mp:=by omega
  by_cases c2:mp=st
  ·have g3:(mp==st)=true:=by simp [c2]
   rw [if_pos c2] at HR;clear c2;go_wp2_with fail
   go_ret
   exact ⟨by rw [HR.out];rfl,hfin.out⟩
  ·have g3:(mp==st)=false:=by simp [c2]
   rw [if_neg c2] at HR;clear c2;go_wp2_with fail
   refine HCo.out.mono ?_;rintro e _ ⟨rfl,rfl⟩;have g4:mc%18446744073709551616=mc:=by omega
   have g5:IntKind.i64.wrap (1+mc)=1+mc:=IntWalk.i64_in _ ⟨by omega,by omega⟩;go_wp2_with fail
   go_ret
   exact ⟨by rw [HR.out];rfl,hfin.out⟩
 ·have g1:(ms != 1)=true:=by simp [c1]
  rw [if_pos c1] at HR;clear c1;go_wp2_with fail
  go_ret
  exact ⟨by rw [HR.out];rfl,hfin.out⟩
end
end
end Go.Proofs.YtdeepoikgfaecaaGreatDoor
