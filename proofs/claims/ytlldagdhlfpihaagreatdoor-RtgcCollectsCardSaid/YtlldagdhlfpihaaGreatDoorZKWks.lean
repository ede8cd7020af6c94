/- Parts. -/
import Derived.Test.YtlldagdhlfpihaaGreatDoorZKNew
import Derived.Test.YtlldagdhlfpihaaGreatDoorZKLay
set_option linter.unusedVariables false
set_option linter.unusedSimpArgs false
set_option linter.unusedSectionVars false
namespace Go.Proofs.YtlldagdhlfpihaaGreatDoor
set_option maxRecDepth 100000
section
open Go.RowKit
def S.namesW:List ByteArray:=S.kHead::((S.objs26++[S.oMain]).map S.Obj.name++[S.kTail])
theorem namesW_ok:(S.nodupB S.namesW && (S.objs26++[S.oMain]).all (fun o=>!S.badN o))=true:=by kernel_rfl
theorem names_w (gw sw:List Int):S.NamesRes (S.wObjs gw sw) 0:=by
 have h:=namesW_ok
 rw [Bool.and_eq_true] at h
 have hn:(S.wObjs gw sw).map S.Obj.name=S.namesW:=by
  show ((S.oHead gw sw::(S.objs26++[S.oMain]))++[S.oTail]).map S.Obj.name=_
  rw [List.map_append,List.map_cons]
  rfl
 have hd:((S.wObjs gw sw).map S.Obj.name).Nodup:=by rw [hn];exact nodup_of h.1
 refine .inr (.inr ⟨?_,fun o ho=>?_,rfl⟩)
 ·rintro ⟨i,j,a,b,hij,hi,hj,hab⟩
  have e1:((S.wObjs gw sw).map S.Obj.name)[i]?=some a.name:=by rw [List.getElem?_map,hi];rfl
  have e2:((S.wObjs gw sw).map S.Obj.name)[j]?=some b.name:=by rw [List.getElem?_map,hj];rfl
  obtain ⟨l1,q1⟩:=List.getElem?_eq_some_iff.1 e1
  obtain ⟨l2,q2⟩:=List.getElem?_eq_some_iff.1 e2
  have:=(List.nodup_iff_pairwise_ne.1 hd)
  rw [List.pairwise_iff_getElem] at this
  exact this j i l2 l1 hij (by rw [q1,q2,hab])
 ·have ho':o∈(S.oHead gw sw::(S.objs26++[S.oMain]))++[S.oTail]:=ho
  rcases List.mem_append.1 ho' with q | q
  ·rcases List.mem_cons.1 q with rfl | q
   ·show (S.kHead.data.toList.isEmpty || S.ownB S.kHead)=false
    decide
   ·have:=List.all_eq_true.1 h.2 o q
    simpa using this
  ·rw [List.mem_singleton] at q
   subst q
   show (S.kTail.data.toList.isEmpty || S.ownB S.kTail)=false
   decide
section
variable {H:Rowed}{w:World}(hH:∀ b k,H b=some k->b<w.heap.size)
include hH
theorem repl_objs:∀ {os:List S.Obj} {xs:List Value},RepL H w (S.encObjs os) xs->(∀ x∈os,(∀ y∈x.items,0<=y.word/\y.word<=4294967295)/\x.name.size<=maxLen/\∀ y∈x.items,y.label.size<=maxLen)->OC w w.heap.size os xs
 | [],xs,h,_=>by
  have h':RepL H w [] xs:=h
  rw [RepL] at h'
  subst h'
  exact { len:=rfl,one:=fun u hu=>(List.not_mem_nil hu).elim,at_:=fun i x hx=>by simp at hx }
 | o::r,xs,h,hw=>by
  have h':RepL H w (.str o.name::.row o.items.length (S.encItems o.items)::S.encObjs r) xs:=h
  rw [RepL] at h'
  obtain ⟨v0,rs,rfl,_,hv0,h'⟩:=h'
  rw [RepL] at h'
  obtain ⟨v1,rs,rfl,_,hv1,h'⟩:=h'
  rw [RepV] at hv0
  subst hv0
  obtain ⟨q1,q2,q3⟩:=hw o List.mem_cons_self
  obtain ⟨A,c,rfl,hi⟩:=repv_items hH hv1 q1
  have ih:=repl_objs h' fun x hx=>hw x (List.mem_cons_of_mem _ hx)
  exact (OC.one_ (x:=o) (c:=c) hi q2 q3).app ih
end
theorem KAt.lo {w:World}{lo lo' b p:Nat}{F:Nat->Prop}{H half:Int}{P:List (ByteArray×Int)}{m:S.Mach}(h:KAt w lo b p F H half P m)(hl:lo'<=lo):KAt w lo' b p F H half P m:=by
 obtain ⟨vm,vo,A,c,inp,rd,k1,k2,k3⟩:=h.mach
 exact ⟨h.blk,⟨vm,vo,A,c,inp,rd,k1.base hl,k2,k3⟩,Nat.le_trans hl h.lowb,h.nb,fun k hk=>⟨Nat.le_trans hl (h.lt k hk).1,(h.lt k hk).2⟩,h.few⟩
theorem ItemAt.block {w w':World}{b o:Nat}{x:S.Item}(h:ItemAt w b o x)(hb:w'.heap[b]?=w.heap[b]?):ItemAt w' b o x:=h.keep fun o=>World.cell?_of_block (a:=⟨b,o,none⟩) hb
theorem repl_grown {H:Rowed}{w w':World}(hH:∀ b k,H b=some k->b<w.heap.size){g n:Nat}(hg:H g=some n)(hcells:∀ j,j<n->∀ k v,w.cell? ⟨g,j,none⟩≠some (.int k v))(hz:w.heap.size<=w'.heap.size)(hk:∀ k,k<w.heap.size->k≠g->w'.heap[k]?=w.heap[k]?) :
 ∀ {os:List S.Obj} {xs:List Value},RepL H w (S.encObjs os) xs->(∀ x∈os,(∀ y∈x.items,0<=y.word/\y.word<=4294967295)/\x.name.size<=maxLen/\∀ y∈x.items,y.label.size<=maxLen)->OC w' w'.heap.size os xs
 | [],xs,h,_=>by
  have h':RepL H w [] xs:=h
  rw [RepL] at h'
  subst h'
  exact { len:=rfl,one:=fun u hu=>(List.not_mem_nil hu).elim,at_:=fun i x hx=>by simp at hx }
 | o::r,xs,h,hw=>by
  have h':RepL H w (.str o.name::.row o.items.length (S.encItems o.items)::S.encObjs r) xs:=h
  rw [RepL] at h'
  obtain ⟨v0,rs,rfl,_,hv0,h'⟩:=h'
  rw [RepL] at h'
  obtain ⟨v1,rs,rfl,_,hv1,h'⟩:=h'
  rw [RepV] at hv0
  subst hv0
  obtain ⟨q1,q2,q3⟩:=hw o List.mem_cons_self
  have hv1':=hv1
  obtain ⟨A,c,rfl,hi⟩:=repv_items hH hv1 q1
  rw [RepV] at hv1'
  obtain ⟨A',c',e,_,_,hc⟩:=hv1'
  cases e
  have hi':Items w' w'.heap.size A o.items:=fun hp=>by
   obtain ⟨b,off,e,hb,hx⟩:=hi hp
   have hne:b≠g:=by
    rintro rfl
    rcases hc with e0 | ⟨b',o',k,e0,hbk,hle,hr⟩
    ·cases hxs:o.items with
     | nil=>rw [hxs] at hp;simp at hp
     | cons y ys=>rw [hxs] at e0;cases e0
    ·rw [e] at e0
     cases e0
     rw [hg] at hbk
     cases hbk
     obtain ⟨y,hy⟩:∃ y,o.items[0]?=some y:=⟨_,List.getElem?_eq_getElem hp⟩
     have h0:=(hx 0 y hy).1
     rw [Nat.zero_mul,Nat.add_zero] at h0
     refine hcells off ?_ _ _ h0
     cases hxs:o.items with
     | nil=>rw [hxs] at hp;simp at hp
     | cons y ys =>
      rw [hxs] at hle
      have:(S.encItems (y::ys)).length=8+(S.encItems ys).length:=by
       show (_++S.encItems ys).length=_
       rw [List.length_append]
       rfl
      omega
   exact ⟨b,off,e,by omega,fun i x h=>(hx i x h).block (hk b hb hne)⟩
  have ih:=repl_grown hH hg hcells hz hk h' fun x hx=>hw x (List.mem_cons_of_mem _ hx)
  exact (OC.one_ (x:=o) (c:=c) hi' q2 q3).app ih
structure S.Wr (gw sw F:List Int)(heap:Int):Prop where
 forms:S.FormsRes (S.joined (S.wObjs gw sw)) 0 0 F
 ok:∀ b,(S.wImg b gw sw F ((S.wL gw sw F).length+heap)).Ok
 words:∀ x∈S.wL gw sw F,0<=x/\x<=4294967295
 wd:S.Wd gw sw F ((S.wL gw sw F).length+heap) (S.wM (S.wL gw sw F) heap [])
 fst:S.Fst gw sw F heap (S.wM (S.wL gw sw F) heap [])
 len:((S.wL gw sw F).length:Int)=(S.wImg true gw sw F ((S.wL gw sw F).length+heap)).lab S.kEnd
 small:(S.wL gw sw F).length<=12000
def S.wP (gw sw F:List Int):List (ByteArray×Int):=S.placesTo (S.joined (S.wObjs gw sw)) F 0 (S.joined (S.wObjs gw sw)).length
section
variable {gw sw:List Int}(hg:∀ x∈gw,0<=x/\x<=4294967295)(hs:∀ x∈sw,0<=x/\x<=4294967295)(hgl:gw.length<=100)(hsl:sw.length<=100)
include hg hs hgl hsl
theorem wr_of {heap:Int}(h0:1<=heap/\heap<=1000000){r:Int}{L:List Int}{P:List (ByteArray×Int)}(h:LinkRes (S.wObjs gw sw) 0 r L P):r=0/\∃ F,S.Wr gw sw F heap/\L=S.wL gw sw F/\P=S.wP gw sw F:=by
 have hw:=w_items gw sw hg hs
 rcases h with ⟨h1,h2,_⟩ | ⟨_,F,h1,h2,h3⟩
 ·exact absurd (namesRes_fun h2 (names_w gw sw)) h1
 ·obtain ⟨a0,ha0⟩:∃ a0,a0=S.addr (S.joined (S.wObjs gw sw)) F 0 (S.joined (S.wObjs gw sw)).length:=⟨_,rfl⟩
  by_cases hr:r=0
  ·subst hr
   have hF:S.FormOk (S.joined (S.wObjs gw sw)) F:=by
    rcases h1 with ⟨h,_⟩ | ⟨h,_⟩ | ⟨_,_,h,_⟩
    ·exact absurd rfl h
    ·omega
    ·exact h.1
   have hsz:=(addr_bd (base:=0) hF hw (S.joined (S.wObjs gw sw)).length).1
   have key:=fun size:Int=>w_ok (e:=0) (F:=F) (size:=size) h1 hg hs hgl hsl
   have hsm:S.addr (S.joined (S.wObjs gw sw)) F 0 (S.joined (S.wObjs gw sw)).length<=67108864:=by
    rcases h1 with ⟨h,_⟩ | ⟨h,_⟩ | ⟨_,_,_,_,h5⟩
    ·exact absurd rfl h
    ·omega
    ·exact h5
   obtain ⟨-,hok,hle⟩:=key (S.addr (S.joined (S.wObjs gw sw)) F 0 (S.joined (S.wObjs gw sw)).length+heap) (fun _=>by omega) (by omega)
   have hlen:((S.wL gw sw F).length:Int)=S.addr (S.joined (S.wObjs gw sw)) F 0 (S.joined (S.wObjs gw sw)).length:=by
    have h5:=wL_len (hok true)
    have h6:=(labs_tail (hok true)).2.2
    have h7:(S.wImg true gw sw F (S.addr (S.joined (S.wObjs gw sw)) F 0 (S.joined (S.wObjs gw sw)).length+heap)).adr (S.wImg true gw sw F (S.addr (S.joined (S.wObjs gw sw)) F 0 (S.joined (S.wObjs gw sw)).length+heap)).xs.length=S.addr (S.joined (S.wObjs gw sw)) F 0 (S.joined (S.wObjs gw sw)).length:=rfl
    omega
   rw [<- hlen] at hok
   have hwd:=fun x hx=>outTo_words (F:=F) (base:=0) hw (S.joined (S.wObjs gw sw)).length x hx
   obtain ⟨k1,k2⟩:=wM_first (inp:=[]) (hok true) hwd (fun x hx=>by cases hx) (by omega)
   refine ⟨rfl,F,⟨h1,hok,hwd,k1,k2,wL_len (hok true),by omega⟩,?_,?_⟩
   ·rw [h2,if_pos rfl];rfl
   ·rw [h3,if_pos rfl];rfl
  ·exfalso
   have:=(w_ok (e:=r) (F:=F) (size:=100000000) h1 hg hs hgl hsl (fun h=>absurd h hr) (by decide)).1
   exact hr this
end
theorem wObjs_joined_len (gw sw:List Int)(hgl:gw.length<=100)(hsl:sw.length<=100):(S.joined (S.wObjsG gw sw (S.objs26++[S.oMain]))).length<=1048576:=by
 have e:S.wObjsG gw sw (S.objs26++[S.oMain])=S.wObjs gw sw:=rfl
 have hm:S.mid.length<=100000:=by
  have h:decide (S.mid.length<=100000)=true:=by kernel_rfl
  exact of_decide_eq_true h
 rw [e,joined_w,List.length_append,List.length_append,hItems_len,show S.tItems.length=3 from rfl]
 omega
def World26 (w:World)(gw sw:List Int)(heap:Int)(e:Ending)(w':World):Prop :=
 ∃ Fs b p F,S.Wr gw sw Fs heap/\e=.returned (.pointer (some ⟨b,0,none⟩))/\KAt w' w.heap.size b p F (S.wL gw sw Fs).length (heap/2) (S.wP gw sw Fs) (S.wM (S.wL gw sw Fs) heap [])/\Below w.heap.size w w'
set_option maxHeartbeats 4000000 in
theorem k_world (Ag As:Option Addr)(cg cs:Nat)(gw sw:List Int)(heap:Int)(w:World)(hL:LVE w)(hg:Reads w w.heap.size Ag (gw.map (Value.int .u32)))(hs:Reads w w.heap.size As (sw.map (Value.int .u32)))(hgl:gw.length<=100)(hsl:sw.length<=100)
 (hgw:∀ x∈gw,0<=x/\x<=4294967295) (hsw:∀ x∈sw,0<=x/\x<=4294967295) (hheap:1<=heap/\heap<=1000000) :
 Calls Tryz.prog 34 #[.slice Ag gw.length cg,.slice As sw.length cs,.int .i64 heap] w (World26 w gw sw heap):=by
 obtain ⟨G,hG⟩:∃ G,G=gw.length:=⟨_,rfl⟩
 obtain ⟨T,hT⟩:∃ T,T=sw.length:=⟨_,rfl⟩
 have HG:=Lib.hid hG
 have HT:=Lib.hid hT
 have Hg:=Lib.hid hg
 have Hs:=Lib.hid hs
 have Hgw:=Lib.hid hgw
 have Hsw:=Lib.hid hsw
 have HLV:=Lib.hid hL
 rw [<- hG] at hgl ⊢
 rw [<- hT] at hsl ⊢
 clear hG hT hg hs hgw hsw hL
 go_enter Tryz.func34,Tryz.ntmps34
 go_wp2_with fail
 refine (objects_fn (fun _=>none) w [.int .i64 0] (fun b k h=>by cases h) HLV.out (by rw [RepT];exact ⟨_,_,rfl,by rw [RepV],by rw [RepT]⟩)).mono ?_
 rintro e w1 ⟨v1,H1,rfl,hb1,-,hH1,hr1,ht1⟩
 obtain ⟨xs1,hl1,ho1,hgH⟩:=tail_own (ht1 _ rfl) hr1 (.inl ⟨rfl,rfl⟩) (by kernel_rfl)
 have hoc1:=repl_objs hH1 hl1 (fun x hx=>objsB_of objs26_B x (List.mem_append_left _ hx))
 obtain ⟨A1,c1,rfl⟩:=ownsRow_form ho1
 have Ho1:=Lib.hid ho1
 have Hb1:=Lib.hid hb1
 obtain ⟨g1,o1,hA1,hg1,hgc⟩:=(own_reads ho1) (by rw [hoc1.len];decide)
 have Hgrown:=Lib.hid (fun (w':World) (hz:w1.heap.size<=w'.heap.size) (hk:∀ k,k<w1.heap.size->k≠g1->w'.heap[k]?=w1.heap[k]?)=>repl_grown (w':=w') hH1 (g:=g1) (n:=30) (by
  have:=hgH g1 (by rw [hA1];rfl)
  rw [this]
  exact congrArg some (by kernel_rfl)) (fun j hj k v hcv=>by
  obtain ⟨g2,rfl,_,_,_,hg4,_⟩:=ownsRow_at ho1 (by decide)
  cases hA1
  have hjl:j<xs1.length:=by rw [hoc1.len];exact hj
  have hcj:=hg4 j (by omega)
  rw [hcv] at hcj
  have hi:j/2<S.objs26.length:=by
   have:S.objs26.length=15:=by decide
   omega
  obtain ⟨A',c',p0,p1,_⟩:=hoc1.at_ (j/2) _ (List.getElem?_eq_getElem hi)
  rcases Nat.mod_two_eq_zero_or_one j with e | e
  ·have:j/2*2=j:=by omega
   rw [this,<- hcj] at p0
   cases p0
  ·have:j/2*2+1=j:=by omega
   rw [this,<- hcj] at p1
   cases p1) hz hk hl1 (fun x hx=>objsB_of objs26_B x (List.mem_append_left _ hx)))
 have HA1:=Lib.hid hA1
 clear hr1 ht1 hl1 ho1 hH1 hb1 hgH hgc hA1 hoc1
 go_wp2_with fail
 refine (main26_fn (fun _=>none) w1 [] (fun b k h=>by cases h) (HLV.out.on Hb1.out) (by rw [RepT])).mono ?_
 rintro e w2 ⟨v2,H2,rfl,hb2,hO2,hH2,hr2,-⟩
 rw [RepV] at hr2
 obtain ⟨vs2,rfl,hl2⟩:=hr2
 have hoc2:=repl_objs (os:=[S.oMain]) hH2 hl2 (fun x hx=>objsB_of objs26_B x (List.mem_append_right _ hx))
 obtain ⟨Am,cm,z0,z1,_,_,_⟩:=hoc2.at_ 0 S.oMain rfl
 obtain ⟨nm,hnm⟩:∃ nm,nm=S.oMain.items.length:=⟨_,rfl⟩
 have hv2:vs2=[.string S.kMain,.slice Am nm cm]:=by
  have hlen:=hoc2.len
  match vs2,hlen,z0,z1 with
  | [a,b],_,z0,z1 =>
   simp at z0 z1
   rw [z0,z1,hnm]
   rfl
 subst hv2
 have HnM:=Lib.hid (show ∀ b off,Am=some ⟨b,off,none⟩->b≠g1 from fun b off e=>by
  rintro rfl
  have hl3:RepL H2 w2 (.str S.oMain.name::.row S.oMain.items.length (S.encItems S.oMain.items)::[]) [.string S.kMain,.slice Am nm cm]:=hl2
  rw [RepL] at hl3
  obtain ⟨v0,rs,e0,_,_,hl3⟩:=hl3
  cases e0
  rw [RepL] at hl3
  obtain ⟨v1,rs,e1,_,hv1,_⟩:=hl3
  cases e1
  rw [RepV] at hv1
  obtain ⟨A',c',e2,_,_,hc⟩:=hv1
  cases e2
  rcases hc with hc | ⟨b',o',k,e3,hbk,_⟩
  ·have:(S.encItems S.oMain.items).length=0:=by rw [hc];rfl
   have h2:(S.encItems S.oMain.items).length=24:=by kernel_rfl
   omega
  ·rw [e] at e3
   cases e3
   rw [hO2 b hg1] at hbk
   cases hbk)
 have Hoc2:=Lib.hid hoc2
 have Hb2:=Lib.hid hb2
 have hz1:=Hb1.out.size
 have hz2:=hb2.size
 have Ho2:=Lib.hid (ownsRow_below Ho1.out hb2)
 have Hb02:=Lib.hid (Hb1.out.trans (hb2.mono hz1))
 clear hoc2 hb2 hl2 z0 z1 hnm hH2
 go_wp2_with (at_builtin;refine wpList_push rfl (.tmp 7) (.tmp 9) _ rfl w.heap.size 98 object_infoK Tryz.underlying104 rfl (by decide) #[.string S.kMain,.slice Am nm cm] _ _ _ rfl Ho2.out rfl rfl rfl (by simp [Value.oneCell']) (by simp [maxLen]) (by decide) (Nat.le_trans hz1 hz2) ?_;intro v' w3 ho3 hg3 hb3 hat3;obtain ⟨A3,c3,rfl⟩:=ownsRow_form ho3)
 have hz3:=hb3.size
 have Hb03:=Lib.hid (Hb02.out.trans hb3)
 have hocA:=Hgrown.out w3 (Nat.le_trans hz2 hz3) (fun k hk hne=>by
  rw [<- Hb2.out.block k hk]
  refine hg3.block k (by omega) fun e=>hne ?_
  rw [HA1.out] at e
  have e':some k=some g1:=e
  exact Option.some.inj e')
 have hlow:∀ k,k<w2.heap.size->k≠g1->w3.heap[k]?=w2.heap[k]?:=fun k hk hne=>hg3.block k hk fun e=>hne (by
  rw [HA1.out] at e
  have e':some k=some g1:=e
  exact Option.some.inj e')
 have hocB:OC w3 w3.heap.size [S.oMain] [.string S.kMain,.slice Am nm cm]:=by
  obtain ⟨Am',cm',z0,z1,z2,z3,z4⟩:=Hoc2.out.at_ 0 S.oMain rfl
  refine ⟨Hoc2.out.len,Hoc2.out.one,fun i x hx=>?_⟩
  cases i with
  | zero =>
   cases hx
   refine ⟨Am',cm',z0,z1,fun hp=>?_,z3,z4⟩
   obtain ⟨b,off,e,hb,hx⟩:=z2 hp
   have hne:b≠g1:=HnM.out b off (by
    have:Am=Am':=by
     simp at z1
     exact z1.1
    rw [this];exact e)
   exact ⟨b,off,e,by omega,fun i x h=>(hx i x h).block (hlow b hb hne)⟩
  | succ i=>cases hx
 have hoc3:=hocA.app hocB
 have hro3:=own_reads ho3
 have hlen3:(S.objs26++[S.oMain]).length=16:=by kernel_rfl
 have hnew:=k_New (S.objs26++[S.oMain]) A3 Ag As none c3 cg cs 0 gw sw [] heap w3 _ hro3 hoc3 (fun h=>by have:=own_none ho3 h;omega) ((Hg.out.below Hb03.out).moreM Hb03.out.size) ((Hs.out.below Hb03.out).moreM Hb03.out.size) (fun h=>by simp at h) (by rw [<- HG.out];exact hgl) (by rw [<- HT.out];exact hsl) (by rw [hlen3];decide) Hgw.out Hsw.out (fun x hx=>by cases hx) (by decide) ⟨by omega,hheap.2⟩ (wObjs_joined_len gw sw (by rw [<- HG.out];exact hgl) (by rw [<- HT.out];exact hsl)) (fun o ho=>by
  have h:=objs26_B
  have h2:=List.all_eq_true.1 h o ho
  simp only [Bool.and_eq_true] at h2
  refine ⟨by have:=of_decide_eq_true h2.1.2;omega,fun x hx=>by have:=of_decide_eq_true (List.all_eq_true.1 h2.2 x hx);omega⟩) (fun r L P hr=>by
  obtain ⟨e0,F,hwr,rfl,rfl⟩:=wr_of Hgw.out Hsw.out (by rw [<- HG.out];exact hgl) (by rw [<- HT.out];exact hsl) hheap hr
  have h1:=hwr.len
  have h2:=(end_bd (hwr.ok true)).1
  have h3:=hwr.small
  refine ⟨e0,by omega,by omega,hwr.words,?_⟩
  have h4:=placesTo_length (S.joined (S.wObjs gw sw)) F 0 (S.joined (S.wObjs gw sw)).length
  have h5:=wObjs_joined_len gw sw (by rw [<- HG.out];exact hgl) (by rw [<- HT.out];exact hsl)
  exact Nat.le_trans h4 h5)
 rw [hlen3,<- HG.out,<- HT.out] at hnew
 have Hnew:=Lib.hid hnew
 clear hnew hro3 hoc3 hocA hocB ho3 hg3 hb3 hat3 hlow hlen3
 refine Hnew.out.mono ?_
 rintro e w4 ⟨L,P,b,p,F,hres,rfl,hk,hb4⟩
 obtain ⟨_,Fs,hwr,rfl,rfl⟩:=wr_of Hgw.out Hsw.out (by rw [<- HG.out];exact hgl) (by rw [<- HT.out];exact hsl) hheap hres
 have HWr:=Lib.hid hwr
 have HK:=Lib.hid hk
 have Hb04:=Lib.hid (Hb03.out.trans (hb4.mono Hb03.out.size))
 clear hres hwr hk hb4
 go_wp2_with fail
 go_ret
 exact ⟨Fs,b,p,F,HWr.out,rfl,HK.out.lo (Hb03.out.size),Hb04.out⟩
end
section
open Go.RowKit
def S.callR (m2:S.Mach)(en:Int):Int:=if m2.state≠1 then -1 else if m2.place=en then 0 else 1+m2.code
def S.callV (m:S.Mach)(st a:Int)(N:Int):S.Mach:=((m.setV 31 st).goV a).steps_ N.toNat
section
variable {w w':World}{F:Nat->Prop}{lo b p:Nat}{H half:Int}{P:List (ByteArray×Int)}{m:S.Mach}
set_option maxHeartbeats 4000000 in
theorem k_Call (s:ByteArray)(N a st:Int)(hK:KAt w lo b p F H half P m)(hs:S.findP P s=some a)(hst:S.findP P S.kStub=some st)(ha:0<=a/\a<=1000000000)(hst2:0<=st/\st<=1000000000)(h0:m.state=0)(h1:m.out=[])(h2:m.steps=0)(hN:N<=100000000) :
 Calls Tryz.prog 29 #[.pointer (some ⟨b,0,none⟩),.string s,.bool false,.int .i64 N] w fun e w'=>e=.returned (.int .i64 (S.callR (S.callV m st a N) st))/\KRan w lo b p F H half P (S.callV m st a N) w':=by
 have HK:=Lib.hid hK
 have ha1:∀ (W:World),KAt W lo b p F H half P m->Calls Tryz.prog 40 #[.pointer (some ⟨b,0,none⟩),.string s] W fun e w'=>e=.returned (.int .i64 a)/\Below W.heap.size W w':=fun W h=>by
  have:=k_At s h
  rw [hs] at this
  exact this
 have hs1:∀ (W:World),KAt W lo b p F H half P m->Calls Tryz.prog 40 #[.pointer (some ⟨b,0,none⟩),.string S.kStub] W fun e w'=>e=.returned (.int .i64 st)/\Below W.heap.size W w':=fun W h=>by
  have:=k_At S.kStub h
  rw [hst] at this
  exact this
 have HA:=Lib.hid ha1
 have HS:=Lib.hid hs1
 have H0:=Lib.hid h0
 have H1:=Lib.hid h1
 have H2:=Lib.hid h2
 obtain ⟨m2,hm2⟩:∃ m2,m2=S.callV m st a N:=⟨_,rfl⟩
 rw [<- hm2]
 have HD:=Lib.hid (show ((m.setV 31 st).goV a).steps_ N.toNat=m2 from hm2.symm)
 clear hm2
 clear hK hs hst ha1 hs1 h0 h1 h2
 go_enter Tryz.func29,Tryz.ntmps29
 go_wp2_with fail
 refine (HA.out _ HK.out).mono ?_
 rintro e w1 ⟨rfl,hb1⟩
 have HK1:=Lib.hid (HK.out.below hb1)
 have HB1:=Lib.hid hb1
 clear hb1
 go_wp2_with fail
 refine (HS.out _ HK1.out).mono ?_
 rintro e w2 ⟨rfl,hb2⟩
 have HK2:=Lib.hid (HK1.out.below hb2)
 have HB2:=Lib.hid (HB1.out.trans (hb2.mono HB1.out.size))
 clear hb2 HK1 HB1
 have l1:decide (a<0)=false:=by simp;omega
 have l2:st%4294967296=st:=by omega
 have l3:a%4294967296=a:=by omega
 go_upto_region 7 with fail
 obtain ⟨_,_,_,_,_,_,e0,e1,e2,e3,e4⟩:=HK2.out.cells
 have hbl:=HK2.out.blt
 have Hst:=Lib.hid (show ∀ y:Ext w2,Calls Tryz.prog 40 #[.pointer (some ⟨b,0,none⟩),.string S.kStub] y.val fun e w'=>e=.returned (.int .i64 st)/\Below y.val.heap.size y.val w' from fun y=>HS.out y.val (HK2.out.below y.property))
 refine wp_region_ext_gate 11 (Array.replicate 11 true++Array.replicate 13 false) (by kernel_rfl) (by kernel_rfl) ?_
 have hE:=ext_cells w2
 have hES:=ext_size w2
 simp only [List.take_succ_cons,List.take_zero]
 repeat (first | go_big_quiet_step ((go_at_call 40;exact ext_of (Hst.out _))))
 refine wpQuiet_nil ?_
 rintro w3 ⟨⟨_,hb3⟩,rfl⟩
 have HK3:=Lib.hid (HK2.out.below hb3)
 have HB3:=Lib.hid (HB2.out.trans (hb3.mono HB2.out.size))
 clear hE hES hb3 e0 e1 e2 e3 e4 hbl Hst HK2 HB2
 change wpAny _ _ _ _ 13 _ _ _
 refine wpAny_ready (rs:=[11]) (by kernel_rfl) (by simp) ?_
 refine AllReady.cons rfl (fun K hK=>?_) AllReady.nil
 go_simp
 refine (k_Set0 31 st HK3.out ⟨by omega,by omega⟩ (by decide)).mono ?_
 rintro e w4 ⟨rfl,hk4,ho4⟩
 have HK4:=Lib.hid hk4
 have HP4:=Lib.hid ((Pass.of_below (F:=F) HB3.out).trans (.of_only ho4))
 clear hk4 ho4 HB3 HK3
 go_simp
 refine hK _ _ ?_
 clear hK K
 obtain ⟨_,_,_,_,_,_,e0,e1,e2,e3,e4⟩:=HK4.out.cells
 have hbl:=HK4.out.blt
 refine wpAny_take (i:=12) (v:=?v12n) rfl (by kernel_rfl) (by kernel_rfl) (by kernel_rfl) (fun _ _ _ h=>h) (Or.inl ⟨by rfl,?y12n⟩) ?z12n
 case y12n=>(intro w;first | (go_simp;done) | (go_simp;with_reducible rfl))
 refine wpAny_take (i:=13) (v:=?v13n) rfl (by kernel_rfl) (by kernel_rfl) (by kernel_rfl) (fun _ _ _ h=>h) (Or.inl ⟨by rfl,?y13n⟩) ?z13n
 case y13n=>(intro w;first | (go_simp;done) | (go_simp;with_reducible rfl))
 refine wpAny_take (i:=14) (v:=?v14n) rfl (by kernel_rfl) (by kernel_rfl) (by kernel_rfl) (fun _ _ _ h=>h) (Or.inl ⟨by rfl,?y14n⟩) ?z14n
 case y14n=>(intro w;first | (go_simp;done) | (go_simp;with_reducible rfl))
 refine wpAny_take (i:=15) (v:=?v15n) rfl (by kernel_rfl) (by kernel_rfl) (by kernel_rfl) (fun _ _ _ h=>h) (Or.inl ⟨by rfl,?y15n⟩) ?z15n
 case y15n=>(intro w;first | (go_simp;done) | (go_simp;with_reducible rfl))
 refine wpAny_take (i:=19) (v:=?v19n) rfl (by kernel_rfl) (by kernel_rfl) (by kernel_rfl) (fun _ _ _ h=>h) (Or.inl ⟨by rfl,?y19n⟩) ?z19n
 case y19n=>(intro w;first | (go_simp;done) | (go_simp;with_reducible rfl))
 refine wpAny_take (i:=20) (v:=?v20n) rfl (by kernel_rfl) (by kernel_rfl) (by kernel_rfl) (fun _ _ _ h=>h) (Or.inl ⟨by rfl,?y20n⟩) ?z20n
 case y20n=>(intro w;first | (go_simp;done) | (go_simp;with_reducible rfl))
 refine wpAny_ready (rs:=[16]) (by kernel_rfl) (by simp) ?_
 refine AllReady.cons rfl (fun K hK=>?_) AllReady.nil
 go_simp
 refine hK _ _ ?_
 clear hK K
 refine wpAny_ready (rs:=[17]) (by kernel_rfl) (by simp) ?_
 refine AllReady.cons rfl (fun K hK=>?_) AllReady.nil
 go_simp
 refine hK _ _ ?_
 clear hK K
 refine wpAny_ready (rs:=[18]) (by kernel_rfl) (by simp) ?_
 refine AllReady.cons rfl (fun K hK=>?_) AllReady.nil
 go_simp
 refine hK _ _ ?_
 clear hK K
 refine wpAny_ready (rs:=[21]) (by kernel_rfl) (by simp) ?_
 refine AllReady.cons rfl (fun K hK=>?_) AllReady.nil
 go_simp
 have hst0:(m.setV 31 st).state=0:=by rw [setV_eq (by decide) (by decide)];exact H0.out
 have hgo:Calls Tryz.prog 60 #[.pointer (some ⟨p,0,none⟩),.int .u32 a] w4 fun e w'=>e=.returned (.int .i64 0)/\KAt w' lo b p F H half P ((m.setV 31 st).goV a)/\Only F w4 w':=by
  have:=k_Go a HK4.out ⟨by omega,by omega⟩
  rw [if_neg (by rw [hst0];decide)] at this
  exact this
 have HGo:=Lib.hid hgo
 have Hst0:=Lib.hid hst0
 clear hgo hst0 e0 e1 e2 e3 e4 hbl
 rw [show IntKind.u32.wrap a=a from IntWalk.u32_in _ ⟨by omega,by omega⟩]
 refine HGo.out.mono ?_
 rintro e w5 ⟨rfl,hk5,ho5⟩
 have HK5:=Lib.hid hk5
 have HP5:=Lib.hid (HP4.out.trans (.of_only ho5))
 clear hk5 ho5 HP4 HK4 HGo
 go_simp
 refine hK _ _ ?_
 clear hK K
 refine wpAny_take (i:=22) (v:=?v22n) rfl (by kernel_rfl) (by kernel_rfl) (by kernel_rfl) (fun _ _ _ h=>h) (Or.inl ⟨by rfl,?y22n⟩) ?z22n
 case y22n=>(intro w;first | (go_simp;done) | (go_simp;with_reducible rfl))
 refine wpAny_take (i:=23) (v:=?v23n) rfl (by kernel_rfl) (by kernel_rfl) (by kernel_rfl) (fun _ _ _ h=>h) (Or.inl ⟨by rfl,?y23n⟩) ?z23n
 case y23n=>(intro w;first | (go_simp;done) | (go_simp;with_reducible rfl))
 refine wpAny_done (by kernel_rfl) ?_ _
 obtain ⟨_,_,_,_,_,_,e0,e1,e2,e3,e4⟩:=HK5.out.cells
 have hbl:=HK5.out.blt
 have Hrun:=Lib.hid (k_Run N HK5.out (by
  unfold S.Mach.goV
  rw [if_neg (by rw [Hst0.out];decide),setV_eq (by decide) (by decide)]
  exact H1.out) (by
  unfold S.Mach.goV
  rw [if_neg (by rw [Hst0.out];decide),setV_eq (by decide) (by decide)]
  exact H2.out) hN)
 rw [HD.out] at Hrun
 clear HD
 go_wp2_with fail
 refine Hrun.out.mono ?_
 rintro e w6 ⟨rfl,F6,hk6,ho6,hf6⟩
 have HK6:=Lib.hid hk6
 have HP6:=Lib.hid (HP5.out.trans (F2:=F6) ⟨ho6,hf6⟩)
 clear hk6 ho6 hf6 HP5 HK5 e0 e1 e2 e3 e4 hbl Hrun
 have hplace:=HK6.out.ok.place0
 have hplace1:=HK6.out.ok.place1
 have hcode:=HK6.out.ok.code0
 have hcode1:=HK6.out.ok.code1
 obtain ⟨ms,hms⟩:∃ ms,ms=m2.state:=⟨_,rfl⟩
 obtain ⟨mp,hmp⟩:∃ mp,mp=m2.place:=⟨_,rfl⟩
 obtain ⟨mc,hmc⟩:∃ mc,mc=m2.code:=⟨_,rfl⟩
 have HR:=Lib.hid (show S.callR m2 st=if ms≠1 then -1 else if mp=st then 0 else 1+mc by unfold S.callR;rw [hms,hmp,hmc])
 have HPl:=Lib.hid (k_Place HK6.out)
 have HCo:=Lib.hid (k_Code HK6.out)
 rw [<- hms]
 rw [<- hmp] at hplace hplace1 HPl
 rw [<- hmc] at hcode hcode1 HCo
 clear hms hmp hmc
 obtain ⟨_,_,_,_,_,_,e0,e1,e2,e3,e4⟩:=HK6.out.cells
 have hbl:=HK6.out.blt
 have hfin:=Lib.hid (show KRan w lo b p F H half P m2 w6 from ⟨F6,HK6.out,HP6.out.1,HP6.out.2⟩)
 by_cases c1:ms=1
 ·have g1:(ms != 1)=false:=by simp [c1]
  rw [if_neg (fun h=>h c1)] at HR
  clear c1
  go_wp2_with fail
  refine HPl.out.mono ?_
  rintro e _ ⟨rfl,rfl⟩
  have g2:mp%18446744073709551616=mp:=by omega
  by_cases c2:mp=st
  ·have g3:(mp==st)=true:=by simp [c2]
   rw [if_pos c2] at HR
   clear c2
   go_wp2_with fail
   go_ret
   exact ⟨by rw [HR.out];rfl,hfin.out⟩
  ·have g3:(mp==st)=false:=by simp [c2]
   rw [if_neg c2] at HR
   clear c2
   go_wp2_with fail
   refine HCo.out.mono ?_
   rintro e _ ⟨rfl,rfl⟩
   have g4:mc%18446744073709551616=mc:=by omega
   have g5:IntKind.i64.wrap (1+mc)=1+mc:=IntWalk.i64_in _ ⟨by omega,by omega⟩
   go_wp2_with fail
   go_ret
   exact ⟨by rw [HR.out];rfl,hfin.out⟩
 ·have g1:(ms != 1)=true:=by simp [c1]
  rw [if_pos c1] at HR
  clear c1
  go_wp2_with fail
  go_ret
  exact ⟨by rw [HR.out];rfl,hfin.out⟩
end
end
section
open Go.RowKit
theorem laidG_ok {ns:List S.GN}{a:Int}(hw:∀ x∈ns,0<=x.ty/\∀ y∈x.ws,0<=y.1/\y.1<4294967296/\0<=y.2)(ha:0<=a/\a<=335544320):(S.laidG ns a).Ok a:=by
 refine ⟨rfl,?_,fun x hx=>?_,fun x hx=>?_,ha.1,ha.2⟩
 ·show ((ns.take 30).map S.cutN).length<=30
  rw [List.length_map,List.length_take]
  omega
 ·obtain ⟨y,_,rfl⟩:=List.mem_map.1 (show x∈(ns.take 30).map S.cutN from hx)
  show (y.ws.take 12).length<=12
  rw [List.length_take]
  omega
 ·obtain ⟨y,hy,rfl⟩:=List.mem_map.1 (show x∈(ns.take 30).map S.cutN from hx)
  obtain ⟨q1,q2⟩:=hw y (List.mem_of_mem_take hy)
  exact ⟨q1,fun z hz=>q2 z (List.mem_of_mem_take hz)⟩
def S.wkNs:List S.GN:=[⟨0,[(4,0),(6,0)]⟩,⟨0,[(12,0),(0,2)]⟩]
def S.wkM (H:Int)(m0:S.Mach):S.Mach:=(((S.laidM (S.laidG S.wkNs H) m0).setV 26 (H+6)).putV 16 (4*(H+3)+1)).putV 8 1
theorem wk_word (H:Int):(S.laidG S.wkNs H).word (0,2)=4*(H+3)+1:=by
 unfold S.Gr.word
 rw [if_pos ⟨by decide,by intro h;cases h⟩]
 rfl
theorem wk_reached (H:Int)(hH:0<=H/\H<=1000000):S.Reached (S.laidG S.wkNs H) [4*(H+3)+1] 3 [1]:=by
 have hg:(S.laidG S.wkNs H).Ok H:=laidG_ok (by decide) ⟨hH.1,by omega⟩
 have ha:(S.laidG S.wkNs H).adr 1=H+3:=rfl
 have hn:(S.laidG S.wkNs H).node (4*(H+3)+1)=some 1:=by
  have:=gr_node hg (i:=1) (show 1<2 by decide)
  rw [ha] at this
  exact this
 refine ⟨by decide,fun i hi=>?_,fun r hr i hi=>?_,fun i hi x hx j hj=>?_,fun j n hj=>?_,rfl⟩
 ·rw [List.mem_singleton] at hi
  subst hi
  have h2:(S.laidG S.wkNs H).ns.length=2:=rfl
  omega
 ·rw [List.mem_singleton] at hr
  subst hr
  rw [hn] at hi
  cases hi
  exact List.mem_singleton.2 rfl
 ·rw [List.mem_singleton] at hi
  subst hi
  have hx':x∈[((12:Int),(0:Int)),(0,2)]:=hx
  simp only [List.mem_cons,List.not_mem_nil,or_false] at hx'
  rcases hx' with rfl | rfl
  ·have:(S.laidG S.wkNs H).word (12,0)=12:=by
    unfold S.Gr.word
    rw [if_neg (fun h=>absurd h.1 (by decide))]
    rfl
   rw [this] at hj
   unfold S.Gr.node at hj
   rw [if_neg (by decide)] at hj
   cases hj
  ·rw [wk_word,hn] at hj
   cases hj
   exact List.mem_singleton.2 rfl
 ·cases j with
  | zero =>
   cases hj
   exact .inl ⟨_,List.mem_singleton.2 rfl,hn⟩
  | succ j=>simp at hj
section
variable {F:List Int}{H:Int}
theorem wk_run (hI:∀ b,(S.wImg b [] [] F (H+40)).Ok)(hH:H=(S.wImg true [] [] F (H+40)).lab S.kEnd){m0:S.Mach}(hw:S.Wd [] [] F (H+40) m0)(h2:m0.mv 2=H)(h3:m0.mv 3=H+20)(h4:m0.mv 4=20)(h5:m0.mv 5=38)(hlow:∀ a,5<a->a<1312->m0.mv a=0)(hsm:H<=100000) :
 S.Wd [] [] F (H+40) (S.wkM H m0)/\S.Kept [] [] F (H+40) (S.laidG S.wkNs H) [4*(H+3)+1] [16] 20 H (H+20) [1] 1 0 (S.wkM H m0) (S.callM (S.wImg true [] [] F (H+40)) (S.wkM H m0) S.kCollect 20000) /\
  (S.callM (S.wImg true [] [] F (H+40)) (S.wkM H m0) S.kCollect 20000).state=1/\(S.callM (S.wImg true [] [] F (H+40)) (S.wkM H m0) S.kCollect 20000).place=(S.wImg true [] [] F (H+40)).lab S.kStub:=by
 obtain ⟨g,hgE⟩:∃ g,g=S.laidG S.wkNs H:=⟨_,rfl⟩
 have he:=end_bd (hI true)
 rw [<- hH] at he
 have hH0:1312<=H:=by have:=he.1;simp at this;omega
 have hg:g.Ok H:=by rw [hgE];exact laidG_ok (by decide) ⟨by omega,by omega⟩
 have hsz:S.sizes g.ns=6:=by rw [hgE];rfl
 have hgl:g.ns.length=2:=by rw [hgE];rfl
 have hml:=hw.len
 have hw1:=laid_wd (hI true) hg hw (by omega) (by omega) (by omega) g.ns.length (Nat.le_refl _)
 obtain ⟨q1,q2⟩:=laid_mv hg m0 (by omega) g.ns.length (Nat.le_refl _)
 obtain ⟨m1,hm1⟩:∃ m1,m1=S.laidM g m0:=⟨_,rfl⟩
 have hm1':S.puts m0 ((List.range g.ns.length).flatMap (S.nodePuts g))=m1:=hm1.symm
 rw [hm1'] at q1 q2 hw1
 have hw2:=wd_set (hI true) hw1 (i:=26) (v:=H+6) (by decide) (fun h=>absurd h (by decide)) ⟨by omega,by omega⟩
 have nc:∀ x:Int,x<1312->¬ (S.wImg true [] [] F (H+40)).code x:=fun x hx hc=>by
  have:=(code_iff (hI true)).1 hc
  simp at this
  omega
 have hw3:=wd_put (hI true) hw2 (i:=16) (v:=4*(H+3)+1) ⟨by omega,by omega⟩ (nc 16 (by decide)) ⟨by omega,by omega⟩
 have hw4:=wd_put (hI true) hw3 (i:=8) (v:=1) ⟨by omega,by omega⟩ (nc 8 (by decide)) ⟨by decide,by decide⟩
 have hM:S.wkM H m0=((m1.setV 26 (H+6)).putV 16 (4*(H+3)+1)).putV 8 1:=by rw [hm1,hgE];rfl
 rw [hM,<- hgE]
 obtain ⟨M,hMM⟩:∃ M,M=((m1.setV 26 (H+6)).putV 16 (4*(H+3)+1)).putV 8 1:=⟨_,rfl⟩
 have hmv:∀ x,0<=x->M.mv x=if x=8 then 1 else if x=16 then 4*(H+3)+1 else m1.mv x:=fun x hx=>by
  rw [hMM,putV_mv (by decide) (by have:=hw3.len;omega) hx,putV_mv (by decide) (by have:=hw2.len;omega) hx,setV_mv (by decide) (by decide)]
 rw [<- hMM] at hw4 ⊢
 have hlowM:∀ x,0<=x->x<1312->m1.mv x=m0.mv x:=fun x h0 h1=>q2 x h0 (by omega)
 have hlab:(S.wImg true [] [] F (H+40)).lab S.kCode=1312:=by
  have:=(labs_head (hI true)).2.1
  simp at this
  exact this
 have hG:S.GrM [] [] F (H+40) g H [4*(H+3)+1] [16] M.mv 20 H (H+20) (H+6) (List.range g.ns.length) g.adr 3 [1] 1 0:=by
  refine ⟨⟨by rw [<- hH];omega,by decide,.inl ⟨hH,by rw [<- hH]⟩⟩,hg,by omega,?_,fun x hx=>?_,by omega,by rw [total_range hg,hsz];decide,by rw [hgE];exact wk_reached H ⟨by omega,by omega⟩,?_,?_,?_,?_,by decide,.inl ⟨?_,rfl⟩,fun x hx=>?_,fun x hx=>?_⟩
  ·have e16:[(16:Int)].map M.mv=[4*(H+3)+1]:=by
    rw [List.map_cons,List.map_nil,hmv 16 (by decide)]
    rfl
   rw [e16]
   have:=laid_shape hg (mem:=M.mv) (by omega) (fun j hj=>by
    have hE:=gr_end hg hj
    obtain ⟨p1,p2⟩:=q1 j hj
    refine ⟨by rw [hmv _ (by omega),if_neg (by omega),if_neg (by omega)];exact p1,fun k x hx=>by rw [hmv _ (by omega),if_neg (by omega),if_neg (by omega)];exact p2 k x hx⟩) [4*(H+3)+1]
   rw [hsz] at this
   exact this
  ·rw [List.mem_singleton] at hx
   subst hx
   have:=gr_fit hg (x:=(0,2)) (by decide) (by omega)
   rw [hgE,wk_word] at this
   rw [hgE]
   exact this
  ·rw [hmv 2 (by decide),if_neg (by decide),if_neg (by decide),hlowM 2 (by decide) (by decide),h2]
  ·rw [hmv 3 (by decide),if_neg (by decide),if_neg (by decide),hlowM 3 (by decide) (by decide),h3]
  ·rw [hmv 4 (by decide),if_neg (by decide),if_neg (by decide),hlowM 4 (by decide) (by decide),h4]
  ·rw [hmv 8 (by decide),if_pos rfl];rfl
  ·rw [hmv 6 (by decide),if_neg (by decide),if_neg (by decide),hlowM 6 (by decide) (by decide)]
   exact hlow 6 (by decide) (by decide)
  ·rcases hx with ((rfl | ⟨c1,c2⟩) | ⟨j,hj,_⟩) | ⟨c1,c2⟩
   ·refine .inr ?_
    rw [hmv 5 (by decide),if_neg (by decide),if_neg (by decide),hlowM 5 (by decide) (by decide),h5]
    decide
   ·have:x=16:=by omega
    subst this
    exact .inl (List.mem_singleton.2 rfl)
   ·omega
   ·omega
  ·rw [List.mem_singleton] at hx
   subst hx
   exact .inl (.inl (.inr ⟨by decide,by decide⟩))
 obtain ⟨k1,k2,k3,_⟩:=collect_run hI hw4 hG (N:=20000) (by decide)
 exact ⟨hw4,k1,k2,k3⟩
end
end
section
open Go.RowKit
theorem put_len (m:S.Mach)(d v:Int):(m.put d v).mem.length=m.mem.length:=by
 unfold S.Mach.put
 split <;> rfl
theorem act_len (m:S.Mach)(i:S.Inst):(m.act i).1.mem.length=m.mem.length:=by
 obtain ⟨op,d,a,b,imm⟩:=i
 unfold S.Mach.act
 simp only
 by_cases h1:op<=14
 ·rw [if_pos h1]
  by_cases h2:m.rd b=0/\(op=5\/op=6)
  ·rw [if_pos h2]
  ·rw [if_neg h2];exact put_len _ _ _
 rw [if_neg h1]
 by_cases h2:op<=22
 ·rw [if_pos h2];exact put_len _ _ _
 rw [if_neg h2]
 by_cases h3:op=23
 ·rw [if_pos h3];exact put_len _ _ _
 rw [if_neg h3]
 by_cases h4:op=24
 ·rw [if_pos h4]
  by_cases h5:S.u32m (m.rd a+S.u32m imm)<m.mem.length
  ·rw [if_pos h5];exact put_len _ _ _
  ·rw [if_neg h5]
 rw [if_neg h4]
 by_cases h5:op=25
 ·rw [if_pos h5]
  by_cases h6:S.u32m (m.rd a+S.u32m imm)<m.mem.length
  ·rw [if_pos h6];exact List.length_set
  ·rw [if_neg h6]
 rw [if_neg h5]
 by_cases h6:op<=31
 ·rw [if_pos h6]
 rw [if_neg h6]
 by_cases h7:op=32
 ·rw [if_pos h7];exact put_len _ _ _
 rw [if_neg h7]
 by_cases h8:op=33
 ·rw [if_pos h8];exact put_len _ _ _
 rw [if_neg h8]
 by_cases h9:op=34
 ·rw [if_pos h9]
  cases hi:m.input with
  | nil=>exact put_len _ _ _
  | cons x r=>exact put_len _ _ _
 rw [if_neg h9]
 by_cases h10:op=35
 ·rw [if_pos h10]
 ·rw [if_neg h10]
theorem step_len (m:S.Mach):m.step.mem.length=m.mem.length:=by
 unfold S.Mach.step S.Mach.fell
 split
 ·rfl
 split
 ·rfl
 split
 ·rfl
 split
 ·rfl
 ·exact act_len _ _
theorem steps_len (m:S.Mach):∀ k,(m.steps_ k).mem.length=m.mem.length
 | 0=>rfl
 | k+1=>(step_len _).trans (steps_len m k)
theorem call_len {gw sw F:List Int}{size:Int}{I:S.Img}{m:S.Mach}(h:S.Wd gw sw F size m)(name:ByteArray)(N:Nat):((S.callM I m name N).mem.length:Int)=size:=by
 have e:(S.callM I m name N).mem.length=m.mem.length:=by
  unfold S.callM
  rw [steps_len]
  unfold S.Mach.goV
  split
  ·rw [setV_eq (by decide) (by decide)]
  ·show (m.setV 31 (I.lab S.kStub)).mem.length=_
   rw [setV_eq (by decide) (by decide)]
 rw [e]
 exact h.len
end
section
open Go.RowKit
def wkW (w:World):World:=((w.alloc (.cells #[.int .u32 4,.int .u16 0,.int .u32 6,.int .u16 0] 60)).alloc (.cells #[.int .u32 12,.int .u16 0,.int .u32 0,.int .u16 2] 60)).alloc (.cells #[.int .u8 0,.slice (some ⟨w.heap.size,0,none⟩) 2 2,.int .u8 0,.slice (some ⟨w.heap.size+1,0,none⟩) 2 2] 95)
theorem wk_below (w:World):Below w.heap.size w (wkW w):=(((Below.refl _ _).alloc (Nat.le_refl _) _).alloc (by simp) _).alloc (by simp;omega) _
theorem wk_nodes (w:World)(F:Nat->Prop)(hF:∀ k,F k->k<w.heap.size):NodesF (wkW w) F (some ⟨w.heap.size+1+1,0,none⟩) S.wkNs:=fun _=>by
 have s1:(w.alloc (.cells #[.int .u32 4,.int .u16 0,.int .u32 6,.int .u16 0] 60)).heap.size=w.heap.size+1:=by simp
 have s2:((w.alloc (.cells #[.int .u32 4,.int .u16 0,.int .u32 6,.int .u16 0] 60)).alloc (.cells #[.int .u32 12,.int .u16 0,.int .u32 0,.int .u16 2] 60)).heap.size=w.heap.size+1+1:=by simp
 have h0:(wkW w).heap[w.heap.size]?=some (.cells #[.int .u32 4,.int .u16 0,.int .u32 6,.int .u16 0] 60 (0,0)):=(Below.heap_alloc _ _ _ (by rw [s2];omega)).trans ((Below.heap_alloc _ _ _ (by rw [s1];omega)).trans (heap_alloc_new w _))
 have h1:(wkW w).heap[w.heap.size+1]?=some (.cells #[.int .u32 12,.int .u16 0,.int .u32 0,.int .u16 2] 60 (0,0)):=(Below.heap_alloc _ _ _ (by rw [s2];omega)).trans (by
  have:=heap_alloc_new (w.alloc (.cells #[.int .u32 4,.int .u16 0,.int .u32 6,.int .u16 0] 60)) (.cells #[.int .u32 12,.int .u16 0,.int .u32 0,.int .u16 2] 60)
  rw [s1] at this
  exact this)
 have h2:(wkW w).heap[w.heap.size+1+1]?=some (.cells #[.int .u8 0,.slice (some ⟨w.heap.size,0,none⟩) 2 2,.int .u8 0,.slice (some ⟨w.heap.size+1,0,none⟩) 2 2] 95 (0,0)):=by
  have:=heap_alloc_new ((w.alloc (.cells #[.int .u32 4,.int .u16 0,.int .u32 6,.int .u16 0] 60)).alloc (.cells #[.int .u32 12,.int .u16 0,.int .u32 0,.int .u16 2] 60)) (.cells #[.int .u8 0,.slice (some ⟨w.heap.size,0,none⟩) 2 2,.int .u8 0,.slice (some ⟨w.heap.size+1,0,none⟩) 2 2] 95)
  rw [s2] at this
  exact this
 have out:∀ k,w.heap.size<=k->k<(wkW w).heap.size->Out (wkW w) F k:=fun k hk hl=>⟨hl,fun q=>by have:=hF k q;omega⟩
 have l0:=(Array.getElem?_eq_some_iff.1 h0).1
 have l1:=(Array.getElem?_eq_some_iff.1 h1).1
 have l2:=(Array.getElem?_eq_some_iff.1 h2).1
 refine ⟨_,0,rfl,out _ (by omega) l2,fun i x hx=>?_⟩
 match i,hx with
 | 0,hx =>
  cases hx
  refine ⟨by rw [Lib.cell_of_heap h2];rfl,by decide,by decide,some ⟨w.heap.size,0,none⟩,2,by rw [Lib.cell_of_heap h2];rfl,by decide,fun _=>⟨_,0,rfl,out _ (Nat.le_refl _) l0,fun j y hy=>?_⟩⟩
  match j,hy with
  | 0,hy=>cases hy;exact ⟨by rw [Lib.cell_of_heap h0];rfl,by rw [Lib.cell_of_heap h0];rfl,by decide⟩
  | 1,hy=>cases hy;exact ⟨by rw [Lib.cell_of_heap h0];rfl,by rw [Lib.cell_of_heap h0];rfl,by decide⟩
  | j+2,hy=>simp at hy
 | 1,hx =>
  cases hx
  refine ⟨by rw [Lib.cell_of_heap h2];rfl,by decide,by decide,some ⟨w.heap.size+1,0,none⟩,2,by rw [Lib.cell_of_heap h2];rfl,by decide,fun _=>⟨_,0,rfl,out _ (by omega) l1,fun j y hy=>?_⟩⟩
  match j,hy with
  | 0,hy=>cases hy;exact ⟨by rw [Lib.cell_of_heap h1];rfl,by rw [Lib.cell_of_heap h1];rfl,by decide⟩
  | 1,hy=>cases hy;exact ⟨by rw [Lib.cell_of_heap h1];rfl,by rw [Lib.cell_of_heap h1];rfl,by decide⟩
  | j+2,hy=>simp at hy
 | i+2,hx=>simp [S.wkNs] at hx
set_option maxHeartbeats 4000000 in
theorem law26_works (w:World)(hL:LVE w):Calls Tryz.prog 33 #[] w fun e w'=>e=.returned (.bool true)/\Below w.heap.size w w':=by
 have Hw:=Lib.hid (k_world none none 0 0 [] [] 40 w hL (fun h=>by simp at h) (fun h=>by simp at h) (by decide) (by decide) (fun x hx=>by cases hx) (fun x hx=>by cases hx) (by decide))
 clear hL
 go_enter Tryz.func33,Tryz.ntmps33
 go_wp2_with fail
 refine Hw.out.mono ?_
 rintro e w1 ⟨Fs,b,p,F,hwr,rfl,hk1,hb1⟩
 have HWr:=Lib.hid hwr
 have HK1:=Lib.hid hk1
 have HB1:=Lib.hid hb1
 have HF:=Lib.hid (show ∀ k,F k->k<w1.heap.size from fun k hk=>(hk1.lt k hk).2)
 have HFl:=Lib.hid (show ∀ k,F k->w.heap.size<=k from fun k hk=>(hk1.lt k hk).1)
 clear hwr hk1 hb1 Hw
 obtain ⟨m0,hm0⟩:∃ m0,m0=S.wM (S.wL [] [] Fs) 40 []:=⟨_,rfl⟩
 have Hm0:=Lib.hid hm0
 rw [<- hm0] at HK1
 clear hm0
 go_wp2_with fail
 have hrd:m0.rd 26=(S.wL [] [] Fs).length/\m0.rd 27=(S.wL [] [] Fs).length+20:=by
  have:=HWr.out.fst.rd
  rw [<- Hm0.out] at this
  exact ⟨this 26,this 27⟩
 obtain ⟨H,hH⟩:∃ H:Int,H=(S.wL [] [] Fs).length:=⟨_,rfl⟩
 have hHb:0<=H/\H<=12000:=by have:=HWr.out.small;omega
 rw [<- hH] at hrd
 have HH:=Lib.hid hH
 have HRd:=Lib.hid hrd
 have hlay:=k_Lay (HK1.out.below (wk_below w1)) (some ⟨w1.heap.size+1+1,0,none⟩) 2 S.wkNs (wk_nodes w1 F HF.out) (by decide) (by rw [hrd.1];omega) (laidG_ok (by decide) (by rw [hrd.1];omega)) (by
  have h1:=(HWr.out.ok true).size2
  have h2:=HWr.out.wd.len
  rw [<- Hm0.out] at h2
  have h3:(S.wImg true [] [] Fs ((S.wL [] [] Fs).length+40)).size=(S.wL [] [] Fs).length+40:=rfl
  omega)
 have Hlay:=Lib.hid hlay
 have HB2:=Lib.hid (HB1.out.trans ((wk_below w1).mono HB1.out.size))
 clear hlay hrd hH
 refine Hlay.out.mono ?_
 rintro e w2 (⟨hno,-⟩ | ⟨-,gb,rfl,hg2,hk2,ho2⟩)
 ·exfalso
  rw [HRd.out.1,HRd.out.2] at hno
  have:S.sizes (S.laidNs S.wkNs)=6:=rfl
  omega
 have hs6:S.sizes (S.laidNs S.wkNs)=6:=rfl
 rw [HRd.out.1,hs6,<- HH.out,show (40:Int)/2=20 from by decide] at hk2
 rw [HRd.out.1] at hg2
 have HG2:=Lib.hid hg2
 have HK2:=Lib.hid hk2
 have HP2:=Lib.hid ((Pass.of_below (F:=F) (wk_below w1)).trans (.of_only ho2))
 clear hs6 hg2 hk2 ho2 Hlay HK1 HB2
 obtain ⟨g,hgE⟩:∃ g,g=S.laidG S.wkNs H:=⟨_,rfl⟩
 have HgE:=Lib.hid hgE
 rw [<- hgE] at HG2 HK2
 clear hgE
 go_wp2_with fail
 have hgw:=k_gword (0,2) (by decide) HG2.out
 have hw0:g.word (0,2)=4*(H+3)+1:=by rw [HgE.out];exact wk_word H
 rw [hw0] at hgw
 have Hgw:=Lib.hid hgw
 clear hgw hw0
 refine Hgw.out.mono ?_
 rintro e w3 ⟨rfl,hb3⟩
 have HP3:=Lib.hid (HP2.out.trans (.of_below hb3))
 have HG3:=Lib.hid (HG2.out.below hb3)
 have HK3:=Lib.hid (HK2.out.below hb3)
 clear hb3 HP2 HG2 HK2 Hgw
 have hw0b:0<=4*(H+3)+1/\4*(H+3)+1<=4294967295:=by omega
 obtain ⟨w0,hw0⟩:∃ w0,w0=4*(H+3)+1:=⟨_,rfl⟩
 have Hw0:=Lib.hid hw0
 rw [<- hw0] at hw0b ⊢
 clear hw0
 go_upto_region 8 with fail
 have hb4:Below w3.heap.size w3 (w3.alloc (.cells #[.int .u32 w0] 30)):=(Below.refl _ _).alloc (Nat.le_refl _) _
 have hr4:=heap_alloc_new w3 (.cells #[.int .u32 w0] 30)
 generalize w3.alloc (.cells #[.int .u32 w0] 30)=w4 at *
 have HP4:=Lib.hid (HP3.out.trans (.of_below hb4))
 have HG4:=Lib.hid (HG3.out.below hb4)
 have HK4:=Lib.hid (HK3.out.below hb4)
 have hz34:w3.heap.size<w4.heap.size:=(Array.getElem?_eq_some_iff.1 hr4).1
 have hnF:¬ F w3.heap.size:=fun q=>by
  have h1:=HF.out _ q
  have h2:=HP3.out.1.size
  omega
 have HO4:Hid (Out w4 F w3.heap.size):=Lib.hid ⟨hz34,hnF⟩
 have HR4:=Lib.hid hr4
 have a0:w4.cell? ⟨w3.heap.size,0,none⟩=some (.int .u32 w0):=by rw [Lib.cell_of_heap hr4];rfl
 clear hb4 hr4 HP3 HG3 HK3
 generalize w3.heap.size=wb at *
 obtain ⟨_,_,_,_,_,_,e0,e1,e2,e3,e4⟩:=HK4.out.cells
 have hbl:=HK4.out.blt
 refine wp_region_ext_tail 7 (by kernel_rfl) (by kernel_rfl) ?_
 have hE:=ext_cells w4
 simp only [List.take_succ_cons,List.take_zero,List.drop_succ_cons,List.drop_zero]
 repeat (first | go_big_quiet_step (fail))
 refine wpQuiet_nil ?_
 rintro w5 ⟨⟨_,hb5⟩,rfl⟩
 have HP5:=Lib.hid (HP4.out.trans (.of_below hb5))
 have HG5:=Lib.hid (HG4.out.below hb5)
 have HK5:=Lib.hid (HK4.out.below hb5)
 have hq5:=HO4.out.pass (.of_below (F:=F) hb5)
 have HO5:=Lib.hid hq5.1
 have HR5:=Lib.hid (hq5.2.trans HR4.out)
 clear hE hb5 HP4 HG4 HK4 HO4 HR4 hq5 e0 e1 e2 e3 e4 hbl a0 hz34
 go_wp2_with fail
 refine (k_PutR 16 w0 HK5.out hw0b).mono ?_
 rintro e w6 ⟨rv,rfl,hk6,ho6⟩
 have HK6:=Lib.hid hk6
 have HP6:=Lib.hid (HP5.out.trans (.of_only ho6))
 have HG6:=Lib.hid (HG5.out.pass (.of_only ho6))
 have hq6:=HO5.out.pass (.of_only ho6)
 have HO6:=Lib.hid hq6.1
 have HR6:=Lib.hid (hq6.2.trans HR5.out)
 clear hk6 ho6 HK5 HP5 HG5 HO5 HR5 hq6
 obtain ⟨_,_,_,_,_,_,e0,e1,e2,e3,e4⟩:=HK6.out.cells
 have hbl:=HK6.out.blt
 go_wp2_with fail
 refine (k_PutR 8 1 HK6.out (by decide)).mono ?_
 rintro e w7 ⟨rv2,rfl,hk7,ho7⟩
 have hmM:((((S.laidM g m0).setV 26 (H+6)).putV 16 w0).putV 8 1)=S.wkM H m0:=by rw [HgE.out,Hw0.out];rfl
 rw [hmM] at hk7
 have HK7:=Lib.hid hk7
 have HP7:=Lib.hid (HP6.out.trans (.of_only ho7))
 have HG7:=Lib.hid (HG6.out.pass (.of_only ho7))
 have hq7:=HO6.out.pass (.of_only ho7)
 have HO7:=Lib.hid hq7.1
 have HR7:=Lib.hid (hq7.2.trans HR6.out)
 clear hk7 ho7 HK6 HP6 HG6 HO6 HR6 hq7 e0 e1 e2 e3 e4 hbl hmM
 obtain ⟨I,hIe⟩:∃ I,I=S.wImg true [] [] Fs (H+40):=⟨_,rfl⟩
 have hok:∀ b,(S.wImg b [] [] Fs (H+40)).Ok:=fun b=>by rw [HH.out];exact HWr.out.ok b
 have hlab:H=(S.wImg true [] [] Fs (H+40)).lab S.kEnd:=by rw [HH.out];exact HWr.out.len
 have hrun:=wk_run (m0:=m0) hok hlab (by rw [Hm0.out,HH.out];exact HWr.out.wd) (by rw [Hm0.out,HH.out];exact HWr.out.fst.m2) (by rw [Hm0.out,HH.out];exact HWr.out.fst.m3) (by rw [Hm0.out];exact HWr.out.fst.m4) (by rw [Hm0.out];exact HWr.out.fst.m5) (by rw [Hm0.out];exact HWr.out.fst.low) (by omega)
 obtain ⟨hwd,hkept,hst1,hpl⟩:=hrun
 have hlen2:=call_len (I:=I) hwd S.kCollect 20000
 rw [<- hIe] at hkept hst1 hpl
 obtain ⟨_,l1,l2⟩:=w_label (hok true) has_stub
 obtain ⟨f1,_,_⟩:=w_label (hok true) has_stub
 obtain ⟨f2,l3,l4⟩:=w_label (hok true) (s:=S.kCollect) has_collect
 rw [<- hIe] at l1 l2 l3 l4 f1 f2
 obtain ⟨m2,hm2⟩:∃ m2,m2=S.callM I (S.wkM H m0) S.kCollect 20000:=⟨_,rfl⟩
 rw [<- hm2] at hkept hst1 hpl
 have hcallR:S.callR m2 (I.lab S.kStub)=0:=by
  unfold S.callR
  rw [if_neg (fun h=>h hst1),if_pos hpl]
 have hdb:Below w7.heap.size w7 w7.drew:=drew_below (Below.refl _ _)
 have hcall:=k_Call S.kCollect 20000 (I.lab S.kCollect) (I.lab S.kStub) (HK7.out.below hdb) f2 f1 ⟨l3,by omega⟩ ⟨l1,by omega⟩ hwd.run hwd.out hwd.steps (by decide)
 have hcv:S.callV (S.wkM H m0) (I.lab S.kStub) (I.lab S.kCollect) 20000=m2:=by rw [hm2];rfl
 rw [hcv,hcallR] at hcall
 have HKl:=Lib.hid (show (m2.mem.length:Int)=H+40 from by rw [hm2];exact hlen2)
 have Hcall:=Lib.hid hcall
 have Hkept:=Lib.hid hkept
 clear hcall hkept hst1 hpl hcallR hcv hm2 hlen2 f1 f2 l1 l2 l3 l4 hIe hok hlab hwd
 go_upto_region 10 with fail
 refine wp_region_any (by kernel_rfl) ?_
 change wpAny _ _ _ _ _ _ _ (World.drew w7)
 have HPd:=Lib.hid (HP7.out.trans (.of_below hdb))
 have hqd:=HO7.out.pass (.of_below (F:=F) hdb)
 have HOd:=Lib.hid hqd.1
 have HRd2:=Lib.hid (hqd.2.trans HR7.out)
 have HGd:=Lib.hid (HG7.out.below hdb)
 clear hdb HP7 HO7 HR7 HG7 HK7 hqd
 generalize w7.drew=wd at *
 refine wpAny_take (i:=0) (v:=?v0n1) rfl (by kernel_rfl) (by kernel_rfl) (by kernel_rfl) (fun _ _ _ h=>h) (Or.inl ⟨by rfl,?y0n1⟩) ?z0n1
 case y0n1=>(intro w;first | (go_simp;done) | (go_simp;with_reducible rfl))
 refine wpAny_ready (rs:=[1]) (by kernel_rfl) (by simp) ?_
 refine AllReady.cons rfl (fun K hK=>?_) AllReady.nil
 go_simp
 refine Hcall.out.mono ?_
 rintro e w8 ⟨rfl,F8,hk8,ho8,hf8⟩
 have HK8:=Lib.hid hk8
 have hp8:Pass F wd F8 w8:=⟨ho8,hf8⟩
 have HP8:=Lib.hid (HPd.out.trans hp8)
 have HG8:=Lib.hid (HGd.out.pass hp8)
 have hq8:=HOd.out.pass hp8
 have HR8:=Lib.hid (hq8.2.trans HRd2.out)
 have hwb8:wb<w8.heap.size:=hq8.1.1
 clear hk8 ho8 hf8 hp8 hq8 HPd HOd HRd2 HGd Hcall
 go_simp
 refine hK _ _ ?_
 clear hK K
 refine wpAny_take (i:=2) (v:=?v2n2) rfl (by kernel_rfl) (by kernel_rfl) (by kernel_rfl) (fun _ _ _ h=>h) (Or.inl ⟨by rfl,?y2n2⟩) ?z2n2
 case y2n2=>(intro w;first | (go_simp;done) | (go_simp;with_reducible rfl))
 refine wpAny_take (i:=3) (v:=?v3n3) rfl (by kernel_rfl) (by kernel_rfl) (by kernel_rfl) (fun _ _ _ h=>h) (Or.inl ⟨by rfl,?y3n3⟩) ?z3n3
 case y3n3=>(intro w;first | (go_simp;done) | (go_simp;with_reducible rfl))
 refine wpAny_take (i:=4) (v:=?v4n4) rfl (by kernel_rfl) (by kernel_rfl) (by kernel_rfl) (fun _ _ _ h=>h) (Or.inl ⟨by rfl,?y4n4⟩) ?z4n4
 case y4n4=>(intro w;first | (go_simp;done) | (go_simp;with_reducible rfl))
 refine wpAny_take (i:=5) (v:=?v5n5) rfl (by kernel_rfl) (by kernel_rfl) (by kernel_rfl) (fun _ _ _ h=>h) (Or.inl ⟨by rfl,?y5n5⟩) ?z5n5
 case y5n5=>(intro w;first | (go_simp;done) | (go_simp;with_reducible rfl))
 refine wpAny_take (i:=6) (v:=?v6n6) rfl (by kernel_rfl) (by kernel_rfl) (by kernel_rfl) (fun _ _ _ h=>h) (Or.inl ⟨by rfl,?y6n6⟩) ?z6n6
 case y6n6=>(intro w;first | (go_simp;done) | (go_simp;with_reducible rfl))
 refine wpAny_take (i:=7) (v:=?v7n7) rfl (by kernel_rfl) (by kernel_rfl) (by kernel_rfl) (fun _ _ _ h=>h) (Or.inl ⟨by rfl,?y7n7⟩) ?z7n7
 case y7n7=>(intro w;first | (go_simp;done) | (go_simp;with_reducible rfl))
 refine wpAny_ready (rs:=[8]) (by kernel_rfl) (by simp) ?_
 refine AllReady.cons rfl (fun K hK=>?_) AllReady.nil
 go_simp
 have hlen2:(12:Int)+12<=m2.mem.length:=by
  have:=HKl.out
  omega
 have e16:m2.memV 16=m2.mv 16:=mv_mem (by decide) (by omega)
 have hwd16:=k_WordB 16 HK8.out
 rw [e16] at hwd16
 have Hwd16:=Lib.hid hwd16
 have hb16:=HK8.out.ok.memw 16
 obtain ⟨v16,hv16⟩:∃ v16,v16=m2.mv 16:=⟨_,rfl⟩
 have hb16':0<=v16/\v16<=4294967295:=by rw [hv16];exact hb16
 rw [<- hv16] at Hwd16
 have Hv16:=Lib.hid hv16
 clear hwd16 e16 hb16 hv16
 refine Hwd16.out.mono ?_
 rintro e w9 ⟨rfl,hb9⟩
 have HK9:=Lib.hid (HK8.out.below hb9)
 have HG9:=Lib.hid (HG8.out.below hb9)
 have HP9:=Lib.hid (HP8.out.trans (.of_below hb9))
 have HR9:=Lib.hid ((hb9.block wb hwb8).trans HR8.out)
 have hz9:=hb9.size
 clear hb9 HK8 HG8 HP8 HR8 Hwd16
 go_simp
 refine hK _ _ ?_
 clear hK K
 refine wpAny_ready (rs:=[9]) (by kernel_rfl) (by simp) ?_
 refine AllReady.cons rfl (fun K hK=>?_) AllReady.nil
 go_simp
 refine hK _ _ ?_
 clear hK K
 have hb10:Below w9.heap.size w9 (w9.alloc (.cells #[.int .u32 v16] 30)):=(Below.refl _ _).alloc (Nat.le_refl _) _
 have hr10:=heap_alloc_new w9 (.cells #[.int .u32 v16] 30)
 generalize w9.alloc (.cells #[.int .u32 v16] 30)=w10 at *
 have HK10:=Lib.hid (HK9.out.below hb10)
 have HG10:=Lib.hid (HG9.out.below hb10)
 have HP10:=Lib.hid (HP9.out.trans (.of_below hb10))
 have HR10:=Lib.hid ((hb10.block wb (by omega)).trans HR9.out)
 have hz10:w9.heap.size<w10.heap.size:=(Array.getElem?_eq_some_iff.1 hr10).1
 have hkp:Calls Tryz.prog 31 #[.pointer (some ⟨b,0,none⟩),.pointer (some ⟨gb,0,none⟩),.slice (some ⟨wb,0,none⟩) 1 1,.slice (some ⟨w9.heap.size,0,none⟩) 1 1] w10 fun e w'=>e=.returned (.bool true)/\Below w10.heap.size w10 w':=by
  obtain ⟨nu,hke⟩:=Hkept.out.keeps
  have hgo:g.Ok H:=by rw [HgE.out];exact laidG_ok (by decide) ⟨hHb.1,by omega⟩
  have hsz:S.sizes g.ns=6:=by rw [HgE.out];rfl
  have e1:([16]:List Int).map m2.mv=[v16]:=by rw [Hv16.out];rfl
  rw [e1,<- HgE.out,<- Hw0.out,<- Hkept.out.m2] at hke
  have hre:=wk_reached H ⟨hHb.1,by omega⟩
  rw [<- HgE.out,<- Hw0.out] at hre
  exact k_Kept HK10.out HG10.out hgo (by omega) (some ⟨wb,0,none⟩) (some ⟨w9.heap.size,0,none⟩) 1 1 [w0] [v16] (reads_lit8 HR10.out rfl (by omega)) (reads_lit8 hr10 rfl hz10) (fun r hr=>by rw [List.mem_singleton] at hr;omega) (fun r hr=>by rw [List.mem_singleton] at hr;omega) (by simp) hke (by
   have h1:=hke.size 3 [1] hre
   have h2:=HKl.out
   have h3:=Hkept.out.m2
   omega) (by omega) (by have:=HKl.out;omega) (by decide) ⟨_,_,hre⟩
 have Hkp:=Lib.hid hkp
 clear hb10 hr10 hkp HK9 HG9 HP9 HR9
 refine wpAny_ready (rs:=[10]) (by kernel_rfl) (by simp) ?_
 refine AllReady.cons rfl (fun K hK=>?_) AllReady.nil
 go_simp
 refine Hkp.out.mono ?_
 rintro e w11 ⟨rfl,hb11⟩
 have HK11:=Lib.hid (HK10.out.below hb11)
 have HP11:=Lib.hid (HP10.out.trans (.of_below hb11))
 clear hb11 HK10 HP10 HG10 HR10 Hkp
 go_simp
 refine hK _ _ ?_
 clear hK K
 refine wpAny_take (i:=11) (v:=?v11n8) rfl (by kernel_rfl) (by kernel_rfl) (by kernel_rfl) (fun _ _ _ h=>h) (Or.inl ⟨by rfl,?y11n8⟩) ?z11n8
 case y11n8=>(intro w;first | (go_simp;done) | (go_simp;with_reducible rfl))
 refine wpAny_take (i:=12) (v:=?v12n9) rfl (by kernel_rfl) (by kernel_rfl) (by kernel_rfl) (fun _ _ _ h=>h) (Or.inl ⟨by rfl,?y12n9⟩) ?z12n9
 case y12n9=>(intro w;first | (go_simp;done) | (go_simp;with_reducible rfl))
 refine wpAny_take (i:=13) (v:=?v13n10) rfl (by kernel_rfl) (by kernel_rfl) (by kernel_rfl) (fun _ _ _ h=>h) (Or.inl ⟨by rfl,?y13n10⟩) ?z13n10
 case y13n10=>(intro w;first | (go_simp;done) | (go_simp;with_reducible rfl))
 refine wpAny_take (i:=15) (v:=?v15n11) rfl (by kernel_rfl) (by kernel_rfl) (by kernel_rfl) (fun _ _ _ h=>h) (Or.inl ⟨by rfl,?y15n11⟩) ?z15n11
 case y15n11=>(intro w;first | (go_simp;done) | (go_simp;with_reducible rfl))
 refine wpAny_take (i:=16) (v:=?v16n12) rfl (by kernel_rfl) (by kernel_rfl) (by kernel_rfl) (fun _ _ _ h=>h) (Or.inl ⟨by rfl,?y16n12⟩) ?z16n12
 case y16n12=>(intro w;first | (go_simp;done) | (go_simp;with_reducible rfl))
 refine wpAny_take (i:=17) (v:=?v17n13) rfl (by kernel_rfl) (by kernel_rfl) (by kernel_rfl) (fun _ _ _ h=>h) (Or.inl ⟨by rfl,?y17n13⟩) ?z17n13
 case y17n13=>(intro w;first | (go_simp;done) | (go_simp;with_reducible rfl))
 have e2:m2.memV 2=H+20:=by rw [mv_mem (by decide) (by have:=HKl.out;omega)];exact Hkept.out.m2
 have Hwd2:=Lib.hid (show ∀ y:Ext w11,Calls Tryz.prog 32 #[.pointer (some ⟨b,0,none⟩),.int .i64 2] y.val fun e w'=>e=.returned (.int .u32 (H+20))/\Below y.val.heap.size y.val w' from fun y=>by
  rw [<- e2]
  exact k_WordB 2 (HK11.out.below y.property))
 have u1:IntKind.i64.wrap (H+20)=H+20:=IntWalk.i64_in _ ⟨by omega,by omega⟩
 have u2:IntKind.u32.wrap (H+20)=H+20:=IntWalk.u32_in _ ⟨by omega,by omega⟩
 have u3:(H+20)%4294967296=H+20:=by omega
 have Hu1:=Lib.hid u1
 have Hu2:=Lib.hid u2
 obtain ⟨_,_,_,_,_,_,e0,e1,e2',e3,e4⟩:=HK11.out.cells
 have hbl:=HK11.out.blt
 clear e2
 refine wpAny_ready (rs:=[14,18]) (by kernel_rfl) (by simp) ?_
 refine AllReady.cons rfl (fun K hK=>?_) (AllReady.cons rfl (fun K hK=>?_) AllReady.nil)
 ·go_simp
  refine (Hwd2.out ⟨w11,Below.refl _ _⟩).mono ?_
  rintro e w12 ⟨rfl,hb12⟩
  have HK12:=Lib.hid (HK11.out.below hb12)
  have HPz:=Lib.hid (HP11.out.trans (.of_below hb12))
  obtain ⟨_,_,_,_,_,_,i0,i1,i2,i3,i4⟩:=HK12.out.cells
  have hbl2:=HK12.out.blt
  clear hb12
  go_simp
  refine hK _ _ ?_
  clear hK K
  refine wpAny_ready (rs:=[18]) (by kernel_rfl) (by simp) ?_
  refine AllReady.cons rfl (fun K hK=>?_) AllReady.nil
  go_simp
  refine hK _ _ ?_
  clear hK K
  refine wpAny_take (i:=19) (v:=?v19n101) rfl (by kernel_rfl) (by kernel_rfl) (by kernel_rfl) (fun _ _ _ h=>h) (Or.inl ⟨by rfl,?y19n101⟩) ?z19n101
  case y19n101=>(intro w;first | (go_simp;done) | (go_simp;with_reducible rfl))
  refine wpAny_take (i:=20) (v:=?v20n102) rfl (by kernel_rfl) (by kernel_rfl) (by kernel_rfl) (fun _ _ _ h=>h) (Or.inl ⟨by rfl,?y20n102⟩) ?z20n102
  case y20n102=>(intro w;first | (go_simp;done) | (go_simp;with_reducible rfl))
  refine wpAny_take (i:=21) (v:=?v21n103) rfl (by kernel_rfl) (by kernel_rfl) (by kernel_rfl) (fun _ _ _ h=>h) (Or.inl ⟨by rfl,?y21n103⟩) ?z21n103
  case y21n103=>(intro w;first | (go_simp;done) | (go_simp;with_reducible rfl))
  refine wpAny_take (i:=22) (v:=?v22n104) rfl (by kernel_rfl) (by kernel_rfl) (by kernel_rfl) (fun _ _ _ h=>h) (Or.inl ⟨by rfl,?y22n104⟩) ?z22n104
  case y22n104=>(intro w;first | (go_simp;done) | (go_simp;with_reducible rfl))
  refine wpAny_take (i:=23) (v:=?v23n105) rfl (by kernel_rfl) (by kernel_rfl) (by kernel_rfl) (fun _ _ _ h=>h) (Or.inl ⟨by rfl,?y23n105⟩) ?z23n105
  case y23n105=>(intro w;first | (go_simp;done) | (go_simp;with_reducible rfl))
  refine wpAny_done (by kernel_rfl) ?_ _
  go_wp2_with fail
  refine bodyPost_ret (v:=.bool true) (by simp [results,Tryz.results33,go_sem,Hu1.out,Hu2.out]) rfl ⟨rfl,?_⟩
  exact HB1.out.trans ((HPz.out.1.below HB1.out.size fun k hk=>HFl.out k hk))
 ·go_simp
  refine hK _ _ ?_
  clear hK K
  refine wpAny_take (i:=19) (v:=?v19n106) rfl (by kernel_rfl) (by kernel_rfl) (by kernel_rfl) (fun _ _ _ h=>h) (Or.inl ⟨by rfl,?y19n106⟩) ?z19n106
  case y19n106=>(intro w;first | (go_simp;done) | (go_simp;with_reducible rfl))
  refine wpAny_take (i:=20) (v:=?v20n107) rfl (by kernel_rfl) (by kernel_rfl) (by kernel_rfl) (fun _ _ _ h=>h) (Or.inl ⟨by rfl,?y20n107⟩) ?z20n107
  case y20n107=>(intro w;first | (go_simp;done) | (go_simp;with_reducible rfl))
  refine wpAny_ready (rs:=[14]) (by kernel_rfl) (by simp) ?_
  refine AllReady.cons rfl (fun K hK=>?_) AllReady.nil
  go_simp
  refine (Hwd2.out ⟨w11,Below.refl _ _⟩).mono ?_
  rintro e w12 ⟨rfl,hb12⟩
  have HPz:=Lib.hid (HP11.out.trans (.of_below hb12))
  clear hb12
  go_simp
  refine hK _ _ ?_
  clear hK K
  refine wpAny_take (i:=21) (v:=?v21n108) rfl (by kernel_rfl) (by kernel_rfl) (by kernel_rfl) (fun _ _ _ h=>h) (Or.inl ⟨by rfl,?y21n108⟩) ?z21n108
  case y21n108=>(intro w;first | (go_simp;done) | (go_simp;with_reducible rfl))
  refine wpAny_take (i:=22) (v:=?v22n109) rfl (by kernel_rfl) (by kernel_rfl) (by kernel_rfl) (fun _ _ _ h=>h) (Or.inl ⟨by rfl,?y22n109⟩) ?z22n109
  case y22n109=>(intro w;first | (go_simp;done) | (go_simp;with_reducible rfl))
  refine wpAny_take (i:=23) (v:=?v23n110) rfl (by kernel_rfl) (by kernel_rfl) (by kernel_rfl) (fun _ _ _ h=>h) (Or.inl ⟨by rfl,?y23n110⟩) ?z23n110
  case y23n110=>(intro w;first | (go_simp;done) | (go_simp;with_reducible rfl))
  refine wpAny_done (by kernel_rfl) ?_ _
  go_wp2_with fail
  refine bodyPost_ret (v:=.bool true) (by simp [results,Tryz.results33,go_sem,Hu1.out,Hu2.out]) rfl ⟨rfl,?_⟩
  exact HB1.out.trans ((HPz.out.1.below HB1.out.size fun k hk=>HFl.out k hk))
end
end Go.Proofs.YtlldagdhlfpihaaGreatDoor
