/- Parts. -/
import Derived.Test.YtfhiobkkdcdmiaaGreatDoorZQj
import Derived.BigQuiet
set_option linter.all false
set_option maxHeartbeats 2000000
open Go.Lib renaming hid->Ya
open Nat renaming le_refl->Yb,le_trans->Y8,zero_le->Yag
open List renaming length_append->Yd,getD_eq_getElem?_getD->Ye,getElem?_eq_getElem->Yf,getElem?_eq_some_iff->Yg,getElem?_append_left->Ym,getElem?_append_right->Yo,length_take->Yq,replicate->Ys,mem_cons_self->Yu,mem_cons_of_mem->Yw,mem_cons->Yz,mem_append->Y0,mem_of_getElem?->Y1,getElem?_map->Y3,mem_singleton->Yab,not_mem_nil->Yap,take_append_drop->Yay,all_eq_true->Ya9,ext_getElem->Ybw
open Go.RowKit.Below renaming refl->Yh
open Go.IntWalk renaming i64_in->Yk
open Int renaming le_refl->Y7,toNat_natCast->Yah,pow_pos->Yar,eq_ofNat_of_zero_le->Ya1,le_of_lt->Ya3,add_zero->Ybj
open Go.World renaming cell?_of_block->Yax
namespace Go.Proofs.YtfhiobkkdcdmiaaGreatDoor
open Go.RowKit
set_option maxRecDepth 100000
theorem Zcq (y:S.Inst):0<=S.wordOf y/\S.wordOf y<=4294967295:=by
 unfold S.wordOf
 split
 .rename_i h;exact Z3e h
 .omega
theorem Zzl {x:S.Item}(hw:0<=x.word/\x.word<=4294967295)(form at_ tt:Int):∀v∈S.wordsOf x form at_ tt,0<=v/\v<=4294967295:=by
 unfold S.wordsOf S.lui S.ori;intro v hv
 split at hv
 .simp only[Yab] at hv;subst hv;exact Zcq _
 split at hv
 .simp only[Yab] at hv;subst hv;exact Zcq _
 split at hv
 .simp only[Yz,Yap,or_false] at hv
  rcases hv with rfl|rfl <;> exact Zcq _
 split at hv
 .simp only[Yz,Yap,or_false] at hv
  rcases hv with rfl|rfl|rfl|rfl <;> exact Zcq _
 split at hv
 .simp only[Yab] at hv;subst hv;exact Zcq _
 split at hv
 .simp only[Yz,Yap,or_false] at hv
  rcases hv with rfl|rfl|rfl <;> exact Zcq _
 split at hv
 .simp only[Yz,Yap,or_false] at hv
  rcases hv with rfl|rfl <;> exact Zcq _
 split at hv
 .simp only[Yab] at hv;subst hv;exact hw
 split at hv
 .simp only[Yab] at hv;subst hv;omega
 split at hv
 .have:=List.eq_of_mem_replicate hv;subst this;omega
 .cases hv
theorem Zjp {xs:List S.Item}{F:List Int}{base:Int}(hw:∀x∈xs,0<=x.word/\x.word<=4294967295):∀i:Nat,∀v∈S.outTo xs F base i,0<=v/\v<=4294967295
 | 0=>λ v hv=>by cases hv
 | i+1=>λ v hv=>by
  rw[S.outTo] at hv;rcases Y0.1 hv with hv|hv
  .exact Zjp hw i v hv
  .unfold S.wordsAt at hv
   split at hv
   .cases hv
   .rename_i x hx
    exact Zzl (hw x (Y1 hx)) _ _ _ v hv
section
set_option maxRecDepth 100000
open Go Go.RowKit Go.Proofs
def S.ae (os:List S.Obj):List S.AV:=os.flatMap λ o=>S.encObj o.name o.items
theorem Zqi:S.runFn Tryz.prog S.orcB 400 20 34 [.int .i64 0]=some (.row 15 (S.ae S.objs26),some (70,2)):=by kernel_rfl
theorem Zs7:AFn Tryz.prog LVE 34 [.int .i64 0] (.row 15 (S.ae S.objs26)) (some (70,2)):=Zos Zqi
end
theorem Zgk {w:World}{base:Nat}{e:TypeId}{size n c:Nat}{A:Option Addr}{xs:List Value}(h:w.ownsRow base e size (.slice A n c) n xs):A=none->n=0:=by
 intro hA;rcases h.2 with⟨_,h1⟩|⟨g,cap,cur,e1,_⟩
 .exact h1
 .rw[hA] at e1
  cases e1
theorem Zba {w:World}{base:Nat}{e:TypeId}{size n c:Nat}{A:Option Addr}{xs:List Value}(h:w.ownsRow base e size (.slice A n c) n xs):Reads w w.heap.size A xs:=λ hp=>by
 rcases h.2 with⟨_,h1⟩|⟨g,cap,cur,e1,hb,hg,_,_,_,ht⟩
 .have:=h.1
  rw[h1,Nat.zero_mul] at this;omega
 .cases e1
  refine⟨g,0,rfl,(Array.getElem?_eq_some_iff.1 hg).1,λ i x hx=>?_⟩;rw[Zfr hg,Nat.zero_add];rw[<- ht] at hx;have hlt:i<n*size:=by
   have h2:=(Yg.1 hx).1;rw[Yq] at h2;omega
  rw[List.getElem?_take_of_lt hlt,Array.getElem?_toList] at hx;exact hx
theorem Zmd {w:World}{base:Nat}{e:TypeId}{size n:Nat}{cs:Array Value}{xs:List Value}(hb:base<=w.heap.size)(hs:cs.size=n*size)(hx:cs.toList=xs)(hn:n<=maxLen):(w.alloc (.cells cs e)).ownsRow base e size (.slice (some ⟨w.heap.size,0,none⟩) n n) n xs :=
 ⟨by rw[<- hx,Array.length_toList,hs],.inr ⟨w.heap.size,n,cs,rfl,hb,heap_alloc_new w _,Yb _,hn,hs,by rw[hx,List.take_of_length_le];rw[<- hx,Array.length_toList,hs];exact Yb _⟩⟩
section
section
variable {H:Zx}{w:World}(hH:∀b k,H b=some k->b<w.heap.size)
theorem Zg3:∀{xs:List S.Item} {b o:Nat},RepC H w (S.encItems xs) b o->(∀x∈xs,0<=x.word/\x.word<=4294967295)->∀(i:Nat)(x:S.Item),xs[i]?=some x->ItemAt w b (o+i*8) x
 | [],b,o,_,_,i,x,h=>by cases h
 | y::r,b,o,hr,hw,i,x,h=>by
  have hr':RepC H w ([.int .i64 y.kind,.int .i64 y.inst.op,.int .i64 y.inst.d,.int .i64 y.inst.a,.int .i64 y.inst.b,.int .i64 y.inst.imm,.str y.label,.int .u32 y.word]++S.encItems r) b o:=hr;simp only[List.cons_append,List.nil_append,RepC,RepV] at hr';obtain⟨_,⟨v0,c0,rfl⟩,_,⟨v1,c1,rfl⟩,_,⟨v2,c2,rfl⟩,_,⟨v3,c3,rfl⟩,_,⟨v4,c4,rfl⟩,_,⟨v5,c5,rfl⟩,_,⟨v6,c6,rfl⟩,_,⟨v7,c7,rfl⟩,ht⟩:=hr'
  cases i with
  | zero =>
   cases h
   rw[Nat.zero_mul,Nat.add_zero];exact⟨c0,c1,c2,c3,c4,c5,c6,c7,(hw y Yu).1,(hw y Yu).2⟩
  | succ i =>
   have:=Zg3 (xs:=r) ht (λ z hz=>hw z (Yw _ hz)) i x h;rw[show o+(i+1)*8=o+1+1+1+1+1+1+1+1+i*8 from by omega];exact this
include hH
theorem Zs8 {xs:List S.Item}{v:Value}(h:RepV H w (.row xs.length (S.encItems xs)) v)(hw:∀x∈xs,0<=x.word/\x.word<=4294967295):∃A c,v=.slice A xs.length c/\Items w w.heap.size A xs:=by
 simp only[RepV] at h;obtain⟨A,c,rfl,_,_,hc⟩:=h;refine⟨A,c,rfl,λ hp=>?_⟩;rcases hc with e|⟨b,o,k,rfl,hb,_,hr⟩
 .cases xs with
  | nil=>simp at hp
  | cons y r=>cases e
 .exact⟨b,o,rfl,hH b k hb,Zg3 hr hw⟩
end
def S.ax (os:List S.Obj):Bool:=os.all λ o=>o.items.all (λ x=>decide (0<=x.word/\x.word<=4294967295)) && decide (o.name.size<=1000) && o.items.all (λ x=>decide (x.label.size<=1000))
theorem Zro:S.ax (S.objs26++[S.oMain])=true:=by kernel_rfl
theorem Zme {os:List S.Obj}(h:S.ax os=true):∀x∈os,(∀y∈x.items,0<=y.word/\y.word<=4294967295)/\x.name.size<=maxLen/\∀y∈x.items,y.label.size<=maxLen:=λ x hx=>by
 have:=Ya9.1 h x hx;simp only[Bool.and_eq_true] at this;obtain⟨⟨h1,h2⟩,h3⟩:=this;have h2':=of_decide_eq_true h2;refine⟨λ y hy=>of_decide_eq_true (Ya9.1 h1 y hy),by simp only[maxLen];omega,λ y hy=>?_⟩;have:=of_decide_eq_true (Ya9.1 h3 y hy);simp only[maxLen];omega
end
section
theorem ReadsP.same {w w':World}{A:Option Addr}{L:List (ByteArray×Int)}(h:ReadsP w w.heap.size A L)(hz:w.heap.size<=w'.heap.size)(hb:∀b o s,A=some ⟨b,o,s⟩->w'.heap[b]?=w.heap[b]?):ReadsP w' w'.heap.size A L:=λ hp=>by
 obtain⟨b,off,e,hbB,hc⟩:=h hp;exact⟨b,off,e,by omega,λ i p hx=>⟨(Yax (w:=w) (a:=⟨b,off+i*2,none⟩) (hb b off none e)).trans (hc i p hx).1,(Yax (w:=w) (a:=⟨b,off+i*2+1,none⟩) (hb b off none e)).trans (hc i p hx).2⟩⟩
section
variable {w w':World}{lo b p:Nat}{F:Nat->Prop}{H half:Int}{P:List (ByteArray×Int)}{m m':S.Mach}
end
end
structure OC (w:World)(B:Nat)(os:List S.Obj)(oc:List Value):Prop where
 len:oc.length=os.length*2
 one:∀u∈oc,u.oneCell'=true
 at_:∀(i:Nat)(x:S.Obj),os[i]?=some x->∃A c,oc[i*2]?=some (.string x.name)/\oc[i*2+1]?=some (.slice A x.items.length c)/\Items w B A x.items/\x.name.size<=maxLen/\∀y∈x.items,y.label.size<=maxLen
theorem Zzm {w:World}{base:Nat}{e:TypeId}{A:Option Addr}{c:Nat}{os:List S.Obj}{oc:List Value}(ho:w.ownsRow base e 2 (.slice A os.length c) os.length oc)(hc:OC w w.heap.size os oc):Objs w w.heap.size A os:=λ hp=>by
 obtain⟨b,off,rfl,hb,h⟩:=Zba ho (by rw[hc.len];omega);refine⟨b,off,rfl,hb,λ i x hx=>?_⟩;obtain⟨A',c',h0,h1,h2,h3,h4⟩:=hc.at_ i x hx;exact⟨h _ _ h0,⟨A',c',h _ _ h1,h2⟩,h3,h4⟩
theorem OC.app {w:World}{B:Nat}{a b:List S.Obj}{ca cb:List Value}(h:OC w B a ca)(k:OC w B b cb):OC w B (a++b) (ca++cb):=by
 refine⟨by rw[Yd,Yd,h.len,k.len];omega,λ u hu=>(Y0.1 hu).elim (h.one u) (k.one u),λ i x hx=>?_⟩;by_cases c:i<a.length
 .rw[Ym c] at hx
  obtain⟨A',c',h0,h1,h2⟩:=h.at_ i x hx;have hl:=h.len;exact⟨A',c',by rw[Ym (by omega)];exact h0,by rw[Ym (by omega)];exact h1,h2⟩
 .rw[Yo (by omega)] at hx
  obtain⟨A',c',h0,h1,h2⟩:=k.at_ (i-a.length) x hx;have hl:=h.len;exact⟨A',c',by rw[Yo (by omega),hl,show i*2-a.length*2=(i-a.length)*2 from by omega];exact h0,by rw[Yo (by omega),hl,show i*2+1-a.length*2=(i-a.length)*2+1 from by omega];exact h1,h2⟩
theorem OC.one_ {w:World}{B:Nat}{x:S.Obj}{A:Option Addr}{c:Nat}(hi:Items w B A x.items)(hn:x.name.size<=maxLen)(hl:∀y∈x.items,y.label.size<=maxLen):OC w B [x] [.string x.name,.slice A x.items.length c] :=
 ⟨rfl,by simp[Value.oneCell'],λ i y hy=>by
  cases i with
  | zero=>cases hy;exact⟨A,c,rfl,rfl,hi,hn,hl⟩
  | succ i=>cases hy⟩
theorem ReadsP.same' {w:World}{B B':Nat}{A:Option Addr}{L:List (ByteArray×Int)}(h:ReadsP w B A L)(hb:B<=B'):ReadsP w B' A L:=λ hp=>by
 obtain⟨b,off,e,hbB,hc⟩:=h hp;exact⟨b,off,e,by omega,hc⟩
theorem MAt.base {w:World}{B B' p:Nat}{vm vo:Value}{A:Option Addr}{c:Nat}{inp:List Int}{rd:Nat}{m:S.Mach}(h:MAt w B p vm vo A c inp rd m)(hb:B'<=B):MAt w B' p vm vo A c inp rd m :=
 ⟨h.ok,Y8 hb h.low,h.blk,Z5 h.mem hb,Z5 h.out hb,h.rin,h.left,h.rdle,h.inl,h.low0,h.la,h.d1,h.d2⟩
theorem Zek:(Tryz.prog.info? 70).map (λ i=>(i.zero,i.size,i.bytes))=some (some (.agg #[.string ByteArray.empty,.slice none 0 0]),2,40):=by kernel_rfl
section
section
variable {H:Zx}{w:World}(hH:∀b k,H b=some k->b<w.heap.size)
include hH
theorem Zov:∀{os:List S.Obj} {xs:List Value},RepL H w (S.ae os) xs->(∀x∈os,(∀y∈x.items,0<=y.word/\y.word<=4294967295)/\x.name.size<=maxLen/\∀y∈x.items,y.label.size<=maxLen)->OC w w.heap.size os xs
 | [],xs,h,_=>by
  have h':RepL H w [] xs:=h;rw[RepL] at h';subst h';exact { len:=rfl,one:=λ u hu=>(Yap hu).elim,at_:=λ i x hx=>by simp at hx }
 | o::r,xs,h,hw=>by
  have h':RepL H w (.str o.name::.row o.items.length (S.encItems o.items)::S.ae r) xs:=h;rw[RepL] at h';obtain⟨v0,rs,rfl,_,hv0,h'⟩:=h';rw[RepL] at h';obtain⟨v1,rs,rfl,_,hv1,h'⟩:=h';rw[RepV] at hv0;subst hv0;obtain⟨q1,q2,q3⟩:=hw o Yu;obtain⟨A,c,rfl,hi⟩:=Zs8 hH hv1 q1;have ih:=Zov h' λ x hx=>hw x (Yw _ hx)
  exact(OC.one_ (x:=o) (c:=c) hi q2 q3).app ih
end
theorem ItemAt.block {w w':World}{b o:Nat}{x:S.Item}(h:ItemAt w b o x)(hb:w'.heap[b]?=w.heap[b]?):ItemAt w' b o x:=h.keep λ o=>Yax (a:=⟨b,o,none⟩) hb
section
variable {gw sw:List Int}(hg:∀x∈gw,0<=x/\x<=4294967295)(hs:∀x∈sw,0<=x/\x<=4294967295)(hgl:gw.length<=100)(hsl:sw.length<=100)
include hg hs hgl hsl
end
end
def S.bk:List ByteArray:=S.kLow::(S.nMidO.map S.Obj.name++[S.kCall])
theorem Zxc:(S.nodupB S.bk && S.nMidO.all (λ o=>!S.badN o))=true:=by kernel_rfl
theorem Z27 (op:Int):S.NamesRes (S.nObjs op) 0:=by
 have h:=Zxc;rw[Bool.and_eq_true] at h;have hn:(S.nObjs op).map S.Obj.name=S.bk:=by
  show(S.oLow::(S.nMidO++[S.oCall op])).map S.Obj.name=_
  rw[List.map_cons,List.map_append];rfl
 have hd:((S.nObjs op).map S.Obj.name).Nodup:=by rw[hn];exact Zln h.1
 refine .inr (.inr ⟨?_,λ o ho=>?_,rfl⟩)
 .rintro⟨i,j,a,b,hij,hi,hj,hab⟩
  have e1:((S.nObjs op).map S.Obj.name)[i]?=some a.name:=by rw[Y3,hi];rfl
  have e2:((S.nObjs op).map S.Obj.name)[j]?=some b.name:=by rw[Y3,hj];rfl
  obtain⟨l1,q1⟩:=Yg.1 e1;obtain⟨l2,q2⟩:=Yg.1 e2;have:=(List.nodup_iff_pairwise_ne.1 hd)
  rw[List.pairwise_iff_getElem] at this;exact this j i l2 l1 hij (by rw[q1,q2,hab])
 .have ho':o∈S.oLow::(S.nMidO++[S.oCall op]):=ho
  rcases Yz.1 ho' with rfl|q
  .show(S.kLow.data.toList.isEmpty || S.ownB S.kLow)=false
   decide
  .rcases Y0.1 q with q|q
   .have:=Ya9.1 h.2 o q
    simpa using this
   .rw[Yab] at q
    subst q
    show(S.kCall.data.toList.isEmpty || S.ownB S.kCall)=false
    decide
theorem Zd0 (op:Int):(S.joined (S.nObjs op)).length<=1048576:=by
 have hm:S.nMid.length<=100000:=by
  have h:decide (S.nMid.length<=100000)=true:=by kernel_rfl
  exact of_decide_eq_true h
 rw[Zol];omega
theorem Zmf {I:S.Img}(hI:I.Ok){j:Nat}{x:S.Item}(hx:I.xs[j]?=some x)(hk:x.kind=2):S.findP (S.placesTo I.xs I.F 0 I.xs.length) x.label=some (I.lab x.label):=by
 have key:∀(L:List (ByteArray×Int)) (s:ByteArray) (v:Int),(∃q:Nat,L[q]?=some (s,v))->(∀(q:Nat)(u:Int),L[q]?=some (s,u)->u=v)->S.findP L s=some v:=by
  intro L
  induction L with
  | nil=>rintro s v ⟨q,hq⟩;cases hq
  | cons p r ih =>
   rintro s v ⟨q,hq⟩ hu;obtain⟨n,u⟩:=p;rw[S.findP];simp only;by_cases c:n=s
   .subst c
    rw[if_pos rfl,hu 0 u rfl]
   .rw[if_neg c]
    refine ih s v ?_ λ q u h=>hu (q+1) u h
    cases q with
    | zero=>cases hq;exact absurd rfl c
    | succ q=>exact⟨q,hq⟩
 have hs:=Zh7 hI hx hk;have hlab:I.lab x.label=S.addr I.xs I.F 0 j:=by
  unfold S.Img.lab;rw[hs];rfl
 have hj:=(Yg.1 hx).1;refine key _ _ _ ?_ λ q u hq=>?_
 .obtain⟨q,hq⟩:=Zj9 (F:=I.F) (base:=0) hs _ hj
  exact⟨q,by rw[hlab];exact hq⟩
 .obtain⟨j',h1,h2,_⟩:=Zh5 (Ztr hI) _ q _ u hq
  have:j'=j:=by
   have h3:S.stands I.xs x.label=j':=h1;omega
  subst this;rw[hlab];exact h2
def S.nL (op:Int)(F:List Int):List Int:=S.outTo (S.joined (S.nObjs op)) F 0 (S.joined (S.nObjs op)).length
def S.nP (op:Int)(F:List Int):List (ByteArray×Int):=S.placesTo (S.joined (S.nObjs op)) F 0 (S.joined (S.nObjs op)).length
def S.ag (L:List Int)(half:Int):S.Mach :=
 ((((((Zkk L (L.length+2*half).toNat []).putV 1 (2*half)).putV 2 L.length).putV 3 (L.length+half)).putV 4 half).putV 5 38).setV 28 1056
structure S.az (op:Int)(F:List Int)(half a:Int):Prop where
 ok:∀b,(S.aa b op F (a+4+2*half)).Ok
 lab:S.a8 (S.aa true op F (a+4+2*half)) (5+S.nMid.length) a
 len:((S.nL op F).length:Int)=a+4
 small:a<=30000
 words:∀x∈S.nL op F,0<=x/\x<=4294967295
 mok:(S.ag (S.nL op F) half).Ok
 run:(S.ag (S.nL op F) half).state=0
 mlen:((S.ag (S.nL op F) half).mem.length:Int)=a+4+2*half
 code:(S.aa true op F (a+4+2*half)).In (S.ag (S.nL op F) half).mem
 rd:∀j,(S.ag (S.nL op F) half).rd j=if j=28 then 1056 else 0
 m1:(S.ag (S.nL op F) half).mv 1=2*half
 m2:(S.ag (S.nL op F) half).mv 2=a+4
 m3:(S.ag (S.nL op F) half).mv 3=a+4+half
 m4:(S.ag (S.nL op F) half).mv 4=half
 m5:(S.ag (S.nL op F) half).mv 5=38
 low:∀c,5<c->c<1312->(S.ag (S.nL op F) half).mv c=0
 zero:∀c,a+4<=c->(S.ag (S.nL op F) half).mv c=0
 out:(S.ag (S.nL op F) half).out=[]
 steps:(S.ag (S.nL op F) half).steps=0
theorem Zrp {op:Int}{F:List Int}{size a:Int}(hI:(S.aa true op F size).Ok)(hL:S.a8 (S.aa true op F size) (5+S.nMid.length) a){c:Int}(h:(S.aa true op F size).code c):1312<=c/\c<a+4:=by
 obtain⟨h1,h2⟩:=h;have e1:(S.aa true op F size).adr (S.aa true op F size).i0=1312:=hL.i0;have e2:(S.aa true op F size).adr (S.aa true op F size).i1=a+4:=hL.top;omega
theorem Z48 {op:Int}{F:List Int}{size:Int}(hI:(S.aa true op F size).Ok)(h0:F.getD 0 0=1){c:Nat}(hc:0<c)(hc2:c<1312):(S.nL op F)[c]?=some 0:=by
 have hx:(S.joined (S.nObjs op))[1]?=some (S.bSp 1311):=by rw[Zcu];rfl
 have hx0:(S.joined (S.nObjs op))[0]?=some (S.bJ 0 S.kStart):=by rw[Zcu];rfl
 have hw:S.wordsAt (S.joined (S.nObjs op)) F 0 1=Ys 1311 0:=by
  unfold S.wordsAt;rw[hx];exact Zsv _ _ _ _
 have ha:S.addr (S.joined (S.nObjs op)) F 0 1=1:=by
  show 0+S.sizeAt (S.joined (S.nObjs op)) F 0=1
  unfold S.sizeAt;rw[hx0]
  show 0+S.size (S.bJ 0 S.kStart) (F.getD 0 0)=1
  rw[h0]
  decide
 have:=Zu4 (Za0 hI) (Zcs (Zcf hI)) hI.words (i:=1) (j:=c-1) (w:=0) (by
  show(S.wordsAt (S.joined (S.nObjs op)) F 0 1)[c-1]?=some 0
  rw[hw,List.getElem?_replicate,if_pos (by omega)]) (S.joined (S.nObjs op)).length (by rw[Zol];omega)
 have e:(S.addr (S.aa true op F size).xs (S.aa true op F size).F 0 1).toNat+(c-1)=c:=by
  show(S.addr (S.joined (S.nObjs op)) F 0 1).toNat+(c-1)=c
  rw[ha]
  show 1+(c-1)=c
  omega
 rw[e] at this;exact this
theorem Z28 {op:Int}(hop:S.isOp op){half:Int}(hh:1<=half/\half<=1000000){r:Int}{L:List Int}{P:List (ByteArray×Int)}(h:Zvq (S.nObjs op) 0 r L P) :
 r=0/\∃F a,S.az op F half a/\L=S.nL op F/\P.length<=1048576/\S.findP P S.kEnd=some (a+4)/\S.findP P S.kCall=some (a+1)/\S.findP P S.kAfter=some (a+3):=by
 have hw:=Zwu op;rcases h with⟨h1,h2,_⟩|⟨_,F,h1,h2,h3⟩
 .exact absurd (Zmx h2 (Z27 op)) h1
 by_cases hr:r=0
 rotate_left
 .exact absurd (Z6x hop (e:=r) (F:=F) (size:=100000000) h1 (λ h=>absurd h hr) (by decide)).1 hr
 subst hr;have hF:S.FormOk (S.joined (S.nObjs op)) F:=by
  rcases h1 with⟨h,_⟩|⟨h,_⟩|⟨_,_,h,_⟩
  .exact absurd rfl h
  .omega
  .exact h.1
 have hsm:S.addr (S.joined (S.nObjs op)) F 0 (S.joined (S.nObjs op)).length<=67108864:=by
  rcases h1 with⟨h,_⟩|⟨h,_⟩|⟨_,_,_,_,h5⟩
  .exact absurd rfl h
  .omega
  .exact h5
 obtain⟨-,hok,hle,hf0,hf3⟩:=Z6x hop (size:=S.addr (S.joined (S.nObjs op)) F 0 (S.joined (S.nObjs op)).length+2*half) h1 (λ _=>by omega) (by omega);obtain⟨a,hlab⟩:=Z47 (hok true) hf0 hf3;have htop:S.addr (S.joined (S.nObjs op)) F 0 (S.joined (S.nObjs op)).length=a+4:=hlab.top;rw[htop] at hok hlab hle;have hlen:((S.nL op F).length:Int)=a+4:=by
  have h5:((S.outTo (S.joined (S.nObjs op)) F 0 (S.joined (S.nObjs op)).length).length:Int)=S.addr (S.joined (S.nObjs op)) F 0 (S.joined (S.nObjs op)).length-0:=Zbk (base:=0) (Za0 (hok true)) (Zcs (Zcf (hok true))) (hok true).words (S.joined (S.nObjs op)).length;unfold S.nL;omega
 have hwd:∀x∈S.nL op F,0<=x/\x<=4294967295:=λ x hx=>Zjp (F:=F) (base:=0) hw (S.joined (S.nObjs op)).length x hx
 have ha0:=hlab.a0;obtain⟨I,hII⟩:=Yx (S.aa true op F (a+4+2*half));have hI:I.Ok:=by rw[hII];exact hok true
 have hcode:∀c,I.code c->1312<=c/\c<a+4:=λ c hc=>Zrp (hok true) hlab (by rw[hII] at hc;exact hc)
 obtain⟨L0,hL0⟩:=Yx (S.nL op F);have hatL:∀(i j:Nat)(v:Int),i<I.xs.length->(S.wordsAt I.xs I.F 0 i)[j]?=some v->L0[(I.adr i).toNat+j]?=some v:=λ i j v hi hj=>by
  rw[hII] at hi hj⊢;rw[hL0];exact Zu4 (Za0 (hok true)) (Zcs (Zcf (hok true))) (hok true).words hj _ hi
 have hlow:∀c:Nat,0<c->c<1312->L0[c]?=some 0:=λ c h0 h1=>by
  rw[hL0];exact Z48 (hok true) hf0 h0 h1
 have hfE:S.findP (S.nP op F) S.kEnd=some (a+4)/\S.findP (S.nP op F) S.kCall=some (a+1)/\S.findP (S.nP op F) S.kAfter=some (a+3):=by
  have q7:=Zmf (hok true) (j:=5+S.nMid.length+7) (x:=S.bL S.kEnd) (Zhi op 7) rfl;have q2:=Zmf (hok true) (j:=5+S.nMid.length+2) (x:=S.bL S.kCall) (Zhi op 2) rfl;have q5:=Zmf (hok true) (j:=5+S.nMid.length+5) (x:=S.bL S.kAfter) (Zhi op 5) rfl;have e7:(S.bL S.kEnd).label=S.kEnd:=rfl;have e2:(S.bL S.kCall).label=S.kCall:=rfl;have e5:(S.bL S.kAfter).label=S.kAfter:=rfl;rw[e7,hlab.end_] at q7;rw[e2,hlab.call] at q2;rw[e5,hlab.after] at q5;exact⟨q7,q2,q5⟩
 rw[if_pos rfl] at h2 h3;have hPl:(S.nP op F).length<=1048576:=Y8 (Zce (S.joined (S.nObjs op)) F 0 (S.joined (S.nObjs op)).length) (Zd0 op);have hwr:S.az op F half a:=by
  have e0:S.ag (S.nL op F) half=S.ag L0 half:=by rw[hL0]
  rw[<- hL0] at hlen hwd;obtain⟨m0,hm0⟩:=Yx (Zkk L0 (L0.length+2*half).toNat []);have hml:m0.mem.length=(L0.length+2*half).toNat:=by
   rw[hm0]
   show(L0++Ys ((L0.length+2*half).toNat-L0.length) 0).length=_
   rw[Yd,List.length_replicate];omega
  have hok0:m0.Ok:=by
   rw[hm0];exact Zuf (by omega) (by omega) hwd (λ x hx=>by cases hx)
  have hmv:∀c:Nat,c<L0.length->m0.mv c=L0.getD c 0:=λ c hc=>by
   rw[hm0]
   show(L0++Ys ((L0.length+2*half).toNat-L0.length) 0).getD (c:Int).toNat 0=_
   rw[Yah,Ye,Ym hc,Ye]
  have hmz:∀c:Nat,L0.length<=c->m0.mv c=0:=λ c hc=>by
   rw[hm0]
   show(L0++Ys ((L0.length+2*half).toNat-L0.length) 0).getD (c:Int).toNat 0=_
   rw[Yah,Ye,Yo hc,<- Ye];exact Zfx _ _
  have hin:I.In m0.mem:=by
   intro i h0 h1 j w hj;have hlt:i<I.xs.length:=Nat.lt_of_lt_of_le h1 hI.i1l;have h:=hatL i j w hlt hj;rw[hm0]
   show(L0++Ys _ 0).getD _ 0=w
   rw[Ye,Ym (Yg.1 h).1,h];rfl
  have hrd0:∀j,m0.rd j=0:=λ j=>by
   rw[hm0];exact Zfx 32 j.toNat
  have put1:∀(m:S.Mach)(i v:Int),(m.Ok/\(m.mem.length:Int)=a+4+2*half/\I.In m.mem/\m.state=0/\m.out=[]/\m.steps=0)->0<=i->i<1312->0<=v->v<=4294967295 ->
   ((m.putV i v).Ok/\((m.putV i v).mem.length:Int)=a+4+2*half/\I.In (m.putV i v).mem/\(m.putV i v).state=0/\(m.putV i v).out=[]/\(m.putV i v).steps=0)/\(∀c,0<=c->(m.putV i v).mv c=if c=i then v else m.mv c)/\∀j,(m.putV i v).rd j=m.rd j:=by
   rintro m i v ⟨k1,k2,k3,k4,k5,k6⟩ h0 h1 h2 h3;obtain⟨e1,e2,e3,e4,e5,e6,e7⟩:=Zgf m i v;refine⟨⟨Zw0 k1 ⟨h2,h3⟩,by rw[e7];exact k2,?_,e5.trans k4,e4.trans k5,e6.trans k6⟩,λ c hc=>Zwv h0 (by omega) hc,λ j=>Zww m i v j⟩;rw[Zqb h0 (by omega)];exact Zwz hI k3 h0 (λ hc=>by have:=hcode i hc;omega) v
  have s0:m0.Ok/\(m0.mem.length:Int)=a+4+2*half/\I.In m0.mem/\m0.state=0/\m0.out=[]/\m0.steps=0:=⟨hok0,by omega,hin,by rw[hm0];rfl,by rw[hm0];rfl,by rw[hm0];rfl⟩
  obtain⟨s1,v1,r1⟩:=put1 m0 1 (2*half) s0 (by decide) (by decide) (by omega) (by omega);obtain⟨s2,v2,r2⟩:=put1 _ 2 L0.length s1 (by decide) (by decide) (by omega) (by omega);obtain⟨s3,v3,r3⟩:=put1 _ 3 (L0.length+half) s2 (by decide) (by decide) (by omega) (by omega);obtain⟨s4,v4,r4⟩:=put1 _ 4 half s3 (by decide) (by decide) (by omega) (by omega);obtain⟨s5,v5,r5⟩:=put1 _ 5 38 s4 (by decide) (by decide) (by omega) (by omega);obtain⟨m5,hm5⟩:=Yx (((((m0.putV 1 (2*half)).putV 2 L0.length).putV 3 (L0.length+half)).putV 4 half).putV 5 38);rw[<- hm5] at s5 v5 r5;obtain⟨k1,k2,k3,k4,k5,k6⟩:=s5;have hM:S.ag L0 half=m5.setV 28 1056:=by
   rw[hm5,hm0];rfl
  have hset:m5.setV 28 1056={ m5 with reg:=m5.reg.set (28:Int).toNat 1056 }:=Zi8 (by decide) (by decide);have hrd5:∀j,m5.rd j=0:=λ j=>by rw[r5,r4,r3,r2,r1,hrd0]
  have hmv5:∀c,0<=c->m5.mv c=if c=5 then 38 else if c=4 then half else if c=3 then L0.length+half else if c=2 then(L0.length:Int) else if c=1 then 2*half else m0.mv c:=λ c hc=>by
   rw[v5 c hc,v4 c hc,v3 c hc,v2 c hc,v1 c hc]
  have hmvf:∀c,(m5.setV 28 1056).mv c=m5.mv c:=λ c=>Zwy (by decide) (by decide)
  have hokf:(m5.setV 28 1056).Ok:=by
   unfold S.Mach.setV;rw[if_pos ⟨by omega,by omega⟩];exact Zju k1 (by omega) ⟨by decide,by decide⟩
  rw[hII] at k3;refine⟨hok,hlab,by rw[<- hL0];exact hlen,by omega,by rw[<- hL0];exact hwd,?_,?_,?_,?_,?_,?_,?_,?_,?_,?_,?_,?_,?_,?_⟩
  all_goals rw[e0,hM]
  .exact hokf
  .rw[hset];exact k4
  .rw[hset];exact k2
  .rw[hset];exact k3
  .intro j
   rw[Zwx k1 (by decide) (by decide),hrd5]
  .rw[hmvf,hmv5 1 (by decide)];rfl
  .rw[hmvf,hmv5 2 (by decide)];show(L0.length:Int)=_;exact hlen
  .rw[hmvf,hmv5 3 (by decide)];show(L0.length:Int)+half=_;omega
  .rw[hmvf,hmv5 4 (by decide)];rfl
  .rw[hmvf,hmv5 5 (by decide)];rfl
  .intro c h0 h1
   obtain⟨n,rfl⟩:=Ya1 (show 0<=c from by omega);have h2:=hlow n (by omega) (by omega);rw[hmvf,hmv5 n (by omega),if_neg (by omega),if_neg (by omega),if_neg (by omega),if_neg (by omega),if_neg (by omega),hmv n (Yg.1 h2).1,Ye,h2];rfl
  .intro c h0
   obtain⟨n,rfl⟩:=Ya1 (show 0<=c from by omega);rw[hmvf,hmv5 n (by omega),if_neg (by omega),if_neg (by omega),if_neg (by omega),if_neg (by omega),if_neg (by omega)];exact hmz n (by omega)
  .rw[hset];exact k5
  .rw[hset];exact k6
 exact⟨rfl,F,a,hwr,h2,by rw[h3];exact hPl,by rw[h3];exact hfE⟩
section
namespace S
def dvB (b:Int):List Int->Int
 | []=>0
 | d::r=>d+b*dvB b r
def DgB (b:Int)(l:List Int):Prop:=∀d∈l,0<=d/\d<b
def Cn (b:Int)(l:List Int)(n:Int):Prop:=DgB b l/\(l=[]\/l.getD (l.length-1) 0≠0)/\dvB b l=n
def Nz (neg:Bool)(l:List Int)(z:Int):Prop:=Cn 10 l (if z<0 then -z else z)/\neg=decide (z<0)
def Wz (z:Int)(l:List Int):Prop :=
 (-536870912<=z/\z<536870912/\l=[u32m (4*z)]) \/
 ((z < -536870912\/536870912<=z)/\∃ds,Cn 65536 ds (if z<0 then -z else z)/\l=(32*((ds.length:Int)+1)+31)::(if z<0 then 4 else 0)::ds.map λ d=>4*d)
end S
section
variable {b:Int}
theorem Zas (hb:0<=b):∀{l:List Int},S.DgB b l->0<=S.dvB b l
 | [],_=>Y7 _
 | d::r,h=>by
  have h1:=h d Yu;have h2:=Zas hb (l:=r) λ x hx=>h x (Yw _ hx)
  have:=Int.mul_nonneg hb h2;rw[S.dvB];omega
theorem Zjq:∀(x y:List Int),S.dvB b (x++y)=S.dvB b x+b^x.length*S.dvB b y
 | [],y=>by show S.dvB b y=0+b^0*S.dvB b y;simp
 | d::r,y=>by
  have h:=Zjq r y
  show d+b*S.dvB b (r++y)=d+b*S.dvB b r+b^(r.length+1)*S.dvB b y
  rw[h,Int.pow_succ];generalize b^r.length=B
  grind
theorem Zrq (x:List Int)(d:Int):S.dvB b (x++[d])=S.dvB b x+b^x.length*d:=by
 rw[Zjq]
 show _+_*(d+b*0)=_
 rw[Int.mul_zero,Ybj]
theorem Zh0:∀{l:List Int},(∀j:Nat,l.getD j 0=0)->S.dvB b l=0
 | [],_=>rfl
 | d::r,h=>by
  have h0:d=0:=h 0;have:=Zh0 (l:=r) λ j=>h (j+1)
  rw[S.dvB,this,h0];simp
theorem Ze0 (hb:0<b):∀{l:List Int},S.DgB b l->S.dvB b l<b^l.length
 | [],_=>by show(0:Int)<b^0;simp
 | d::r,h=>by
  have h1:=h d Yu;have h2:=Ze0 hb (l:=r) λ x hx=>h x (Yw _ hx)
  have h3:=Int.mul_le_mul_of_nonneg_left (show S.dvB b r+1<=b^r.length by omega) (Ya3 hb);have e:b*(S.dvB b r+1)=b*S.dvB b r+b:=by grind
  have e2:b*b^r.length=b^(r.length+1):=by rw[Int.pow_succ,Int.mul_comm]
  rw[S.dvB,List.length_cons];omega
theorem Zmg {l:List Int}(h:S.DgB b l)(n:Nat):S.DgB b (l.take n):=λ d hd=>h d (List.mem_of_mem_take hd)
theorem Zfa (hb:0<b){l:List Int}(h:S.DgB b l)(j:Nat):0<=l.getD j 0/\l.getD j 0<b:=by
 rw[Ye]
 cases hq:l[j]? with
 | none=>exact⟨Y7 _,hb⟩
 | some x=>exact h x (Y1 hq)
theorem Zzn {l:List Int}{n:Nat}(h:S.Top l n):S.dvB b (l.take n)=S.dvB b l:=by
 have e:S.dvB b l=S.dvB b (l.take n++l.drop n):=by rw[Yay]
 rw[e,Zjq,Zh0 (l:=l.drop n) λ j=>by rw[Zeh];exact h.2.1 _ (by omega),Int.mul_zero,Ybj]
theorem Zjr {l:List Int}{n:Nat}(hd:S.DgB b l)(h:S.Top l n):S.Cn b (l.take n) (S.dvB b l):=by
 have hl:(l.take n).length=n:=by rw[Yq];have:=h.1;omega
 refine⟨Zmg hd n,?_,Zzn h⟩;rcases h.2.2 with e|e
 .exact .inl (by rw[e];rfl)
 .by_cases c:n=0
  .exact .inl (by rw[c];rfl)
  .exact .inr (by rw[hl,Zaq (by omega)];exact e)
theorem Zzo (hb:2<=b){l:List Int}{n:Int}(h:S.Cn b l n)(hl:0<l.length):b^(l.length-1)<=n:=by
 obtain⟨h1,h2,h3⟩:=h;have hne:=h2.resolve_left (λ e=>by rw[e] at hl;exact absurd hl (by decide));have e:l=l.take (l.length-1)++l.drop (l.length-1):=(Yay _ _).symm;have hd:l.drop (l.length-1)=[l.getD (l.length-1) 0]:=by
  have h4:l.length-1<l.length:=by omega
  rw[List.drop_eq_getElem_cons h4,List.drop_eq_nil_of_le (by omega),Ye,Yf h4];rfl
 have hlt:(l.take (l.length-1)).length=l.length-1:=by rw[Yq];omega
 have h5:S.dvB b l=S.dvB b (l.take (l.length-1))+b^(l.length-1)*l.getD (l.length-1) 0:=by
  conv=>lhs;rw[e,hd,Zrq,hlt]
 have h6:=Zas (show 0<=b by omega) (Zmg h1 (l.length-1));have h7:=(Zfa (show 0<b by omega) h1 (l.length-1)).1;have hp:0<b^(l.length-1):=Yar (by omega);have h8:=Int.mul_le_mul_of_nonneg_left (show 1<=l.getD (l.length-1) 0 by omega) (Ya3 hp);omega
theorem Z49 (hb:2<=b){l:List Int}{n:Int}(h:S.Cn b l n):n<b^l.length:=by
 rw[<- h.2.2];exact Ze0 (by omega) h.1
theorem Zbb (hb:1<=b){i j:Nat}(h:i<=j):b^i<=b^j:=by
 obtain⟨c,rfl⟩:=Nat.le.dest h;rw[Int.pow_add];have h1:(0:Int)<b^i:=Yar (by omega);have h2:(0:Int)<b^c:=Yar (by omega);have:=Int.mul_le_mul_of_nonneg_left (show 1<=b^c by omega) (Ya3 h1);omega
theorem Zh1 (hb:2<=b){l l':List Int}{n n':Int}(h:S.Cn b l n)(h':S.Cn b l' n')(hl:l.length<l'.length):n<n':=by
 have h1:=Z49 hb h;have h2:=Zzo hb h' (by omega);have h3:=Zbb (b:=b) (by omega) (show l.length<=l'.length-1 by omega);omega
theorem Zgl (hb:0<b):∀(k:Nat) {x y:List Int},S.DgB b x->S.DgB b y->(∀j:Nat,k<j->x.getD j 0=y.getD j 0)->x.getD k 0<y.getD k 0->S.dvB b x<S.dvB b y:=by
 have ext:∀{x y:List Int},(∀j:Nat,x.getD j 0=y.getD j 0)->S.dvB b x=S.dvB b y:=by
  intro x
  induction x with
  | nil=>intro y h;exact(Zh0 λ j=>(h j).symm).symm
  | cons d r ih =>
   intro y h
   cases y with
   | nil=>exact Zh0 h
   | cons e s =>
    have h0:d=e:=h 0;have:=ih (y:=s) λ j=>h (j+1)
    rw[S.dvB,S.dvB,this,h0]
 have head:∀x:List Int,S.dvB b x=x.getD 0 0+b*S.dvB b x.tail:=λ x=>by
  cases x with
  | nil=>show(0:Int)=0+b*0;simp
  | cons d r=>rfl
 have tl:∀{x:List Int},S.DgB b x->S.DgB b x.tail:=λ h d hd=>h d (List.mem_of_mem_tail hd)
 intro k
 induction k with
 | zero =>
  intro x y hx hy h hlt;have:=ext (x:=x.tail) (y:=y.tail) λ j=>by rw[Zaz,Zaz];exact h (j+1) (by omega)
  rw[head x,head y,this];omega
 | succ k ih =>
  intro x y hx hy h hlt;have h1:=ih (tl hx) (tl hy) (λ j hj=>by rw[Zaz,Zaz];exact h (j+1) (by omega)) (by rw[Zaz,Zaz];exact hlt);have b1:=Zfa hb hx 0;have b2:=Zfa hb hy 0;have h2:=Int.mul_le_mul_of_nonneg_left (show S.dvB b x.tail+1<=S.dvB b y.tail by omega) (Ya3 hb);have e:b*(S.dvB b x.tail+1)=b*S.dvB b x.tail+b:=by grind
  rw[head x,head y];omega
theorem Z5a (hb:2<=b){l l':List Int}{n:Int}(h:S.Cn b l n)(h':S.Cn b l' n):l=l':=by
 have hl:l.length=l'.length:=by
  refine Y_c λ c=>?_
  rcases Nat.lt_or_gt_of_ne c with q|q
  .have:=Zh1 hb h h' q;omega
  .have:=Zh1 hb h' h q;omega
 have key:∀j:Nat,l.getD j 0=l'.getD j 0:=by
  refine λ j=>Y_c λ c=>?_
  have hm:∀m:Nat,(∀j,m<=j->l.getD j 0=l'.getD j 0)->False:=by
   intro m
   induction m with
   | zero=>exact λ q=>c (q j (Yag _))
   | succ m ih =>
    intro q;by_cases e:l.getD m 0=l'.getD m 0
    .exact ih λ j hj=>if ej:j=m then by rw[ej];exact e else q j (by omega)
    .rcases Int.lt_or_gt_of_ne e with q2|q2
     .have:=Zgl (show 0<b by omega) m h.1 h'.1 (λ j hj=>q j (by omega)) q2
      rw[h.2.2,h'.2.2] at this;omega
     .have:=Zgl (show 0<b by omega) m h'.1 h.1 (λ j hj=>(q j (by omega)).symm) q2
      rw[h.2.2,h'.2.2] at this;omega
  refine hm l.length λ j hj=>?_
  rw[Ye,List.getElem?_eq_none hj,Ye,List.getElem?_eq_none (by omega)]
 refine Ybw hl λ i h1 h2=>?_
 have:=key i;rw[Ye,Yf h1,Ye,Yf h2] at this;exact this
end
theorem Zxd:∀l:List Int,S.dval l=S.dvB 65536 l
 | []=>rfl
 | d::r=>by rw[S.dval,S.dvB,Zxd r]
theorem Zxe {z:Int}{l l':List Int}(h:S.Wz z l)(h':S.Wz z l'):l=l':=by
 rcases h with⟨a1,a2,a3⟩|⟨a1,ds,a2,a3⟩ <;> rcases h' with⟨b1,b2,b3⟩|⟨b1,ds',b2,b3⟩
 .rw[a3,b3]
 .omega
 .omega
 .rw[a3,b3,Z5a (by decide) a2 b2]
end
theorem Z0r (A:Option Addr)(N c:Nat)(l:List Int)(hN:N=l.length)(w:World)(B:Nat)(h:Ints w B A l)(hl:N<=1000000)(hA:A=none->N=0)(hc:N<=c) :
 Calls Tryz.prog 90 #[.slice A N c] w λ e w'=>∃m n,S.Top l m/\e=.returned (.slice A m c)/\w'=w.drewN n:=by
 have HN:=Ya hN;have H:=Ya h;clear hN h;go_enter Tryz.func90,Tryz.ntmps90
 go_wp2_with fail
 go_loopw [3] (λ i wr=>∃k n:Nat,k<=N/\i=.int .i64 k/\Hid (∀j,k<=j->l.getD j 0=0)/\wr=w.drewN n) (λ i _=>(intOf i).toNat)
 case atStart=>exact⟨N,0,Yb _,rfl,Ya λ j hj=>by rw[Ye,List.getElem?_eq_none (by rw[<- HN.out];exact hj)];rfl,rfl⟩
 case round =>
  obtain⟨k,n,hk,rfl,hz,rfl⟩:=hrel;by_cases c0:k=0
  .subst c0
   have Hend:=Ya (show S.Top l 0 from⟨Yag _,hz.out,.inl rfl⟩);go_wp2_with fail
   go_ret
   exact⟨0,_,Hend.out,rfl,rfl⟩
  .obtain⟨q,rfl⟩:∃q,k=q+1:=⟨k-1,by omega⟩
   obtain⟨b,off,hAe,hbB,hc1⟩:=H.out.at_ (k:=q) (by rw[<- HN.out];omega);obtain⟨x,hx⟩:=Yx (l.getD q 0);rw[<- hx] at hc1;have Hx:=Ya hx;have e2:IntKind.i64.wrap (((q+1:Nat):Int)-1)=(q:Int):=by rw[Yk _ (by omega)];omega
   have e3:IntKind.i64.wrap (q:Int)=(q:Int):=by rw[Yk _ (by omega)]
   have i1:((q+1:Nat):Int)<=(N:Int):=by omega
   have i3:(q:Int)<(N:Int):=by omega
   have i4:(0:Int)<=(q:Int):=by omega
   have d0:decide ((0:Int)<((q+1:Nat):Int))=true:=by simp
   subst hAe;clear hx;by_cases hx0:x=0
   .have ex:(x==0)=true:=by simp[hx0]
    have Hx0:=Ya hx0;clear hx0;go_wp2_with fail
    go_roundw
    case rel =>
     refine⟨q,_,by omega,by go_num,Ya λ j hj=>?_,rfl⟩;by_cases cj:j=q
     .rw[cj,<- Hx.out];exact Hx0.out
     .exact hz.out j (by omega)
    case measure=>simp[intOf] <;> omega
   .have ex:(x==0)=false:=by simp[hx0]
    have Hend:=Ya (show S.Top l (q+1) from⟨by rw[<- HN.out];exact hk,hz.out,.inr (by rw[Nat.add_sub_cancel,<- Hx.out];exact hx0)⟩);clear hx0;go_wp2_with fail
    go_ret
    exact⟨q+1,_,Hend.out,rfl,rfl⟩
def Ze1 (neg:Bool)(A:Option Addr)(n c:Nat):Value:=.agg #[.bool neg,.slice A n c]
theorem Zxf (neg:Bool)(A:Option Addr)(N c:Nat)(l:List Int)(hN:N=l.length)(w:World)(B:Nat)(h:Ints w B A l)(hB:B<=w.heap.size)(hl:N<=1000000)(hA:A=none->N=0)(hc:N<=c) :
 Calls Tryz.prog 32 #[.bool neg,.slice A N c] w λ e w'=>∃m,S.Top l m/\e=.returned (Ze1 (neg && decide (0<m)) A m c)/\Below w.heap.size w w':=by
 have HN:=Ya hN;have H:=Ya h;clear hN h;go_enter Tryz.func32,Tryz.ntmps32
 go_wp2_with fail
 refine(Z0r A N c l HN.out _ B ?_ hl hA hc).mono ?_
 .exact H.out.below ((Yh _ _).alloc hB _)
 rintro e w2 ⟨m,n,hm,rfl,rfl⟩;have Hm:=Ya hm;clear hm
 cases neg with
 | false =>
  go_wp2_with fail
  refine bodyPost_ret (v:=Ze1 (false && decide (0<m)) A m c) (by simp[results,Tryz.results32,go_sem,Ze1]) rfl ?_;refine⟨m,Hm.out,rfl,?_⟩;exact((below_drewN ((Yh _ _).alloc (Yb _) _) n).setCell (Yb _) _).setCell (Yb _) _
 | true =>
  have hd:decide ((m:Int)>0)=decide (0<m):=by simp
  go_wp2_with fail
  refine bodyPost_ret (v:=Ze1 (true && decide (0<m)) A m c) (by simp[results,Tryz.results32,go_sem,Ze1]) rfl ?_;refine⟨m,Hm.out,rfl,?_⟩;exact((below_drewN ((Yh _ _).alloc (Yb _) _) n).setCell (Yb _) _).setCell (Yb _) _
def S.ab (x y:Int):Int:=if x<y then -1 else if x=y then 0 else 1
theorem Zxg (A A':Option Addr)(N c N' c':Nat)(l l':List Int)(x y:Int)(hN:N=l.length)(hN':N'=l'.length)(w:World)(B:Nat)(h:Ints w B A l)(h':Ints w B A' l')(hl:N<=1000000)(hl':N'<=1000000)(hx:S.Cn 10 l x)(hy:S.Cn 10 l' y) :
 Calls Tryz.prog 111 #[.slice A N c,.slice A' N' c'] w λ e w'=>e=.returned (.int .i64 (S.ab x y))/\Below w.heap.size w w':=by
 have HN:=Ya hN;have HN':=Ya hN';have H:=Ya h;have H':=Ya h';have Hx:=Ya hx;have Hy:=Ya hy;clear h h' hx hy;by_cases c1:N=N'
 .subst c1
  clear hN hN';have hne:((N:Int) != (N:Int))=false:=by simp
  have wr0:IntKind.i64.wrap ((N:Int)-1)=(N:Int)-1:=by rw[Yk _ (by omega)]
  go_enter Tryz.func111,Tryz.ntmps111
  go_wp2_with fail
  go_loopw [5] (λ i wr=>∃k:Int,-1<=k/\k<N/\i=.int .i64 k/\Hid (∀j:Nat,k<j->l.getD j 0=l'.getD j 0)/\∃n,wr=w.drewN n) (λ i _=>(intOf i+1).toNat)
  case atStart=>exact⟨(N:Int)-1,by omega,by omega,rfl,Ya λ j hj=>by rw[Ye,List.getElem?_eq_none (by rw[<- HN.out];omega),Ye,List.getElem?_eq_none (by rw[<- HN'.out];omega)],0,rfl⟩
  case round =>
   obtain⟨k,hk0,hk1,rfl,hz,n,rfl⟩:=hrel;by_cases c0:0<=k
   .obtain⟨q,rfl⟩:=Ya1 c0
    have hq:q<N:=by omega
    obtain⟨b,off,hAe,hbB,hc1⟩:=H.out.at_ (k:=q) (by rw[<- HN.out];exact hq);obtain⟨b',off',hAe',hbB',hc1'⟩:=H'.out.at_ (k:=q) (by rw[<- HN'.out];exact hq);obtain⟨u,hu⟩:∃x,x=l.getD q 0:=⟨_,rfl⟩
    obtain⟨v,hv⟩:∃x,x=l'.getD q 0:=⟨_,rfl⟩
    rw[<- hu] at hc1;rw[<- hv] at hc1';have Hu:=Ya hu;have Hv:=Ya hv;have e2:IntKind.i64.wrap ((q:Int)-1)=(q:Int)-1:=by rw[Yk _ (by omega)]
    have e3:IntKind.i64.wrap (q:Int)=(q:Int):=by rw[Yk _ (by omega)]
    have i3:(q:Int)<(N:Int):=by omega
    have i4:(0:Int)<=(q:Int):=by omega
    subst hAe hAe';clear hu hv;by_cases cu:u=v
    .have en:(u != v)=false:=by simp[cu]
     have Cu:=Ya cu;clear cu;go_wp2_with fail
     go_quiet (fail)
     go_wp2_with fail
     go_roundw
     case rel =>
      refine⟨(q:Int)-1,by omega,by omega,by go_num,Ya λ j hj=>?_,_,rfl⟩;by_cases cj:j=q
      .rw[cj,<- Hu.out,<- Hv.out];exact Cu.out
      .exact hz.out j (by omega)
     case measure=>simp[intOf] <;> omega
    .have en:(u != v)=true:=by simp[cu]
     by_cases cl:u<v
     .have el:decide (u<v)=true:=by simp[cl]
      have Hr:=Ya (show S.ab x y=-1 by
       have:=Zgl (show(0:Int)<10 by decide) q Hx.out.1 Hy.out.1 (λ j hj=>hz.out j (by omega)) (by rw[<- Hu.out,<- Hv.out];exact cl);rw[Hx.out.2.2,Hy.out.2.2] at this;unfold S.ab;rw[if_pos this])
      clear cu cl;go_wp2_with fail
      go_quiet (fail)
      go_wp2_with fail
      go_quiet (fail)
      go_wp2_with fail
      go_ret
      exact⟨by rw[Hr.out];rfl,by repeat (first|exact Yh _ _|refine below_drewN ?_ _)⟩
     .have el:decide (u<v)=false:=by simp[cl]
      have Hr:=Ya (show S.ab x y=1 by
       have:=Zgl (show(0:Int)<10 by decide) q Hy.out.1 Hx.out.1 (λ j hj=>(hz.out j (by omega)).symm) (by rw[<- Hu.out,<- Hv.out];omega);rw[Hx.out.2.2,Hy.out.2.2] at this;unfold S.ab;rw[if_neg (by omega),if_neg (by omega)])
      clear cu cl;go_wp2_with fail
      go_quiet (fail)
      go_wp2_with fail
      go_quiet (fail)
      go_wp2_with fail
      go_ret
      exact⟨by rw[Hr.out];rfl,by repeat (first|exact Yh _ _|refine below_drewN ?_ _)⟩
   .have ek:k=-1:=by omega
    subst ek;have Hr:=Ya (show S.ab x y=0 by
     have he:l=l':=by
      refine Ybw (by rw[<- HN.out];exact HN'.out) λ i h1 h2=>?_
      have:=hz.out i (by omega);rw[Ye,Yf h1,Ye,Yf h2] at this;exact this
     have hxy:x=y:=by rw[<- Hx.out.2.2,<- Hy.out.2.2,he]
     unfold S.ab;rw[if_neg (by omega),if_pos hxy])
    go_wp2_with fail
    go_ret
    exact⟨by rw[Hr.out];rfl,by repeat (first|exact Yh _ _|refine below_drewN ?_ _)⟩
 .have hne:((N:Int) != (N':Int))=true:=by simp;omega
  by_cases cl:N<N'
  .have el:decide ((N:Int)<(N':Int))=true:=by simp;omega
   have el2:decide (N<N')=true:=by simp;omega
   have Hr:=Ya (show S.ab x y=-1 by
    have:=Zh1 (by decide) Hx.out Hy.out (by rw[<- HN.out,<- HN'.out];exact cl);unfold S.ab;rw[if_pos this])
   clear c1 cl hN hN';go_enter Tryz.func111,Tryz.ntmps111
   go_wp2_with fail
   go_ret
   exact⟨by rw[Hr.out];rfl,Yh _ _⟩
  .have el:decide ((N:Int)<(N':Int))=false:=by simp;omega
   have el2:decide (N<N')=false:=by simp;omega
   have Hr:=Ya (show S.ab x y=1 by
    have:=Zh1 (by decide) Hy.out Hx.out (by rw[<- HN.out,<- HN'.out];omega);unfold S.ab;rw[if_neg (by omega),if_neg (by omega)])
   clear c1 cl hN hN';go_enter Tryz.func111,Tryz.ntmps111
   go_wp2_with fail
   go_ret
   exact⟨by rw[Hr.out];rfl,Yh _ _⟩
theorem Zb6 {B:Nat}{w:World}(hB:B<=w.heap.size)(o o':Obj):Below B w ((w.alloc o).alloc o'):=((Yh B w).alloc hB o).alloc (Y8 hB ((Yh B w).alloc hB o).size) o'
theorem Zca {B:Nat}{w w1 w2:World}(h:Below B w w1)(k:Below w1.heap.size w1 w2)(hB:B<=w1.heap.size):Below B w w2:=h.trans (k.mono hB)
structure NumW (w:World)(B:Nat)(z:Int)(neg:Bool)(A:Option Addr)(N c:Nat)(l:List Int):Prop where
 z:S.Nz neg l z
 len:N=l.length
 few:N<=1000000
 at_:Ints w B A l
 nil:A=none->N=0
 cap:N<=c
theorem NumW.below {w w':World}{B:Nat}{z:Int}{neg:Bool}{A:Option Addr}{N c:Nat}{l:List Int}(h:NumW w B z neg A N c l)(hb:Below B w w'):NumW w' B z neg A N c l:=⟨h.z,h.len,h.few,h.at_.below hb,h.nil,h.cap⟩
theorem NumW.more {w:World}{B B':Nat}{z:Int}{neg:Bool}{A:Option Addr}{N c:Nat}{l:List Int}(h:NumW w B z neg A N c l)(hB:B<=B'):NumW w B' z neg A N c l:=⟨h.z,h.len,h.few,h.at_.more hB,h.nil,h.cap⟩
theorem Z5b (neg neg':Bool)(A A':Option Addr)(N c N' c':Nat)(l l':List Int)(z z':Int)(w:World)(B:Nat)(hB:B<=w.heap.size)(h:NumW w B z neg A N c l)(h':NumW w B z' neg' A' N' c' l') :
 Calls Tryz.prog 44 #[Ze1 neg A N c,Ze1 neg' A' N' c'] w λ e w'=>e=.returned (.int .i64 (S.ab z z'))/\Below w.heap.size w w':=by
 have H:=Ya h;have H':=Ya h';obtain⟨⟨hx,hs⟩,hN,hf,hat,_,_⟩:=h;obtain⟨⟨hx',hs'⟩,hN',hf',hat',_,_⟩:=h';unfold Ze1;go_enter Tryz.func44,Tryz.ntmps44
 clear hat hat' hx hx' hN hN' hf hf'
 cases neg <;> cases neg'
 .have Hr:=Ya (show S.ab (if z<0 then -z else z) (if z'<0 then -z' else z')=S.ab z z' by
   have h1:=of_decide_eq_false hs.symm;have h2:=of_decide_eq_false hs'.symm;rw[if_neg h1,if_neg h2])
  clear hs hs';go_wp2_with fail
  refine(Zxg A A' N c N' c' l l' _ _ H.out.len H'.out.len _ B ?_ ?_ H.out.few H'.out.few H.out.z.1 H'.out.z.1).mono ?_
  .exact H.out.at_.below (Zb6 hB _ _)
  .exact H'.out.at_.below (Zb6 hB _ _)
  rintro e w2 ⟨rfl,hb⟩;rw[Hr.out];go_wp2_with fail
  go_ret
  exact⟨rfl,Zca (Zb6 (Yb _) _ _) hb (Zb6 (Yb _) _ _).size⟩
 .have Hr:=Ya (show S.ab z z'=1 by
   have h1:=of_decide_eq_false hs.symm;have h2:=of_decide_eq_true hs'.symm;unfold S.ab;rw[if_neg (by omega),if_neg (by omega)])
  clear hs hs';go_wp2_with fail
  go_ret
  exact⟨by rw[Hr.out];rfl,Zb6 (Yb _) _ _⟩
 .have Hr:=Ya (show S.ab z z'=-1 by
   have h1:=of_decide_eq_true hs.symm;have h2:=of_decide_eq_false hs'.symm;unfold S.ab;rw[if_pos (by omega)])
  clear hs hs';go_wp2_with fail
  go_ret
  exact⟨by rw[Hr.out];rfl,Zb6 (Yb _) _ _⟩
 .have Hr:=Ya (show S.ab (if z'<0 then -z' else z') (if z<0 then -z else z)=S.ab z z' by
   have h1:=of_decide_eq_true hs.symm;have h2:=of_decide_eq_true hs'.symm;rw[if_pos h2,if_pos h1];unfold S.ab
   split <;> (try split) <;> omega)
  clear hs hs';go_wp2_with fail
  refine(Zxg A' A N' c' N c l' l _ _ H'.out.len H.out.len _ B ?_ ?_ H'.out.few H.out.few H'.out.z.1 H.out.z.1).mono ?_
  .exact H'.out.at_.below (Zb6 hB _ _)
  .exact H.out.at_.below (Zb6 hB _ _)
  rintro e w2 ⟨rfl,hb⟩;rw[Hr.out];go_wp2_with fail
  go_ret
  exact⟨rfl,Zca (Zb6 (Yb _) _ _) hb (Zb6 (Yb _) _ _).size⟩
