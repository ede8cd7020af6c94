/- Parts. -/
import Derived.Test.YtfhiobkkdcdmiaaGreatDoorZKIs
import Derived.Lib.AppendZeros
import Derived.Laws.ResultCell
set_option linter.all false
set_option maxHeartbeats 4000000
open Go.Lib renaming hid->Ya,cell_of_heap->Yc,frozen_of_heap->Yan
open Nat renaming le_refl->Yb,le_trans->Y8,zero_le->Yag,le_of_lt->Ya8
open List renaming length_append->Yd,getD_eq_getElem?_getD->Ye,getElem?_eq_getElem->Yf,getElem?_eq_some_iff->Yg,length_cons->Yi,getElem?_append_left->Ym,getElem?_append_right->Yo,mem_cons_self->Yu,mem_cons_of_mem->Yw,mem_cons->Yz,mem_append->Y0,getElem?_map->Y3,eq_nil_of_length_eq_zero->Y5,mem_singleton->Yab,length_map->Yac,map_append->Yau,take_add_one->Ya4,getElem_mem->Ya7,map_cons->Ybz
open Go.IntWalk renaming i64_in->Yk
open Array renaming getElem?_eq_some_iff->Yv
open Go.Value renaming slice->Ybr,string->Ycp
namespace Go.Proofs.YtfhiobkkdcdmiaaGreatDoor
open Go.RowKit
set_option maxRecDepth 100000
def S.am (z:Int)(m:S.Mach)(next v:Int)(m':S.Mach)(next':Int):Prop:=∃ws,S.Wz z ws/\ws.length<=1002/\S.LaidW m next ws v m' next'
def Zu9 (w:World)(lo b p:Nat)(F:Nat->Prop)(first half after next:Int)(m:S.Mach)(R:S.Mach->Int->Int->S.Mach->Int->Prop)(e:Ending)(w':World):Prop :=
 ∃(v:Int)(m':S.Mach)(next':Int),e=.returned (.int .u32 v)/\R m next v m' next'/\(0<=v/\v<=4294967295)/\(next<=next'/\next'<=next+1002)/\(m'.out=m.out/\m'.steps=m.steps)/\NAt w' lo b p F first half after next' m'/\Below lo w w'
def Znp (cb:Nat)(o:Obj)(lo:Nat)(w:World):Prop:=cb<lo/\w.heap[cb]?=some o
theorem Znq {cb:Nat}{o:Obj}(lo:Nat)(w w':World)(h:Znp cb o lo w)(hb:Below lo w w'):Znp cb o lo w':=⟨h.1,(hb.block cb h.1).trans h.2⟩
structure Zf5 (fn cb:Nat)(K:Nat->World->Prop)(R:S.Mach->Int->Int->S.Mach->Int->Prop):Prop where
 enter:∀(args:Array Value)(w:World),(callFunc fn args).run Tryz.prog w=.ok (.enter fn args) w
 keep:∀(lo:Nat)(w w':World),K lo w->Below lo w w'->K lo w'
 out:∀(w:World)(lo b p:Nat)(F:Nat->Prop)(first half after next:Int)(m:S.Mach),K lo w->NAt w lo b p F first half after next m->0<=next->next<=300000000->Calls Tryz.prog fn #[.pointer (some ⟨b,0,none⟩),.pointer (some ⟨cb,0,none⟩)] w (Zu9 w lo b p F first half after next m R)
theorem Zlz {z:Int}{ws:List Int}{m m':S.Mach}{next next' v:Int}(hz:S.Wz z ws)(hl:ws.length<=1002)(h:S.LaidW m next ws v m' next')(h0:0<=next/\next<=300000000):(0<=v/\v<=4294967295)/\(next<=next'/\next'<=next+1002):=by
 rcases h with⟨h1,rfl,_,rfl⟩|⟨_,rfl,_,rfl⟩
 .have hx:=Ziu hz hl (ws.getD 0 0) (by rw[Ye,Yf (by omega)];exact Ya7 _)
  omega
 .omega
theorem Zkq:∀(l:List Int)(m:S.Mach)(a:Int),(S.putAt m a l).out=m.out/\(S.putAt m a l).steps=m.steps
 | [],m,a=>⟨rfl,rfl⟩
 | y::r,m,a=>by
  obtain⟨h1,h2⟩:=Zkq r (m.putV a y) (a+1);obtain⟨_,_,_,e4,_,e6,_⟩:=Zgf m a y;exact⟨h1.trans e4,h2.trans e6⟩
theorem Znr {ws:List Int}{m m':S.Mach}{next next' v:Int}(h:S.LaidW m next ws v m' next'):m'.out=m.out/\m'.steps=m.steps:=by
 rcases h with⟨_,_,rfl,_⟩|⟨_,_,rfl,_⟩
 .exact⟨rfl,rfl⟩
 .exact Zkq _ _ _
theorem Zcl (s:ByteArray)(q:Nat)(neg:Bool)(l:List Int)(ht:S.Tz s q neg l)(hs:s.size<=1000000)(hz:(if S.tz neg l<0 then -S.tz neg l else S.tz neg l)<S.bd)(cb:Nat):Zf5 52 cb (Znp cb (.cells #[.string s] 9 (0,0))) (S.am (S.tz neg l)):=by
 refine⟨λ args w=>rfl,Znq,?_⟩;intro w lo b p F first half after next m hb hw n0 n1
 have HT:=Ya ht;have HZ:=Ya hz;have HW:=Ya hw;have hc:w.cell? ⟨cb,0,none⟩=some (.string s):=by rw[Yc hb.2];rfl
 clear ht hz hw hb;go_enter Tryz.func52,Tryz.ntmps52
 go_wp2_with fail
 refine(Z58 s q neg l HT.out hs w).mono ?_;rintro e w1 ⟨neg1,A1,m1,c1,l1,rfl,hn1,hb1⟩;have HN:=Ya hn1;have HB:=Ya hb1;clear hn1 hb1;go_wp2_with fail
 refine(Z57 neg1 A1 m1 c1 l1 (S.tz neg l) w1.heap.size (Yb _) HN.out HZ.out (HW.out.below HB.out) ⟨n0,n1⟩).mono ?_;rintro e w2 ⟨ws,v,m',next',rfl,h1,h2,h3,h4,h5⟩;have H5:=Ya h5;have H3:=Ya h3;have H1:=Ya h1;have H4:=Ya h4;clear h1 h3 h4 h5;go_wp2_with fail
 go_ret
 obtain⟨k1,k2⟩:=Zlz H1.out h2 H3.out ⟨n0,n1⟩;exact⟨v,m',next',rfl,⟨ws,H1.out,h2,H3.out⟩,k1,k2,Znr H3.out,H4.out,(HB.out.mono HW.out.lolt).trans H5.out⟩
theorem Zfi (s:ByteArray)(w:World):Calls Tryz.prog 24 #[.string s] w λ e w'=>e=.returned (.func (.func 52) #[] #[.pointer (some ⟨w.heap.size,0,none⟩)])/\w'=w.alloc (.cells #[.string s] 9 (0,0)):=by
 have hmf:=Y_f
 go_enter Tryz.func24,Tryz.ntmps24
 go_wp2_with fail
 go_ret
 exact⟨rfl,rfl⟩
section
attribute [local irreducible] S.ag S.nL S.nMid
theorem Zq4 {I:S.Img}(hI:I.Ok){size top:Int}(hc:∀c,I.code c->c<top):∀(l:List Int)(m:S.Mach)(n:Int),m.Ok->(m.mem.length:Int)=size->I.In m.mem->(∀x∈l,0<=x/\x<=4294967295)->top<=n->0<=n->n+l.length<=size ->
 (S.putAt m n l).Ok/\((S.putAt m n l).mem.length:Int)=size/\I.In (S.putAt m n l).mem/\(S.putAt m n l).state=m.state/\(S.putAt m n l).place=m.place/\(∀j,(S.putAt m n l).rd j=m.rd j)/\∀c,0<=c->(S.putAt m n l).mv c=if n<=c/\c<n+l.length then l.getD (c-n).toNat 0 else m.mv c
 | [],m,n,h1,h2,h3,_,_,_,_=>⟨h1,h2,h3,rfl,rfl,λ _=>rfl,λ c _=>by
  rw[if_neg (by simp only[List.length_nil];omega)];rfl⟩
 | y::r,m,n,h1,h2,h3,hw,ht,h0,hs=>by
  rw[Yi] at hs;have hy:=hw y Yu;obtain⟨e1,e2,e3,e4,e5,e6,e7⟩:=Zgf m n y;have k3:I.In (m.putV n y).mem:=by
   rw[Zqb h0 (by omega)];exact Zwz hI h3 h0 (λ h=>by have:=hc n h;omega) y
  obtain⟨q1,q2,q3,q4,q5,q6,q7⟩:=Zq4 (size:=size) hI hc r (m.putV n y) (n+1) (Zw0 h1 hy) (by rw[e7];exact h2) k3 (λ x hx=>hw x (Yw _ hx)) (by omega) (by omega) (by omega);refine⟨q1,q2,q3,q4.trans e5,q5.trans e2,λ j=>(q6 j).trans (Zww m n y j),λ c hc0=>?_⟩
  show(S.putAt (m.putV n y) (n+1) r).mv c=_
  rw[q7 c hc0,Zwv h0 (by omega) hc0,Yi];by_cases c1:c=n
  .rw[if_neg (by omega),if_pos c1,if_pos (by omega),show(c-n).toNat=0 by omega]
   rfl
  .by_cases c2:n+1<=c/\c<n+1+r.length
   .rw[if_pos c2,if_pos (by omega),show(c-n).toNat=(c-(n+1)).toNat+1 by omega]
    rfl
   .rw[if_neg c2,if_neg c1,if_neg (by omega)]
structure S.b6 (op:Int)(F:List Int)(half a s g:Int)(m:S.Mach)(n:Int)(O Q:List S.Ob):Prop where
 ok:m.Ok
 run:m.state=0
 mlen:(m.mem.length:Int)=a+4+2*half
 code:(S.aa true op F (a+4+2*half)).In m.mem
 place:m.place=a+1
 r28:m.rd 28=1056
 m2:m.mv 2=a+4
 m3:m.mv 3=a+4+half
 m4:m.mv 4=half
 m5:m.mv 5=38
 low:∀c,5<c->c<1312->m.mv c=if c=7 then s else 0
 zero:∀c,n<=c->m.mv c=0
 nb:a+4<=n/\n<=a+4+half
 obj:∀o∈O,∀(k:Nat)(w:Int),o.ws[k]?=some w->m.mv (o.at_+k)=w
 inb:∀o∈O,S.ObOk o/\a+4<=o.at_/\o.at_+o.ws.length<=n
 dis:∀o∈O,∀o'∈O,o≠o'->o.at_+o.ws.length<=o'.at_\/o'.at_+o'.ws.length<=o.at_
 nd:O.Nodup
 sum:S.tot O<=n-(a+4)
 sub:∀o∈Q,o∈O
 sumQ:S.tot Q<=n-g
 plain:∀o∈Q,∀w∈o.ws,w%4≠1
theorem Zyq {o:S.Ob}(h:S.ObOk o):0<o.ws.length:=by
 obtain⟨hd,r,e,_⟩:=h.head;rw[e];simp
theorem Zpu:∀(A B:List S.Ob),S.tot (A++B)=S.tot A+S.tot B
 | [],B=>by show S.tot B=0+S.tot B;omega
 | o::r,B=>by
  show(o.ws.length:Int)+S.tot (r++B)=o.ws.length+S.tot r+S.tot B
  rw[Zpu r B];omega
theorem Z52 {z:Int}{ws:List Int}(h:S.Wz z ws)(h2:2<=ws.length)(hl:ws.length<=1002)(n:Int):S.ObOk ⟨n,ws⟩/\∀w∈ws,w%4≠1:=by
 have hwd:=Ziu h hl;rcases h with⟨_,_,rfl⟩|⟨_,ds,hc,rfl⟩
 .simp at h2
 .refine⟨⟨λ w hw=>by have:=hwd w hw;omega,_,_,rfl,by omega,?_⟩,λ w hw=>?_⟩
  .rw[Yi,Yac]
   omega
  .rcases Yz.1 hw with rfl|hw
   .omega
   .rcases Yz.1 hw with rfl|hw
    .split <;> decide
    .obtain⟨d,hd,rfl⟩:=List.mem_map.1 hw
     omega
section
variable {op:Int}{F:List Int}{half a:Int}(hW:S.az op F half a)(hh:1<=half/\half<=1000000)
include hW hh
theorem Zva:S.b6 op F half a 0 (a+4) ((S.ag (S.nL op F) half).goV (a+1)) (a+4) [] []:=by
 have hp:=hW.lab.a0;have hs:=hW.small;have k1:=hW.mok;have k2:=hW.run;have k3:=hW.mlen;have k4:=hW.code;have k5:=hW.rd 28;rw[if_pos rfl] at k5;have k6:=hW.m2;have k7:=hW.m3;have k8:=hW.m4;have k9:=hW.m5;have k10:=hW.low;have k11:=hW.zero;clear hW;generalize S.ag (S.nL op F) half=M at *;have e:M.goV (a+1)={ M with place:=a+1 }:=by
  unfold S.Mach.goV;rw[if_neg (by rw[k2];decide)]
 rw[e];exact⟨placed (s:=M.steps) k1 ⟨by omega,by omega⟩,k2,k3,k4,rfl,k5,k6,k7,k8,k9,λ c h0 h1=>(k10 c h0 h1).trans (by split <;> rfl),k11,⟨Int.le_refl _,by omega⟩,λ o ho=>by(cases ho),λ o ho=>by(cases ho),λ o ho=>by(cases ho),List.nodup_nil,by show(0:Int)<=_;omega,λ o ho=>by(cases ho),by show(0:Int)<=_;omega,λ o ho=>by(cases ho)⟩
theorem Z1x {m:S.Mach}{n s g:Int}{O Q:List S.Ob}(h:S.b6 op F half a s g m n O Q){z:Int}{ws:List Int}(hz:S.Wz z ws)(h2:2<=ws.length)(hl:ws.length<=1002)(hn:n+ws.length<=a+4+half):S.b6 op F half a s g (S.putAt m n ws) (n+ws.length) (O++[⟨n,ws⟩]) (Q++[⟨n,ws⟩])/\∀c,0<=c->c<n->(S.putAt m n ws).mv c=m.mv c:=by
 have hp:=hW.lab.a0;have hnb:=h.nb;obtain⟨q1,q2,q3,q4,q5,q6,q7⟩:=Zq4 (hW.ok true) (size:=a+4+2*half) (top:=a+4) (λ c hc=>(Zrp (hW.ok true) hW.lab hc).2) ws m n h.ok h.mlen h.code (Ziu hz hl) (by omega) (by omega) (by omega);obtain⟨ob1,ob2⟩:=Z52 hz h2 hl n;have hlow:∀c,0<=c->c<n->(S.putAt m n ws).mv c=m.mv c:=λ c h0 h1=>by rw[q7 c h0,if_neg (by omega)]
 refine⟨⟨q1,q4.trans h.run,q2,q3,q5.trans h.place,(q6 28).trans h.r28,(hlow 2 (by decide) (by omega)).trans h.m2,(hlow 3 (by decide) (by omega)).trans h.m3,(hlow 4 (by decide) (by omega)).trans h.m4,(hlow 5 (by decide) (by omega)).trans h.m5,λ c h0 h1=>(hlow c (by omega) (by omega)).trans (h.low c h0 h1),λ c h0=>by rw[q7 c (by omega),if_neg (by omega)];exact h.zero c (by omega),⟨by omega,hn⟩,λ o ho k w hk=>?_,λ o ho=>?_,λ o ho o' ho' hne=>?_,?_,?_,λ o ho=>?_,?_,λ o ho=>?_⟩,hlow⟩
 .rcases Y0.1 ho with ho|ho
  .have hi:=h.inb o ho
   have hk2:=(Yg.1 hk).1;rw[hlow _ (by omega) (by omega)];exact h.obj o ho k w hk
  .rw[Yab] at ho
   subst ho;have hk':ws[k]?=some w:=hk;have hk2:=(Yg.1 hk').1
   show(S.putAt m n ws).mv (n+k)=w
   rw[q7 _ (by omega),if_pos (by omega),show(n+(k:Int)-n).toNat=k by omega,Ye,hk'];rfl
 .rcases Y0.1 ho with ho|ho
  .obtain⟨i1,i2,i3⟩:=h.inb o ho
   exact⟨i1,i2,by omega⟩
  .rw[Yab] at ho
   subst ho;exact⟨ob1,hnb.1,Int.le_refl _⟩
 .rcases Y0.1 ho with ho|ho <;> rcases Y0.1 ho' with ho'|ho'
  .exact h.dis o ho o' ho' hne
  .rw[Yab] at ho'
   subst ho';exact .inl (h.inb o ho).2.2
  .rw[Yab] at ho
   subst ho;exact .inr (h.inb o' ho').2.2
  .rw[Yab] at ho ho'
   exact absurd (ho.trans ho'.symm) hne
 .rw[List.nodup_append]
  refine⟨h.nd,by simp,λ x hx y hy e=>?_⟩;rw[Yab] at hy;subst hy e;have h1:=(h.inb _ hx).2.2;have h2:=Zyq ob1;have h3:(0:Int)<ws.length:=by show(0:Int)<(ws.length:Int);exact Int.ofNat_lt.2 h2
  have h4:n+(ws.length:Int)<=n:=h1;omega
 .rw[Zpu]
  have hs:=h.sum
  show S.tot O+((ws.length:Int)+0)<=_
  omega
 .rcases Y0.1 ho with ho|ho
  .exact List.mem_append_left _ (h.sub o ho)
  .exact List.mem_append_right _ ho
 .rw[Zpu]
  have hs:=h.sumQ
  show S.tot Q+((ws.length:Int)+0)<=_
  omega
 .rcases Y0.1 ho with ho|ho
  .exact h.plain o ho
  .rw[Yab] at ho
   subst ho;exact ob2
end
def S.b7 (I:S.Img)(m:S.Mach)(O:List S.Ob)(v z:Int)(N:Nat):Prop :=
 ∃neg ds,S.NumAt I m.mv v neg ds/\S.ac neg ds=z/\(S.dval ds=0->neg=0)/\ds.length<=N/\∀p,v=4*p+1->∃o∈O,o.at_=p
end
theorem Zkr:(Tryz.prog.info? 115).map (λ i=>(i.zero,i.size,i.bytes))=some (some (.agg #[.int .i64 0,.int .i64 0,.string ByteArray.empty,.slice none 0 0,.slice none 0 0,.slice none 0 0,.slice none 0 0]),7,128):=by kernel_rfl
theorem Zit:Tryz.prog.underlying 113=some (.slice 115):=Tryz.underlying113
theorem Z1y (n:Nat)(h0:0<n)(h1:n<=100000)(w:World):Calls Tryz.prog 176 #[.slice none 0 0,.int .i64 n] w λ e w'=>∃v',e=.returned v'/\w'.ownsRow w.heap.size 115 7 v' 0 []/\Below w.heap.size w w':=by
 obtain⟨i,hi,hi2⟩:∃i,Tryz.prog.info? 115=some i/\(i.zero,i.size,i.bytes)=(some (.agg #[.int .i64 0,.int .i64 0,.string ByteArray.empty,.slice none 0 0,.slice none 0 0,.slice none 0 0,.slice none 0 0]),7,128):=by
  have h:=Zkr
  cases hx:Tryz.prog.info? 115 with
  | none=>rw[hx] at h;cases h
  | some i=>rw[hx] at h;exact⟨i,rfl,Option.some.inj h⟩
 simp only[Prod.mk.injEq] at hi2;obtain⟨hz,hs,hb⟩:=hi2;have hrz:∀ty,(Builtin.append_ #[113,3] ty #[.slice none 0 0,.int .i64 n]).run Tryz.prog w=.ok (.slice (some ⟨w.heap.size,0,none⟩) n (grownCap w n 0 115)) (w.drew.alloc (.cells (Builtin.zeroCells _ n++Builtin.zeroCells _ (grownCap w n 0 115-n)) 115)):=λ ty =>
  Lib.run_append_nil_zeros w 113 3 ty 115 i _ .i64 .i64 Zit Tryz.underlying3 hi hz n h0 (by rw[hs];decide) (by omega) (by rw[hb];omega)
 have hgn:n<=grownCap w n 0 115:=grownCap_ge w _ _ _;have hgm:grownCap w n 0 115<=maxLen:=grownCap_le_maxLen w n 0 115 (by simp only[maxLen];omega);obtain⟨G,hG⟩:=Yx (grownCap w n 0 115);rw[<- hG] at hgn hgm;simp only[<- hG] at hrz;have hgm':G<=9223372036854775807:=by simp only[maxLen] at hgm;omega
 have k1:decide ((n:Int)>0)=true:=decide_eq_true (by omega);have k2:decide ((n:Int)<0)=false:=decide_eq_false (by omega);have k3:(0:Int)<n:=by omega
 have Hgm:=Ya hgm;obtain⟨zs,hzs⟩:=Yx (Builtin.zeroCells (Value.agg #[.int .i64 0,.int .i64 0,.string ByteArray.empty,.slice none 0 0,.slice none 0 0,.slice none 0 0,.slice none 0 0]).cells n++Builtin.zeroCells (Value.agg #[.int .i64 0,.int .i64 0,.string ByteArray.empty,.slice none 0 0,.slice none 0 0,.slice none 0 0,.slice none 0 0]).cells (G-n));have HSZ:=Ya (show zs.size=G*7 by
  rw[hzs,Array.size_append,size_zeroCells,size_zeroCells]
  show n*7+(G-n)*7=G*7
  omega)
 simp only[<- hzs] at hrz;clear hG hzs hgm hi hz hs hb;go_enter Tryz.func176,Tryz.ntmps176
 go_wp2_with (at_builtin;refine Lib.wpList_append_run _ rfl _ _ _ _ rfl _ _ rfl rfl _ _ (hrz _) ?_)
 go_ret
 refine⟨_,rfl,⟨rfl,.inr ⟨w.heap.size,G,zs,rfl,Yb _,heap_alloc_new _ _,Yag _,Hgm.out,HSZ.out,rfl⟩⟩,?_⟩;exact((Below.refl w.heap.size w).drew).alloc (Yb _) _
structure S.aq where
 A:Option Addr
 n:Nat
 c:Nat
 xs:List Value
def S.aq.val (p:S.aq):Value:=.slice p.A p.n p.c
def S.af (ps:List S.aq):Nat:=(ps.map S.aq.n).sum
def S.aw (ps:List S.aq):List Value:=ps.flatMap S.aq.xs
theorem Zf6 {ps:List S.aq}{i:Nat}(h:i<ps.length):S.af (ps.take (i+1))=S.af (ps.take i)+ps[i].n:=by
 unfold S.af;rw[Ya4,Yf h,Yau,List.sum_append];simp
theorem Zvb {ps:List S.aq}{i:Nat}(h:i<ps.length):S.aw (ps.take (i+1))=S.aw (ps.take i)++ps[i].xs:=by
 unfold S.aw;rw[Ya4,Yf h,List.flatMap_append];simp
theorem Zl0 (ps:List S.aq)(i:Nat):S.af (ps.take i)<=S.af ps:=by
 have h:S.af ps=S.af (ps.take i)+S.af (ps.drop i):=by
  unfold S.af;rw[<- List.sum_append,<- Yau,List.take_append_drop]
 omega
structure S.bo (w:World)(p:S.aq):Prop where
 len:p.xs.length=p.n*7
 nil:p.A=none->p.n=0
 at_:Reads w w.heap.size p.A p.xs
 one:∀u∈p.xs,u.oneCell'=true
theorem Zvc (A:Option Addr)(k c:Nat)(ps:List S.aq)(hk:k=ps.length)(w:World)(h:Reads w w.heap.size A (ps.map S.aq.val))(hp:∀p∈ps,S.bo w p)(h0:0<S.af ps)(h1:S.af ps<=100000)(hkb:k<=1000) :
 Calls Tryz.prog 138 #[.slice A k c] w λ e w'=>∃v',e=.returned v'/\w'.ownsRow w.heap.size 115 7 v' (S.af ps) (S.aw ps)/\Below w.heap.size w w':=by
 have HK:=Ya hk;have HR:=Ya h;have HP:=Ya hp;have H0:=Ya h0;have H1:=Ya h1;clear hk h hp h0 h1;go_enter Tryz.func138,Tryz.ntmps138
 go_wp2_with fail
 go_loopw [3,11] (λ v3 v11 wr=>∃i:Nat,i<=k/\v3=.int .i64 (S.af (ps.take i))/\v11=.int .i64 i/\w=wr) (λ _ v11 _=>k-(intOf v11).toNat)
 case atStart=>exact⟨0,Yag _,rfl,rfl,rfl⟩
 case round =>
  obtain⟨i,hi,rfl,rfl,rfl⟩:=hrel;have hT:=Zl0 ps i;have hH1:=H1.out;by_cases hlt:i<k
  .have hil:i<ps.length:=by rw[<- HK.out];exact hlt
   obtain⟨b1,o1,hA1,hb1,hc1⟩:=HR.out (by rw[Yac];omega);have hx:=hc1 i ps[i].val (by rw[Y3,Yf hil];rfl);have Hs:=Ya (Zf6 hil);have hTs:=Zl0 ps (i+1);rw[Zf6 hil] at hTs;obtain⟨p,hp⟩:=Yx ps[i];rw[<- hp] at hx hTs Hs;obtain⟨T,hT'⟩:=Yx (S.af (ps.take i));rw[<- hT'] at hT hTs Hs⊢;unfold S.aq.val at hx;have d1:decide ((i:Int)<(k:Int))=true:=decide_eq_true (by omega);have i3:(i:Int)<(k:Int):=by omega
   have p1:IntKind.i64.wrap ((T:Int)+p.n)=((T+p.n:Nat):Int):=by rw[Yk _ ⟨by omega,by omega⟩];omega
   have p2:IntKind.i64.wrap ((i:Int)+1)=(i:Int)+1:=Yk _ ⟨by omega,by omega⟩;have d2:decide (((T+p.n:Nat):Int)<0)=false:=decide_eq_false (by omega);subst hA1;clear hc1 hp hT';go_wp2_with fail
   go_roundw
   case rel=>exact⟨i+1,by omega,by rw[Hs.out];go_num,by go_num,trivial⟩
   case measure=>simp[intOf] <;> omega
  .have hie:k=i:=by omega
   subst hie;have d1:decide ((k:Int)<(k:Int))=false:=by simp
   have HT:=Ya (show ps.take k=ps from by rw[HK.out,List.take_length]);have H0':=H0.out;obtain⟨N,hN⟩:=Yx (S.af ps);rw[HT.out,<- hN];have HN:=Ya hN;rw[<- hN] at H0' hH1;clear hT hN;go_wp2_with fail
   refine(Z1y N H0' (by omega) w).mono ?_;rintro e w1 ⟨v1,rfl,ho1,hb1⟩;have HO1:=Ya ho1;have HB1:=Ya hb1;clear ho1 hb1;go_wp2_with fail
   go_loopw [6,27] (λ v6 v27 ww=>∃i:Nat,i<=k/\v27=.int .i64 i/\Hid (ww.ownsRow w.heap.size 115 7 v6 (S.af (ps.take i)) (S.aw (ps.take i)))/\Hid (Below w.heap.size w ww)) (λ _ v27 _=>k-(intOf v27).toNat)
   case atStart=>exact⟨0,Yag _,rfl,HO1,HB1⟩
   case round =>
    obtain⟨i,hi,rfl,ho,hb⟩:=hrel;obtain⟨A6,c6,rfl⟩:=Zb ho.out;have hT:=Zl0 ps i;rw[<- HN.out] at hT;by_cases hlt:i<k
    .have hil:i<ps.length:=by rw[<- HK.out];exact hlt
     obtain⟨b1,o1,hA1,hb1,hc1⟩:=HR.out.below hb.out (by rw[Yac];omega);have hx:=hc1 i ps[i].val (by rw[Y3,Yf hil];rfl);have Hs:=Ya (Zf6 hil);have Hx:=Ya (Zvb hil);have hTs:=Zl0 ps (i+1);rw[Zf6 hil,<- HN.out] at hTs;have HPi:=Ya (HP.out ps[i] (Ya7 hil));obtain⟨p,hp⟩:=Yx ps[i];rw[<- hp] at hx hTs Hs Hx HPi;obtain⟨T,hT'⟩:=Yx (S.af (ps.take i));rw[<- hT'] at hT hTs Hs ho⊢;unfold S.aq.val at hx;have d1:decide ((i:Int)<(k:Int))=true:=decide_eq_true (by omega);have i3:(i:Int)<(k:Int):=by omega
     have p2:IntKind.i64.wrap ((i:Int)+1)=(i:Int)+1:=Yk _ ⟨by omega,by omega⟩;subst hA1;clear hc1 hp hT';go_wp2_with (at_builtin;refine Zad rfl (.tmp 31) (.tmp 32) _ rfl w.heap.size 115 Zkr Zit rfl (by decide) _ _ _ rfl ho.out w.heap.size p.A p.n p.c p.xs rfl HPi.out.len HPi.out.nil (HPi.out.at_.below hb.out) HPi.out.one (by simp only[maxLen];omega) (by omega) hb.out.size ?_;intro v' w4 ho4 hg4 hb4 hat4;obtain⟨A4,c4,rfl⟩:=Zb ho4)
     go_roundw
     case rel=>exact⟨i+1,by omega,by go_num,Ya (by rw[Hs.out,Hx.out];exact ho4),Ya (hb.out.trans hb4)⟩
     case measure=>simp[intOf] <;> omega
    .have hie:k=i:=by omega
     subst hie;have d1:decide ((k:Int)<(k:Int))=false:=by simp
     have e1:S.af (ps.take k)=S.af ps:=by rw[HT.out]
     have e2:S.aw (ps.take k)=S.aw ps:=by rw[HT.out]
     rw[e1,e2] at ho;rw[e1];go_wp2_with fail
     go_ret
     exact⟨_,rfl,ho.out,hb.out⟩
namespace S
def ccRows:List AV->Option (Nat×List AV)
 | []=>some (0,[])
 | x::r=>match x with
  | .row n c=>if c.length=n*7 then(match ccRows r with|some y=>some (n+y.1,c++y.2) | none=>none) else none
  | _=>none
def concatA (x:AV):Option (AV×Tail):=match x with
 | .row k rows=>if k=rows.length/\k<=1000 then(match ccRows rows with|some y=>if 0<y.1/\y.1<=100000 then some (.row y.1 y.2,none) else none|none=>none) else none
 | _=>none
def orcN (f:FuncId)(xs:List AV):Option (AV×Tail) :=
 if f=138 then(match xs with | [x]=>concatA x|_=>none) else orcB f xs
end S
theorem Zyr {H:Zx}{w w':World}{n:Nat}{A:Option Addr}{c:Nat}{t:TypeId}{z:Nat}{cs:List S.AV}{xs:List Value}(hbnd:∀b k,H b=some k->Bk w b)(hb:Below w.heap.size w w')
 (ho:w'.ownsRow w.heap.size t z (.slice A n c) n xs) (hx0:RepL H w cs xs) (hz:0<z):∃H':Zx,(∀b,b<w.heap.size->H' b=H b)/\(∀b k,H' b=some k->Bk w' b)/\RepV H' w' (.row n cs) (.slice A n c):=by
 have hx:∀H':Zx,(∀b,b<w.heap.size->H' b=H b)->RepL H' w' cs xs:=λ H' h=>hx0.stay (λ b k hk=>⟨k,by rw[h b (hbnd b k hk).lt];exact hk,Yb _,λ o _=>hb.cell (p:=⟨b,o,none⟩) (hbnd b k hk).lt⟩) _ _
 have hlen:cs.length=n*z:=by rw[<- ho.1];exact(RepL.length hx0).symm
 rcases ho.2 with⟨e,rfl⟩|⟨g,cap,cur,e,hg,hcur,hn,hcm,hsz,htake⟩
 .cases e
  refine⟨H,λ _ _=>rfl,λ b k hk=>(hbnd b k hk).below hb,?_⟩;rw[RepV];exact⟨none,0,rfl,λ _=>Y5 (by rw[hlen];simp),λ _=>rfl,.inl (Y5 (by rw[hlen];simp))⟩
 .cases e
  have hH:∀b,b<w.heap.size->(λ b=>if b=g then some cs.length else H b) b=H b:=λ b hb'=>by simp only;rw[if_neg (by omega)]
  refine⟨λ b=>if b=g then some cs.length else H b,hH,λ b k hk=>?_,?_⟩
  .simp only at hk
   by_cases h:b=g
   .rw[h];exact⟨_,_,hcur⟩
   .rw[if_neg h] at hk;exact(hbnd b k hk).below hb
  .rw[RepV]
   refine⟨_,_,rfl,λ h0=>Y5 (by rw[hlen,h0];simp),λ h0=>(by cases h0),.inr ⟨g,0,cs.length,rfl,by simp,by omega,Zjf (hx _ hH) λ j u hj=>?_⟩⟩;rw[Yc hcur,Nat.zero_add];have hj2:j<n*z:=by rw[<- ho.1];exact(Yg.1 hj).1
   rw[<- htake,List.getElem?_take,if_pos hj2] at hj
   simpa using hj
theorem Zq5 {H:Zx}{w:World}(hB:∀b k,H b=some k->b<w.heap.size):∀{rows:List S.AV} {y:Nat×List S.AV} {vs:List Value},S.ccRows rows=some y->RepL H w rows vs->∃ps:List S.aq,ps.map S.aq.val=vs/\(∀p∈ps,S.bo w p)/\S.af ps=y.1/\RepL H w y.2 (S.aw ps)
 | [],y,vs,h,hr=>by
  rw[RepL] at hr;subst hr
  cases h
  exact⟨[],rfl,λ p hp=>(by cases hp),rfl,by show RepL H w [] [];rw[RepL]⟩
 | x::r,y,vs,h,hr=>by
  rw[RepL] at hr;obtain⟨v,rs,rfl,hcl,hv,hrs⟩:=hr;unfold S.ccRows at h
  split at h
  .rename_i n c
   split at h
   .rename_i hc
    split at h
    .rename_i y' hy'
     cases h
     obtain⟨ps,e1,e2,e3,e4⟩:=Zq5 hB hy' hrs;rw[RepV] at hv;obtain⟨A,c',rfl,h0,hA,hcc⟩:=hv;have key:∃xs,xs.length=n*7/\Reads w w.heap.size A xs/\(∀u∈xs,u.oneCell'=true)/\RepL H w c xs:=by
      rcases hcc with rfl|⟨b,o,k,rfl,hk,_,hrc⟩
      .exact⟨[],hc,λ hp=>by simp at hp,λ u hu=>(by cases hu),by rw[RepL]⟩
      .obtain⟨us,q1,q2⟩:=Zde hrc
       exact⟨us,by rw[RepL.length q1];exact hc,λ _=>⟨b,o,rfl,hB b k hk,q2⟩,RepL.one q1,q1⟩
     obtain⟨xs,k1,k2,k3,k4⟩:=key;refine⟨⟨A,n,c',xs⟩::ps,by rw[Ybz,e1];rfl,λ p hp=>?_,?_,?_⟩
     .rcases Yz.1 hp with rfl|hp
      .exact⟨k1,hA,k2,k3⟩
      .exact e2 p hp
     .show(List.map S.aq.n (⟨A,n,c',xs⟩::ps)).sum=n+y'.1
      rw[Ybz,List.sum_cons,<- e3];rfl
     .show RepL H w (c++y'.2) (List.flatMap S.aq.xs (⟨A,n,c',xs⟩::ps))
      rw[List.flatMap_cons];exact RepL.append k4 e4
    .cases h
   .cases h
  .cases h
theorem Zns {x:S.AV}{r:S.AV}{y:S.Tail}(h:S.concatA x=some (r,y)):AFn Tryz.prog LVE 138 [x] r y:=by
 intro H w vs hbnd hL hrep;rw[RepT] at hrep;obtain⟨v,us,rfl,hv,hus⟩:=hrep;rw[RepT] at hus;subst hus;unfold S.concatA at h
 split at h
 .rename_i k rows
  split at h
  .rename_i hk
   split at h
   .rename_i z hz
    split at h
    .rename_i hN
     cases h
     rw[RepV] at hv;obtain⟨A,c,rfl,h0,hA,hcc⟩:=hv;rcases hcc with rfl|⟨b,o,k',rfl,hk',_,hrc⟩
     .cases hz
      have:=hN.1;simp at this
     .obtain⟨us,q1,q2⟩:=Zde hrc
      obtain⟨ps,e1,e2,e3,e4⟩:=Zq5 (λ b k h=>(hbnd b k h).lt) hz q1;have hlen:k=ps.length:=by rw[hk.1,<- RepL.length q1,<- e1,Yac]
      refine(Zvc _ k c ps hlen w (λ _=>⟨b,o,rfl,(hbnd b k' hk').lt,by rw[e1];exact q2⟩) e2 (by rw[e3];exact hN.1) (by rw[e3];exact hN.2) hk.2).mono ?_;rintro e w' ⟨v',rfl,ho,hb⟩;obtain⟨A',c',rfl⟩:=Zb ho;rw[e3] at ho⊢;obtain⟨H',p1,p2,p3⟩:=Zyr hbnd hb ho e4 (by decide);exact⟨_,H',rfl,hb,p1,p2,p3,λ z hz=>by cases hz⟩
    .cases h
   .cases h
  .cases h
 .cases h
theorem Zsi (f:FuncId)(xs:List S.AV)(r:S.AV)(y:S.Tail)(h:S.orcN f xs=some (r,y)):AFn Tryz.prog LVE f xs r y:=by
 unfold S.orcN at h
 split at h
 .rename_i hf
  subst hf
  split at h
  .exact Zns h
  .cases h
 .exact Zk0 f xs r y h
theorem Zsj {cf n:Nat}{f:FuncId}{xs:List S.AV}{r:S.AV}{y:S.Tail}(h:S.runFn Tryz.prog S.orcN cf n f xs=some (r,y)):AFn Tryz.prog LVE f xs r y :=
 Zk6 (λ w w' hL hb=>hL.on hb) Zsi n f xs r y h
section
set_option maxRecDepth 100000
open Go Go.RowKit Go.Proofs
theorem Znt:S.runFn Tryz.prog S.orcN 400 20 27 []=some (.row 22 (S.ae S.objs27),some (70,2)):=by kernel_rfl
theorem Zpv:AFn Tryz.prog LVE 27 [] (.row 22 (S.ae S.objs27)) (some (70,2)):=Zsj Znt
theorem Z1z:S.runFn Tryz.prog S.orcB 400 20 33 []=some (.agg (S.encObj S.kLow S.lowItems),none):=by kernel_rfl
theorem Z4e:AFn Tryz.prog LVE 33 [] (.agg (S.encObj S.kLow S.lowItems)) none:=Zos Z1z
theorem Zq6:S.ax S.objs27=true:=by kernel_rfl
theorem Z4f:S.ax [S.oLow]=true:=by kernel_rfl
structure OCg (w:World)(g:Option Nat)(os:List S.Obj)(oc:List Value):Prop where
 len:oc.length=os.length*2
 one:∀u∈oc,u.oneCell'=true
 at_:∀(i:Nat)(x:S.Obj),os[i]?=some x->∃A c,oc[i*2]?=some (.string x.name)/\oc[i*2+1]?=some (.slice A x.items.length c) /\
  (0<x.items.length->∃b off,A=some ⟨b,off,none⟩/\b<w.heap.size/\some b≠g/\∀j y,x.items[j]?=some y->ItemAt w b (off+j*8) y)/\x.name.size<=maxLen/\∀y∈x.items,y.label.size<=maxLen
theorem OCg.oc {w:World}{g:Option Nat}{os:List S.Obj}{oc:List Value}(h:OCg w g os oc):OC w w.heap.size os oc:=⟨h.len,h.one,λ i x hx=>by
 obtain⟨A,c,h0,h1,h2,h3⟩:=h.at_ i x hx;exact⟨A,c,h0,h1,λ hp=>by
  obtain⟨b,off,e,hb,_,hc⟩:=h2 hp;exact⟨b,off,e,hb,hc⟩,h3⟩⟩
theorem OCg.below {w w':World}{g:Option Nat}{os:List S.Obj}{oc:List Value}(h:OCg w g os oc)(hb:Below w.heap.size w w'):OCg w' g os oc:=⟨h.len,h.one,λ i x hx=>by
 obtain⟨A,c,h0,h1,h2,h3⟩:=h.at_ i x hx;exact⟨A,c,h0,h1,λ hp=>by
  obtain⟨b,off,e,hbb,hg,hc⟩:=h2 hp;have:=hb.size;exact⟨b,off,e,by omega,hg,λ j y hy=>(hc j y hy).block (hb.block b hbb)⟩,h3⟩⟩
theorem OCg.grow {w w':World}{g g':Option Nat}{os:List S.Obj}{oc:List Value}(h:OCg w g os oc)(hg:w.grownBy w' g)(hv:g'=g\/∃k,g'=some k/\w.heap.size<=k):OCg w' g' os oc:=⟨h.len,h.one,λ i x hx=>by
 obtain⟨A,c,h0,h1,h2,h3⟩:=h.at_ i x hx;exact⟨A,c,h0,h1,λ hp=>by
  obtain⟨b,off,e,hbb,hne,hc⟩:=h2 hp;have:=hg.size;refine⟨b,off,e,by omega,?_,λ j y hy=>(hc j y hy).block (hg.block b hbb hne)⟩;rcases hv with rfl|⟨k,rfl,hk⟩
  .exact hne
  .intro e
   have e':b=k:=Option.some.inj e;omega,h3⟩⟩
theorem OCg.app {w:World}{g:Option Nat}{a b:List S.Obj}{ca cb:List Value}(h:OCg w g a ca)(k:OCg w g b cb):OCg w g (a++b) (ca++cb):=by
 refine⟨by rw[Yd,Yd,h.len,k.len];omega,λ u hu=>(Y0.1 hu).elim (h.one u) (k.one u),λ i x hx=>?_⟩;by_cases c:i<a.length
 .rw[Ym c] at hx
  obtain⟨A',c',h0,h1,h2⟩:=h.at_ i x hx;have hl:=h.len;exact⟨A',c',by rw[Ym (by omega)];exact h0,by rw[Ym (by omega)];exact h1,h2⟩
 .rw[Yo (by omega)] at hx
  obtain⟨A',c',h0,h1,h2⟩:=k.at_ (i-a.length) x hx;have hl:=h.len;exact⟨A',c',by rw[Yo (by omega),hl,show i*2-a.length*2=(i-a.length)*2 from by omega];exact h0,by rw[Yo (by omega),hl,show i*2+1-a.length*2=(i-a.length)*2+1 from by omega];exact h1,h2⟩
theorem OC.g {w:World}{B:Nat}{g:Option Nat}{os:List S.Obj}{oc:List Value}(h:OC w B os oc)(hB:B<=w.heap.size)(hg:∀k,g=some k->B<=k):OCg w g os oc:=⟨h.len,h.one,λ i x hx=>by
 obtain⟨A,c,h0,h1,h2,h3⟩:=h.at_ i x hx;exact⟨A,c,h0,h1,λ hp=>by
  obtain⟨b,off,e,hb,hc⟩:=h2 hp;exact⟨b,off,e,by omega,λ e=>by have:=hg b e.symm;omega,hc⟩,h3⟩⟩
section
variable {H:Zx}{w:World}{g:Option Nat}(hH:∀b k,H b=some k->b<w.heap.size/\some b≠g)
include hH
theorem Zgv:∀{os:List S.Obj} {xs:List Value},RepL H w (S.ae os) xs->(∀x∈os,(∀y∈x.items,0<=y.word/\y.word<=4294967295)/\x.name.size<=maxLen/\∀y∈x.items,y.label.size<=maxLen)->OCg w g os xs
 | [],xs,h,_=>by
  have h':RepL H w [] xs:=h;rw[RepL] at h';subst h';exact { len:=rfl,one:=λ u hu=>(List.not_mem_nil hu).elim,at_:=λ i x hx=>by simp at hx }
 | o::r,xs,h,hw=>by
  have h':RepL H w (.str o.name::.row o.items.length (S.encItems o.items)::S.ae r) xs:=h;rw[RepL] at h';obtain⟨v0,rs,rfl,_,hv0,h'⟩:=h';rw[RepL] at h';obtain⟨v1,rs,rfl,_,hv1,h'⟩:=h';rw[RepV] at hv0;subst hv0;obtain⟨q1,q2,q3⟩:=hw o Yu;have ih:=Zgv h' λ x hx=>hw x (Yw _ hx)
  have key:∃A c,v1=.slice A o.items.length c/\(0<o.items.length->∃b off,A=some ⟨b,off,none⟩/\b<w.heap.size/\some b≠g/\∀j y,o.items[j]?=some y->ItemAt w b (off+j*8) y):=by
   rw[RepV] at hv1;obtain⟨A,c,rfl,_,_,hc⟩:=hv1;refine⟨A,c,rfl,λ hp=>?_⟩;rcases hc with e|⟨b,off,k,rfl,hb,_,hr⟩
   .have h8:=Zjm o.items
    rw[e] at h8;simp at h8;omega
   .exact⟨b,off,rfl,(hH b k hb).1,(hH b k hb).2,Zg3 hr q1⟩
  obtain⟨A,c,rfl,hi⟩:=key;have h1:OCg w g [o] [.string o.name,.slice A o.items.length c]:=⟨rfl,by simp[Value.oneCell'],λ i y hy=>by
   cases i with
   | zero=>cases hy;exact⟨A,c,rfl,rfl,hi,q2,q3⟩
   | succ i=>cases hy⟩
  exact h1.app ih
end
end
theorem Zys (a b:List UInt8):(⟨a.toArray⟩:ByteArray)++⟨b.toArray⟩=⟨(a++b).toArray⟩:=by
 apply ByteArray.ext
 simp
theorem Z10 (op:Int)(hop:S.isOp op)(w:World)(hL:LVE w):Calls Tryz.prog 35 #[.int .i64 op] w λ e w'=>∃A c,e=.returned (.agg #[.string S.kCall,.slice A 8 c])/\w'.ownsRow w.heap.size 74 8 (.slice A 8 c) 8 ((S.callItems op).flatMap Zc)/\Below w.heap.size w w':=by
 have HL:=Ya hL;have HO:=Ya hop;clear hL hop;go_enter Tryz.func35,Tryz.ntmps35
 go_upto_region 2 with fail
 obtain⟨x1,x2,x3⟩:=Zc7 w #[.string ⟨#[]⟩,.slice none 0 0] 70;generalize w.alloc (.cells #[.string ⟨#[]⟩,.slice none 0 0] 70)=wa at *;obtain⟨y1,y2,y3⟩:=Zc7 wa #[.int .i64 1,.int .i64 36,.int .i64 0,.int .i64 0,.int .i64 0,.int .i64 0,.string ⟨#[]⟩,.int .u32 0] 74;rw[x3] at y1 y3;have hb2:=x2.trans (y2.mono (by omega));have hx2:=(y2.block w.heap.size (by omega)).trans x1;generalize wa.alloc (.cells #[.int .i64 1,.int .i64 36,.int .i64 0,.int .i64 0,.int .i64 0,.int .i64 0,.string ⟨#[]⟩,.int .u32 0] 74)=wb at *;have HB2:=Ya hb2;have HX2:=Ya hx2;have c0:wb.cell? ⟨w.heap.size+1,0,none⟩=some (.int .i64 1):=by rw[Yc y1];rfl
 have c1:wb.cell? ⟨w.heap.size+1,1,none⟩=some (.int .i64 36):=by rw[Yc y1];rfl
 have c2:wb.cell? ⟨w.heap.size+1,2,none⟩=some (.int .i64 0):=by rw[Yc y1];rfl
 have c3:wb.cell? ⟨w.heap.size+1,3,none⟩=some (.int .i64 0):=by rw[Yc y1];rfl
 have c4:wb.cell? ⟨w.heap.size+1,4,none⟩=some (.int .i64 0):=by rw[Yc y1];rfl
 have c5:wb.cell? ⟨w.heap.size+1,5,none⟩=some (.int .i64 0):=by rw[Yc y1];rfl
 have c6:wb.cell? ⟨w.heap.size+1,6,none⟩=some (.string ⟨#[]⟩):=by rw[Yc y1];rfl
 have c7:wb.cell? ⟨w.heap.size+1,7,none⟩=some (.int .u32 0):=by rw[Yc y1];rfl
 have Hit:=Ya (λ y:Ext wb=>Zqj op (by have:=HO.out;unfold S.isOp at this;unfold I64;omega) y.val ((HL.out.on HB2.out).on y.property));have Hs:=Ya (Zys [114,116] (S.itoa op));have hl:=Zk2 op;have Hk:=Ya (show S.kRt op=⟨([114,116]++S.itoa op).toArray⟩ from rfl);have hlt1:w.heap.size+1<wb.heap.size:=by omega
 have hlt0:w.heap.size<wb.heap.size:=by omega
 generalize S.itoa op=lf at *;clear x1 x2 x3 y1 y2 hb2 hx2;refine Zm 12 (by kernel_rfl) (by kernel_rfl) ?_;have hE:=Zu wb;simp only[List.take_succ_cons,List.take_zero,List.drop_succ_cons,List.drop_zero]
 repeat (first
  | go_big_quiet_step ((go_at_call 85;exact Ze8 (Hit.out _))))
 refine wpQuiet_nil ?_;rintro w8 ⟨⟨_,hb8⟩,rfl⟩;have hx8:=(hb8.block w.heap.size hlt0).trans HX2.out;have Hx8:=Ya hx8;have Hb8:=Ya (HB2.out.trans (hb8.mono (by omega)));have hz8:=hb8.size;have o0:w8.cell? ⟨w.heap.size,0,none⟩=some (.string ⟨#[]⟩):=by rw[Yc hx8];rfl
 have o1:w8.cell? ⟨w.heap.size,1,none⟩=some (.slice none 0 0):=by rw[Yc hx8];rfl
 have g0:w8.frozen? ⟨w.heap.size,0,none⟩=false:=Yan hx8 0;have g1:w8.frozen? ⟨w.heap.size,1,none⟩=false:=Yan hx8 1;have hlt8:w.heap.size<w8.heap.size:=by omega
 clear hb8 hE c0 c1 c2 c3 c4 c5 c6 c7 hx8;go_wp2_with fail
 simp only[Hs.out,<- Hk.out];change bodyPost _ _ _ _ _ (World.alloc _ (.cells ((S.callItems op).flatMap Zc).toArray 74));obtain⟨wf,hwf⟩:∃wf,wf=(((w8.setCell { block:=w.heap.size,off:=0 } (Ycp ⟨#[99,97,108,108]⟩)).setCell { block:=w.heap.size,off:=1 } (Ybr (some { block:=w8.heap.size,off:=0 }) 8 8)).alloc (.cells ((S.callItems op).flatMap Zc).toArray 74)):=⟨_,rfl⟩
 have hbf:wf.heap[w.heap.size]?=some (.cells #[.string ⟨#[99,97,108,108]⟩,.slice (some { block:=w8.heap.size,off:=0 }) 8 8] 70 (0,0)):=by
  rw[hwf,((Below.refl w8.heap.size _).alloc (by simp) _).block _ hlt8];have h1:=heap_setCell_same w8 w.heap.size 0 _ _ (.string ⟨#[99,97,108,108]⟩) Hx8.out;exact heap_setCell_same _ w.heap.size 1 _ _ (.slice (some { block:=w8.heap.size,off:=0 }) 8 8) h1
 have hbel:Below w.heap.size w wf:=by
  rw[hwf];exact(((Hb8.out.setCell (p:=⟨w.heap.size,0,none⟩) (Yb _) _).setCell (p:=⟨w.heap.size,1,none⟩) (Yb _) _).alloc (Y8 (Ya8 hlt8) (Nat.le_of_eq (by simp))) _)
 have hc0:wf.cell? ⟨w.heap.size,0,none⟩=some (.string ⟨#[99,97,108,108]⟩):=by rw[Yc hbf];rfl
 have hc1:wf.cell? ⟨w.heap.size,1,none⟩=some (.slice (some { block:=w8.heap.size,off:=0 }) 8 8):=by rw[Yc hbf];rfl
 have hown:wf.ownsRow w.heap.size 74 8 (.slice (some { block:=w8.heap.size,off:=0 }) 8 8) 8 ((S.callItems op).flatMap Zc):=by
  have h:=Zmd (w:=(w8.setCell { block:=w.heap.size,off:=0 } (Ycp ⟨#[99,97,108,108]⟩)).setCell { block:=w.heap.size,off:=1 } (Ybr (some { block:=w8.heap.size,off:=0 }) 8 8)) (base:=w.heap.size) (e:=74) (size:=8) (n:=8) (cs:=((S.callItems op).flatMap Zc).toArray) (xs:=(S.callItems op).flatMap Zc) (Y8 (Ya8 hlt8) (Nat.le_of_eq (by simp))) rfl rfl (by simp[maxLen]);rw[<- hwf] at h;have e:((w8.setCell { block:=w.heap.size,off:=0 } (Ycp ⟨#[99,97,108,108]⟩)).setCell { block:=w.heap.size,off:=1 } (Ybr (some { block:=w8.heap.size,off:=0 }) 8 8)).heap.size=w8.heap.size:=by simp
  rw[e] at h;exact h
 rw[<- hwf];exact bodyPost_ret (v:=.agg #[.string ⟨#[99,97,108,108]⟩,.slice (some { block:=w8.heap.size,off:=0 }) 8 8]) (by simp[results,Tryz.results35,go_sem,hc0,hc1]) rfl ⟨_,8,rfl,hown,hbel⟩
theorem Z6q (A:Option Addr)(n c B:Nat)(P:List (ByteArray×Int))(hP:n=P.length)(hn:n<=1048576)(s:ByteArray)(w:World)(h:ReadsP w B A P):Calls Tryz.prog 37 #[.slice A n c,.string s] w λ e w'=>e=.returned (.int .i64 ((S.findP P s).getD (-1)))/\w=w':=by
 have HP:=Ya hP;have HR:=Ya h;clear hP h;go_enter Tryz.func37,Tryz.ntmps37
 go_wp2_with fail
 go_loopw [5] (λ v5 wr=>∃i:Nat,i<=n/\v5=.int .i64 i/\Hid (S.findP P s=S.findP (P.drop i) s)/\w=wr) (λ v5 _=>n-(intOf v5).toNat)
 case atStart=>exact⟨0,Yag _,rfl,Ya rfl,rfl⟩
 case round =>
  obtain⟨i,hi,rfl,hf,rfl⟩:=hrel;by_cases hlt:i<n
  .have hil:i<P.length:=by rw[<- HP.out];exact hlt
   obtain⟨b1,o1,hA1,hb1,hc1⟩:=HR.out (by omega);obtain⟨hx,hy⟩:=hc1 i P[i] (Yf hil);have hd:P.drop i=P[i]::P.drop (i+1):=List.drop_eq_getElem_cons hil;obtain⟨q,hq⟩:=Yx P[i];rw[<- hq] at hx hy hd;obtain⟨nm,u⟩:=q;have i3:(i:Int)<(n:Int):=by omega
   have d1:decide ((i:Int)<(n:Int))=true:=decide_eq_true (by omega);have p2:IntKind.i64.wrap ((i:Int)+1)=(i:Int)+1:=Yk _ ⟨by omega,by omega⟩;have HD:=Ya hd;subst hA1;clear hc1 hq hd;by_cases ce:nm=s
   .have be:=Z4m ce
    have HE:=Ya ce;clear ce;go_wp2_with fail
    go_ret
    exact⟨by rw[hf.out,HD.out,S.findP];simp only;rw[if_pos HE.out];rfl,rfl⟩
   .have be:=Z4n ce
    have HE:=Ya ce;clear ce;go_wp2_with fail
    go_roundw
    case rel=>exact⟨i+1,by omega,by go_num,Ya (by rw[hf.out,HD.out,S.findP];simp only;rw[if_neg HE.out]),trivial⟩
    case measure=>simp[intOf] <;> omega
  .have hie:n=i:=by omega
   subst hie;have d1:decide ((n:Int)<(n:Int))=false:=by simp
   go_wp2_with fail
   go_ret
   exact⟨by rw[hf.out,HP.out,List.drop_length];rfl,rfl⟩
section
structure NBt (w:World)(lo p x y:Nat)(F:Nat->Prop)(Aw Ap:Option Addr)(NL cw cp:Nat)(P:List (ByteArray×Int))(m:S.Mach):Prop where
 box:w.heap[x]?=some (.cells #[.pointer (some ⟨p,0,none⟩)] 40 (0,0))
 img:w.heap[y]?=some (.cells #[.slice Aw NL cw,.slice Ap P.length cp] 86 (0,0))
 plc:ReadsP w w.heap.size Ap P
 plb:∀k o s,Ap=some ⟨k,o,s⟩->k<w.heap.size/\¬F k
 mach:∃vm vo A c inp rd,MAt w lo p vm vo A c inp rd m/\(∀k,Za2 p vm vo k->F k)/\(∀k o s,A=some ⟨k,o,s⟩->¬F k)
 nx:¬F x
 ny:¬F y
 lt:∀k,F k->lo<=k/\k<w.heap.size
section
variable {w w':World}{lo p x y:Nat}{F:Nat->Prop}{Aw Ap:Option Addr}{NL cw cp:Nat}{P:List (ByteArray×Int)}{m m':S.Mach}
theorem NBt.xlt (h:NBt w lo p x y F Aw Ap NL cw cp P m):x<w.heap.size:=(Yv.1 h.box).1
theorem NBt.ylt (h:NBt w lo p x y F Aw Ap NL cw cp P m):y<w.heap.size:=(Yv.1 h.img).1
theorem NBt.below (h:NBt w lo p x y F Aw Ap NL cw cp P m)(hb:Below w.heap.size w w'):NBt w' lo p x y F Aw Ap NL cw cp P m:=by
 obtain⟨vm,vo,A,c,inp,rd,k1,k2,k3⟩:=h.mach;have hz:=hb.size;exact⟨(hb.block x h.xlt).trans h.box,(hb.block y h.ylt).trans h.img,h.plc.same hz λ k o s e=>hb.block k (h.plb k o s e).1,λ k o s e=>⟨by have:=(h.plb k o s e).1;omega,(h.plb k o s e).2⟩,⟨vm,vo,A,c,inp,rd,k1.below hb,k2,k3⟩,h.nx,h.ny,λ k hk=>⟨(h.lt k hk).1,by have:=(h.lt k hk).2;omega⟩⟩
theorem NBt.wrote (h:NBt w lo p x y F Aw Ap NL cw cp P m)(ho:Only F w w')(hm:∃vm vo A c inp rd,MAt w' lo p vm vo A c inp rd m'/\(∀k,Za2 p vm vo k->F k)/\(∀k o s,A=some ⟨k,o,s⟩->¬F k)):NBt w' lo p x y F Aw Ap NL cw cp P m':=by
 have hz:=ho.size;exact⟨(ho.block x h.xlt h.nx).trans h.box,(ho.block y h.ylt h.ny).trans h.img,h.plc.same hz λ k o s e=>ho.block k (h.plb k o s e).1 (h.plb k o s e).2,λ k o s e=>⟨by have:=(h.plb k o s e).1;omega,(h.plb k o s e).2⟩,hm,h.nx,h.ny,λ k hk=>⟨(h.lt k hk).1,by have:=(h.lt k hk).2;omega⟩⟩
theorem NBt.cells (h:NBt w lo p x y F Aw Ap NL cw cp P m):w.cell? ⟨x,0,none⟩=some (.pointer (some ⟨p,0,none⟩))/\w.cell? ⟨y,0,none⟩=some (.slice Aw NL cw)/\w.cell? ⟨y,1,none⟩=some (.slice Ap P.length cp) :=
 ⟨by rw[Yc h.box];rfl,by rw[Yc h.img];rfl,by rw[Yc h.img];rfl⟩
theorem NBt.lobelow (h:NBt w lo p x y F Aw Ap NL cw cp P m)(hlo:lo<=w.heap.size)(ho:Only F w w'):Below lo w w':=ho.below hlo λ k hk=>(h.lt k hk).1
theorem Znu (i v:Int)(h:NBt w lo p x y F Aw Ap NL cw cp P m)(hv:0<=v/\v<=4294967295):Calls Tryz.prog 39 #[.int .i64 i,.int .i64 v,.pointer (some ⟨x,0,none⟩)] w λ e w'=>e=.returned (.tuple #[])/\NBt w' lo p x y F Aw Ap NL cw cp P (m.putV i v)/\Only F w w':=by
 obtain⟨vm,vo,A,c,inp,rd,k1,k2,k3⟩:=h.mach;obtain⟨e0,e1,e2⟩:=h.cells;have hv2:v%4294967296=v:=by omega
 have hv3:IntKind.u32.wrap v=v:=IntWalk.u32_in _ ⟨by omega,by omega⟩;have HM:=Ya (show Calls Tryz.prog 12 #[.pointer (some ⟨p,0,none⟩),.int .i64 i,.int .u32 v] w λ e w'=>∃r,e=.returned (.int .i64 r)/\MAt w' lo p vm vo A c inp rd (m.putV i v)/\Only (Za2 p vm vo) w w' from(Zqt i v k1 hv).mono λ _ _ q=>⟨_,q⟩);have H:=Ya h;have K2:=Ya k2;have K3:=Ya k3;clear h k1 k2 k3 e1 e2;go_enter Tryz.func39,Tryz.ntmps39
 go_wp2_with fail
 refine HM.out.mono ?_;rintro e w1 ⟨rv,rfl,h1,h2⟩;have ho:Only F w w1:=h2.weaken λ k _ hk=>K2.out k hk
 have HR:=Ya (H.out.wrote ho ⟨vm,vo,A,c,inp,rd,h1,K2.out,K3.out⟩);have Ho:=Ya ho;clear h1 h2 ho;go_wp2_with fail
 exact bodyPost_end (v:=.tuple #[]) (by simp[results,Tryz.results39,go_sem]) rfl ⟨rfl,HR.out,Ho.out⟩
theorem Z4g (i v:Int)(h:NBt w lo p x y F Aw Ap NL cw cp P m)(hv:0<=v/\v<=4294967295):Calls Tryz.prog 13 #[.pointer (some ⟨p,0,none⟩),.int .i64 i,.int .u32 v] w λ e w'=>∃r,e=.returned (.int .i64 r)/\NBt w' lo p x y F Aw Ap NL cw cp P (m.setV i v)/\Only F w w':=by
 obtain⟨vm,vo,A,c,inp,rd,k1,k2,k3⟩:=h.mach;refine(Zqs i v k1 hv).mono ?_;rintro e w' ⟨rfl,h1,h2⟩;have ho:Only F w w':=h2.weaken λ k _ hk=>k2 k (.inl hk)
 exact⟨_,rfl,h.wrote ho ⟨vm,vo,A,c,inp,rd,h1,k2,k3⟩,ho⟩
theorem Z53 (v:Int)(h:NBt w lo p x y F Aw Ap NL cw cp P m)(hv:0<=v/\v<=4294967295):Calls Tryz.prog 40 #[.pointer (some ⟨p,0,none⟩),.int .u32 v] w λ e w'=>∃r,e=.returned (.int .i64 r)/\NBt w' lo p x y F Aw Ap NL cw cp P (m.goV v)/\Only F w w':=by
 obtain⟨vm,vo,A,c,inp,rd,k1,k2,k3⟩:=h.mach;refine(Z1d v k1 hv).mono ?_;rintro e w' ⟨rfl,h1,h2⟩;have ho:Only F w w':=h2.weaken λ k _ hk=>k2 k (.inl hk)
 exact⟨_,rfl,h.wrote ho ⟨vm,vo,A,c,inp,rd,h1,k2,k3⟩,ho⟩
theorem NBt.nat (h:NBt w lo p x y F Aw Ap NL cw cp P m)(hlo:lo<=w.heap.size)(first half after next:Int):NAt (w.alloc (.cells #[.pointer (some ⟨p,0,none⟩),.int .i64 first,.int .i64 half,.int .i64 after,.int .i64 next] 42)) lo w.heap.size p F first half after next m:=by
 have hb:=(Below.refl w.heap.size w).alloc (Yb _) (.cells #[.pointer (some ⟨p,0,none⟩),.int .i64 first,.int .i64 half,.int .i64 after,.int .i64 next] 42);obtain⟨vm,vo,A,c,inp,rd,k1,k2,k3⟩:=h.mach;refine⟨heap_alloc_new w _,⟨vm,vo,A,c,inp,rd,k1.below hb,k2,λ k o s e=>⟨k3 k o s e,λ e2=>by have:=k1.la k o s e;omega⟩⟩,hlo,λ hk=>by have:=(h.lt _ hk).2;omega,λ k hk=>⟨(h.lt k hk).1,by have:=(h.lt k hk).2;have:=hb.size;omega⟩⟩
theorem Z4h {B:Nat}{vm:Value}{A:Option Addr}{c:Nat}{inp:List Int}(hm:MAt w B p vm (.slice none 0 0) A c inp 0 m)(hA:∀k o s,A=some ⟨k,o,s⟩->B<=k)(hlo:lo<=B)(hy:y<B)(hi:w.heap[y]?=some (.cells #[.slice Aw NL cw,.slice Ap P.length cp] 86 (0,0)))(hP:ReadsP w w.heap.size Ap P)(hPb:∀k o s,Ap=some ⟨k,o,s⟩->k<B) :
 NBt (w.alloc (.cells #[.pointer (some ⟨p,0,none⟩)] 40)) lo p w.heap.size y (Za2 p vm (.slice none 0 0)) Aw Ap NL cw cp P m:=by
 have hb:=(Below.refl w.heap.size w).alloc (Yb _) (.cells #[.pointer (some ⟨p,0,none⟩)] 40);have hBw:B<=w.heap.size:=Y8 hm.low (Ya8 hm.lt);have hz:=hb.size;refine⟨heap_alloc_new w _,(hb.block y (by omega)).trans hi,hP.same hz λ k o s e=>hb.block k (by have:=hPb k o s e;omega),λ k o s e=>⟨by have:=hPb k o s e;omega,λ hk=>by have:=(hm.foot_lt hk).1;have:=hPb k o s e;omega⟩,⟨vm,_,A,c,inp,0,(hm.base hlo).below hb,λ _ hk=>hk,λ k o s e hk=>?_⟩,λ hk=>by have:=(hm.foot_lt hk).2;omega,λ hk=>by have:=(hm.foot_lt hk).1;omega,λ k hk=>⟨by have:=(hm.foot_lt hk).1;omega,by have:=(hm.foot_lt hk).2;omega⟩⟩;obtain⟨d1,d2,d3⟩:=hm.d1 k o s e;rcases hk with hk|hk|hk
 .exact d1 hk
 .exact d2 hk
 .exact d3 hk
end
end
