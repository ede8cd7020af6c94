/- Parts. -/
import Derived.Test.YtldbnjajjfgipaaGreatDoorZBShp
import Derived.Deep.RegionWith
import Derived.BigRegion
set_option linter.all false
set_option maxHeartbeats 4000000
open Go.Lib renaming hid->Ya,cell_of_heap->Yb,frozen_of_heap->Yai
open List renaming length_append->Yc,append_assoc->Yo
open Nat renaming le_refl->Yd,lt_of_lt_of_le->Yr,le_trans->Yaa,lt_or_ge->Ych
open Go.AllReady renaming cons->Yf,nil->Yi
open Go.RowKit.Below renaming refl->Yj,heap_setCell->Ybd
open Go.Value renaming oneCell'->Yt,ownBlock->Yaj
open Go.Region renaming wanted->Yah
open Array renaming getElem?_eq_none->Ybk
namespace Go.Proofs.YtldbnjajjfgipaaGreatDoor
open S Go.Proofs.Tryz Go.RowKit
set_option maxRecDepth 100000
theorem Zgo {L:Int}{d:Nat}:∀{l:List BS} {k:Nat} {s:BS},chkSs L (l.take k) d=0->l[k]?=some s->chkS L s d≠0->chkSs L l d=chkS L s d
 | [],k,s,_,h,_=>by simp at h
 | x::r,0,s,_,h,h2=>by
  simp only[List.getElem?_cons_zero,Option.some.injEq] at h;subst h;rw[chkSs,if_pos h2]
 | x::r,k+1,s,h0,h,h2=>by
  rw[List.take_succ_cons,chkSs] at h0;have a:chkS L x d=0:=by
   by_cases c:chkS L x d≠0
   .rw[if_pos c] at h0;exact absurd h0 c
   .simpa using c
  rw[if_neg (by simp[a])] at h0;rw[chkSs,if_neg (by simp[a])];exact Zgo h0 (by simpa using h) h2
theorem Zip {L:Int}{d:Nat}{s:BS}:∀{l:List BS},chkSs L l d=0->chkS L s d=0->chkSs L (l++[s]) d=0
 | [],_,h=>by rw[List.nil_append,chkSs,if_neg (by simp[h]),chkSs]
 | x::r,h0,h=>by
  rw[chkSs] at h0;have a:chkS L x d=0:=by
   by_cases c:chkS L x d≠0
   .rw[if_pos c] at h0;exact absurd h0 c
   .simpa using c
  rw[if_neg (by simp[a])] at h0;rw[List.cons_append,chkSs,if_neg (by simp[a])];exact Zip h0 h
theorem Zq3 (L:Int)(s:BS)(d:Nat):chkS L s d=if (!(shapedS L s.op s.n s.name s.exprs.length s.regs s.body.length s.els.length && formedEs L s.exprs))=true then 4
 else if 200<=d\/14<needEs s.exprs 0 then 5 else if chkSs L s.body (d+1)≠0 then chkSs L s.body (d+1) else chkSs L s.els (d+1):=by
 obtain⟨op,n,name,exprs,regs,body,els⟩:=s;rw[chkS];rfl
theorem Zck:∀l:List BS,l.length<=Zf3 l
 | []=>by simp
 | e::r=>by
  rw[Zf3,List.length_cons];have:=Zck r;have:=Zgx e;omega
def Ze7 (L:Int)(l:List BS)(d:Nat)(w:World)(x:Ending)(w':World):Prop:=x=.returned (.int .i64 (chkSs L l d))/\Below w.heap.size w w'
def Sts (rn:ByteArray)(P L:Int)(bh:Bool)(Ab:Option Addr)(nb cb n:Nat):Prop:=∀(l:List BS)(A:Option Addr)(c d:Nat)(w:World),Zf3 l<=n->d<=200->SList w w.heap.size A l ->
 Calls prog 257 #[.agg #[.string rn,.int .i64 P,.int .i64 L,.bool bh,.slice Ab nb cb],.slice A l.length c,.int .i64 (d:Int)] w (Ze7 L l d w)
theorem Zu2 {u:ByteArray}{P L:Int}{r:Bool}{y:Option Addr}{nb s n:Nat}(hF:Fmd u P L r y nb s n)(g:Nat)(w:World)(C:w.heap[g]?=some (.cells #[.string u,.int .i64 P,.int .i64 L,.bool r,.slice y nb s] 203))(hg:g<w.heap.size)(l:List BE)(hl:∀e∈l,szE e<=n) :
 Zu4 w.heap.size 276 #[.pointer (some ⟨g,0,none⟩)] (λ e=>!S.formedE L e) l w:=by
 intro W e v q E F;have G:=Ya hF;have k:=(q.block g hg).trans C;have o:g<W.heap.size:=Yr hg q.size;have j:=hl e E;obtain⟨A,c,rfl,z,B,D⟩:=F;have f:Below W.heap.size W (W.alloc (.cells #[.int .i64 e.op,.int .i64 e.n,.string e.name,.slice A e.kids.length c] 152)):=(Yj _ _).alloc (Yd _) _;have d:=heap_alloc_new W (.cells #[.int .i64 e.op,.int .i64 e.n,.string e.name,.slice A e.kids.length c] 152);have I:W.heap.size<(W.alloc (.cells #[.int .i64 e.op,.int .i64 e.n,.string e.name,.slice A e.kids.length c] 152)).heap.size:=by simp
 have a:=hF e (.agg #[.int .i64 e.op,.int .i64 e.n,.string e.name,.slice A e.kids.length c]) (W.alloc (.cells #[.int .i64 e.op,.int .i64 e.n,.string e.name,.slice A e.kids.length c] 152)) j ⟨A,c,rfl,z,B,(D.below f).more f.size⟩;have b:=(f.block g o).trans k;unfold Zmq at a
 show Calls prog 276 #[.agg #[.int .i64 e.op,.int .i64 e.n,.string e.name,.slice A e.kids.length c],.pointer (some ⟨g,0,none⟩)] W λ x w'=>x=.returned (.bool (!S.formedE L e))/\Below W.heap.size W w'
 generalize formedE L e=R at *;generalize e.op=op at *;generalize e.n=en at *;generalize e.name=nm at *;generalize e.kids.length=kl at *;have i:=Ya a;have m:=Ya f;clear a hF G j hl E z B D q C k;go_enter func276,ntmps276
 go_upto_region 1 with fail
 generalize W.alloc (.cells #[.int .i64 op,.int .i64 en,.string nm,.slice A kl c] 152)=w2 at *;have c0:w2.cell? ⟨g,0,none⟩=some (.string u):=by rw[Yb b];rfl
 have c1:w2.cell? ⟨g,1,none⟩=some (.int .i64 P):=by rw[Yb b];rfl
 have c2:w2.cell? ⟨g,2,none⟩=some (.int .i64 L):=by rw[Yb b];rfl
 have c3:w2.cell? ⟨g,3,none⟩=some (.bool r):=by rw[Yb b];rfl
 have c4:w2.cell? ⟨g,4,none⟩=some (.slice y nb s):=by rw[Yb b];rfl
 have e0:w2.cell? ⟨W.heap.size,0,none⟩=some (.int .i64 op):=by rw[Yb d];rfl
 have e1:w2.cell? ⟨W.heap.size,1,none⟩=some (.int .i64 en):=by rw[Yb d];rfl
 have e2:w2.cell? ⟨W.heap.size,2,none⟩=some (.string nm):=by rw[Yb d];rfl
 have e3:w2.cell? ⟨W.heap.size,3,none⟩=some (.slice A kl c):=by rw[Yb d];rfl
 clear d b;go_wp2_with fail
 refine i.out.mono ?_;rintro x w3 ⟨rfl,t⟩;go_wp2_with fail
 go_ret
 exact⟨rfl,m.out.trans (t.mono m.out.size)⟩
structure Z4b (rn:ByteArray)(P L:Int)(bh:Bool)(Ab:Option Addr)(nb cb n:Nat)(s:BS)(d:Nat)(A1 A2 A3 A4:Option Addr)(c1 c2 c3 c4 g:Nat)(wr:World):Prop where
 shaped:∀W,Below wr.heap.size wr W->Calls prog 274 #[.agg #[.string rn,.int .i64 P,.int .i64 L,.bool bh,.slice Ab nb cb],.agg #[.int .i64 s.op,.int .i64 s.n,.string s.name,.slice A1 s.exprs.length c1,.slice A2 s.regs.length c2,.slice A3 s.body.length c3,.slice A4 s.els.length c4]] W
  λ x w'=>x=.returned (.bool (shapedS L s.op s.n s.name s.exprs.length s.regs s.body.length s.els.length))/\Below W.heap.size W w'
 formed:∀W,Below wr.heap.size wr W->Calls prog 275 #[.slice A1 s.exprs.length c1,.func (.func 276) #[] #[.pointer (some ⟨g,0,none⟩)]] W λ x w'=>x=.returned (.bool (!S.formedEs L s.exprs))/\Below W.heap.size W w'
 need:∀W,Below wr.heap.size wr W->Calls prog 278 #[.slice A1 s.exprs.length c1] W λ x w'=>x=.returned (.int .i64 (needEs s.exprs 0:Nat))/\Below W.heap.size W w'
 body:d<200->∀W,Below wr.heap.size wr W->Calls prog 257 #[.agg #[.string rn,.int .i64 P,.int .i64 L,.bool bh,.slice Ab nb cb],.slice A3 s.body.length c3,.int .i64 ((d:Int)+1)] W (Ze7 L s.body (d+1) W)
 els:d<200->∀W,Below wr.heap.size wr W->Calls prog 257 #[.agg #[.string rn,.int .i64 P,.int .i64 L,.bool bh,.slice Ab nb cb],.slice A4 s.els.length c4,.int .i64 ((d:Int)+1)] W (Ze7 L s.els (d+1) W)
theorem Z4c {f:ByteArray}{P L:Int}{b:Bool}{i:Option Addr}{nb c n:Nat}(ih:Sts f P L b i nb c n)(hn:n<1000000000){s:BS}{d:Nat}{j o m l:Option Addr}{c1 c2 c3 c4 g:Nat}{wr:World}(hs:szS s<=n+1)
 (u:wr.heap[g]?=some (.cells #[.string f,.int .i64 P,.int .i64 L,.bool b,.slice i nb c] 203)) (hg:g<wr.heap.size) (hp:SPart wr wr.heap.size s j o m l):Z4b f P L b i nb c n s d j o m l c1 c2 c3 c4 g wr:=by
 have hz:=Zgx s;have t:=Zdg s.exprs;refine⟨λ W a=>?_,λ W a=>?_,λ W a=>?_,λ hd W a=>?_,λ hd W a=>?_⟩
 .have hpW:=(hp.below a).more a.size
  exact Zu6 f P L b i nb c s.op s.n s.name s.exprs.length s.body.length s.els.length s.regs j o m l c1 c2 c3 c4 W hp.name hpW.regs hp.l2
 .have hpW:=(hp.below a).more a.size
  have r:=Zu2 (Zu5 f P L b i nb c n (by omega)) g W ((a.block g hg).trans u) (Yr hg a.size) s.exprs (λ e v=>by have:=Zju v;omega);refine(Zd1 W.heap.size _ _ (λ k=>!S.formedE L k) Zjr W (Yd _) j s.exprs c1 r hpW.exprs (by omega)).mono ?_;rintro x w' ⟨rfl,q⟩;exact⟨by rw[Zc1];simp,q⟩
 .have hpW:=(hp.below a).more a.size
  exact Z0a (Zdy s.exprs) j c1 s.exprs W (Yd _) (by omega) hpW.exprs
 .have hpW:=(hp.below a).more a.size
  have:=ih s.body m c3 (d+1) W (by omega) (by omega) hpW.body;exact this
 .have hpW:=(hp.below a).more a.size
  have:=ih s.els l c4 (d+1) W (by omega) (by omega) hpW.els;exact this
theorem Zx3 (O:ByteArray)(P L:Int)(M:Bool)(U:Option Addr)(nb K:Nat):∀n,n<=1000000000->Sts O P L M U nb K n:=by
 intro n
 induction n with
 | zero =>
  intro _ l A c d w J hd hA;have hl:l=[]:=by
   cases l with
   | nil=>rfl
   | cons e r=>rw[Zf3] at J;have:=Zgx e;omega
  subst hl;have F:Below w.heap.size w (w.alloc (.cells #[.string O,.int .i64 P,.int .i64 L,.bool M,.slice U nb K] 203)):=(Yj _ _).alloc (Yd _) _;have m:=Ya F;clear F;go_enter func257,ntmps257
  go_upto_region 1 with fail
  generalize w.alloc (.cells #[.string O,.int .i64 P,.int .i64 L,.bool M,.slice U nb K] 203)=w2 at *;go_wp2_with fail
  go_loopw [14] (λ D wr=>D=.int .i64 0/\w2=wr) (λ _ _=>0)
  case atStart=>exact⟨rfl,rfl⟩
  case round =>
   obtain⟨rfl,rfl⟩:=hrel;go_wp2_with fail
   go_ret
   exact⟨rfl,m.out⟩
 | succ n ih =>
  intro hn l A c d w J hd hA;have a9:=Zck l;obtain⟨N,hN⟩:=Yx l.length;rw[<- hN] at a9⊢;have HN:=Ya hN;have HA:=Ya hA;have d6:=Ya (ih (by omega));have f0:N<=1000000000:=by omega
  have Hs:=Ya J;have F:Below w.heap.size w (w.alloc (.cells #[.string O,.int .i64 P,.int .i64 L,.bool M,.slice U nb K] 203)):=(Yj _ _).alloc (Yd _) _;have b2:=heap_alloc_new w (.cells #[.string O,.int .i64 P,.int .i64 L,.bool M,.slice U nb K] 203);have b5:w.heap.size<(w.alloc (.cells #[.string O,.int .i64 P,.int .i64 L,.bool M,.slice U nb K] 203)).heap.size:=by simp
  unfold Ze7;clear hN hA ih J;go_enter func257,ntmps257
  go_upto_region 1 with fail
  generalize w.alloc (.cells #[.string O,.int .i64 P,.int .i64 L,.bool M,.slice U nb K] 203)=w2 at *;have m:=Ya F;have c5:=Ya b2;clear F b2;go_wp2_with fail
  go_loopw [14] (λ D wr=>∃k:Nat,k<=N/\D=.int .i64 k/\Hid (chkSs L (l.take k) d=0)/\Hid (Below w2.heap.size w2 wr)) (λ D _=>N-(intOf D).toNat)
  case atStart=>exact⟨0,by omega,rfl,Ya (by rw[List.take_zero,chkSs]),Ya (Yj _ _)⟩
  case round =>
   obtain⟨k,hk,rfl,HC,V⟩:=hrel;obtain⟨q,c7⟩:=Yx wr;subst c7;by_cases c9:k<N
   .obtain⟨s,J⟩:∃s,l[k]?=some s:=⟨_,List.getElem?_eq_getElem (by rw[<- HN.out];exact c9)⟩
    have G:=m.out.trans (V.out.mono m.out.size);obtain⟨b,off,A1,c1,A2,c2,y,c3,z,c4,rfl,e3,q0,q1,q2,q3,q4,q5,q6,a7⟩:=(HA.out.below G).at_ J;have Q:=V.out.size;have f2:b<q.heap.size:=by have:=m.out.size;omega
    have b6:w.heap.size<q.heap.size:=by omega
    have d2:=Zmw (List.mem_of_getElem? J);have hO:=Z4c (d:=d) (c1:=c1) (c2:=c2) (c3:=c3) (c4:=c4) (g:=w.heap.size) d6.out (by omega) (by have:=Hs.out;omega) ((V.out.block _ b5).trans c5.out) b6 (a7.more (by have:=G.size;omega));have a1:=Ya (λ h:chkS L s d=0=>(show chkSs L (l.take (k+1)) d=0 from by rw[Zcl l J];exact Zip HC.out h));have a:=Ya (λ h:chkS L s d≠0=>Zgo HC.out J h);have b3:=Zq3 L s d;obtain⟨o1,o2,o3,o4,o5⟩:=hO;unfold Ze7 at o4 o5;generalize shapedS L s.op s.n s.name s.exprs.length s.regs s.body.length s.els.length=σ at *;generalize formedEs L s.exprs=φ at *;generalize needEs s.exprs 0=ν at *;generalize chkSs L s.body (d+1)=β at *;generalize chkSs L s.els (d+1)=ε at *;generalize s.op=op at *;generalize s.n=n' at *;generalize s.name=nm at *;generalize s.exprs.length=N1 at *;generalize s.regs.length=N2 at *;generalize s.body.length=N3 at *;generalize s.els.length=N4 at *;generalize chkS L s d=χ at *;have T:=Ya b3;have H1:=Ya o1;have H2:=Ya o2;have H3:=Ya o3;have H4:=Ya o4;have H5:=Ya o5;clear b3 o1 o2 o3 o4 o5 J a7 d2 G HC;have a2:Below q.heap.size q (q.alloc (.cells #[.int .i64 op,.int .i64 n',.string nm,.slice A1 N1 c1,.slice A2 N2 c2,.slice y N3 c3,.slice z N4 c4] 149)):=(Yj _ _).alloc (Yd _) _;have b1:=heap_alloc_new q (.cells #[.int .i64 op,.int .i64 n',.string nm,.slice A1 N1 c1,.slice A2 N2 c2,.slice y N3 c3,.slice z N4 c4] 149);have d5:q.heap.size<(q.alloc (.cells #[.int .i64 op,.int .i64 n',.string nm,.slice A1 N1 c1,.slice A2 N2 c2,.slice y N3 c3,.slice z N4 c4] 149)).heap.size:=by simp
    go_upto_region 4 with fail
    generalize q.alloc (.cells #[.int .i64 op,.int .i64 n',.string nm,.slice A1 N1 c1,.slice A2 N2 c2,.slice y N3 c3,.slice z N4 c4] 149)=wx at *;have Hc:=Ya (λ(W:World) (hb:Below wx.heap.size wx W)=>(show(W.cell? ⟨w.heap.size,0,none⟩=some (.string O)/\W.cell? ⟨w.heap.size,1,none⟩=some (.int .i64 P)/\W.cell? ⟨w.heap.size,2,none⟩=some (.int .i64 L)/\W.cell? ⟨w.heap.size,3,none⟩=some (.bool M)/\W.cell? ⟨w.heap.size,4,none⟩=some (.slice U nb K)) /\
     W.cell? ⟨q.heap.size,0,none⟩=some (.int .i64 op)/\W.cell? ⟨q.heap.size,1,none⟩=some (.int .i64 n')/\W.cell? ⟨q.heap.size,2,none⟩=some (.string nm)/\W.cell? ⟨q.heap.size,3,none⟩=some (.slice A1 N1 c1)/\W.cell? ⟨q.heap.size,4,none⟩=some (.slice A2 N2 c2)/\W.cell? ⟨q.heap.size,5,none⟩=some (.slice y N3 c3)/\W.cell? ⟨q.heap.size,6,none⟩=some (.slice z N4 c4) from by
     have e1:W.heap[w.heap.size]?=some (.cells #[.string O,.int .i64 P,.int .i64 L,.bool M,.slice U nb K] 203):=(hb.block _ (by omega)).trans ((a2.block _ b6).trans ((V.out.block _ b5).trans c5.out));have e2:W.heap[q.heap.size]?=some (.cells #[.int .i64 op,.int .i64 n',.string nm,.slice A1 N1 c1,.slice A2 N2 c2,.slice y N3 c3,.slice z N4 c4] 149):=(hb.block _ d5).trans b1;refine⟨⟨?_,?_,?_,?_,?_⟩,?_,?_,?_,?_,?_,?_,?_⟩
     all_goals first | (rw[Yb e1];rfl) | (rw[Yb e2];rfl)))
    have f:=Ya a2;have e7:w.heap.size<wx.heap.size:=by omega
    clear a2 b1 q0 q1 q2 q3 q4 q5 q6;obtain⟨⟨r0,Y,X,r3,r4⟩,Z,s1,s2,s3,s4,s5,s6⟩:=Hc.out wx (Yj _ _);go_wp2_with fail
    refine(H1.out wx f.out).mono ?_;rintro e4 w4 ⟨rfl,a0⟩;have d8:=a0.size;have C:=Ya a0;clear r0 Y X r3 r4 Z s1 s2 s3 s4 s5 s6 a0;obtain⟨⟨r0,Y,X,r3,r4⟩,Z,s1,s2,s3,s4,s5,s6⟩:=Hc.out w4 C.out
    cases σ with
    | false =>
     have u:=Ya (show chkSs L l d=4 from by
      have t:χ=4:=by rw[T.out];simp
      rw[a.out (by rw[t];decide),t])
     go_wp2_with fail
     go_ret
     exact⟨Zs u.out.symm,m.out.trans ((V.out.trans (f.out.mono Q)).trans (C.out.mono (Yaa Q f.out.size)) |>.mono m.out.size)⟩
    | true =>
     have b7:=Ya (f.out.trans (C.out.mono f.out.size));go_wp2_with fail
     refine(H2.out w4 b7.out).mono ?_;rintro e5 w5 ⟨rfl,a6⟩;have v:=Ya (C.out.trans (a6.mono C.out.size));have d7:=a6.size;clear r0 Y X r3 r4 Z s1 s2 s3 s4 s5 s6 a6;obtain⟨⟨r0,Y,X,r3,r4⟩,Z,s1,s2,s3,s4,s5,s6⟩:=Hc.out w5 v.out;have B:=Ya (λ(W:World) (hb:Below wx.heap.size wx W)=>(show Below w.heap.size w W from m.out.trans ((V.out.trans (f.out.mono Q)).trans (hb.mono (Yaa Q f.out.size)) |>.mono m.out.size)))
     cases φ with
     | false =>
      have u:=Ya (show chkSs L l d=4 from by
       have t:χ=4:=by rw[T.out];simp
       rw[a.out (by rw[t];decide),t])
      go_wp2_with fail
      go_ret
      exact⟨Zs u.out.symm,B.out _ v.out⟩
     | true =>
      have Hχ:=Ya (show χ=if 200<=d\/14<ν then 5 else if β≠0 then β else ε from by rw[T.out];simp);by_cases d4:200<=d
      .have u:=Ya (show chkSs L l d=5 from by
        have t:χ=5:=by rw[Hχ.out,if_pos (.inl d4)]
        rw[a.out (by rw[t];decide),t])
       go_wp2_with fail
       go_ret
       exact⟨Zs u.out.symm,B.out _ v.out⟩
      .have Hb5':=Ya (f.out.trans (v.out.mono f.out.size))
       have b4:d<200:=by omega
       go_wp2_with fail
       refine(H3.out w5 Hb5'.out).mono ?_;rintro e6 x ⟨rfl,a4⟩;have R:=Ya (v.out.trans (a4.mono v.out.size));have f1:=a4.size;clear r0 Y X r3 r4 Z s1 s2 s3 s4 s5 s6 a4;obtain⟨⟨r0,Y,X,r3,r4⟩,Z,s1,s2,s3,s4,s5,s6⟩:=Hc.out x R.out;by_cases hν:14<ν
       .have u:=Ya (show chkSs L l d=5 from by
         have t:χ=5:=by rw[Hχ.out,if_pos (.inr hν)]
         rw[a.out (by rw[t];decide),t])
        have d3:(14:Int)<(ν:Int):=by omega
        go_wp2_with fail
        go_ret
        exact⟨Zs u.out.symm,B.out _ R.out⟩
       .have Hχ2:=Ya (show χ=if β≠0 then β else ε from by rw[Hχ.out,if_neg (by omega)])
        have d3:¬(14:Int)<(ν:Int):=by omega
        have c6:(d:Int)<200:=by omega
        clear Hχ T;have a8:Below x.heap.size x (x.alloc (.cells #[.slice y N3 c3,.slice z N4 c4] 147)):=(Yj _ _).alloc (Yd _) _;have b8:=heap_alloc_new x (.cells #[.slice y N3 c3,.slice z N4 c4] 147);have d1:x.heap.size<(x.alloc (.cells #[.slice y N3 c3,.slice z N4 c4] 147)).heap.size:=by simp
        go_wp2_with fail
        generalize x.alloc (.cells #[.slice y N3 c3,.slice z N4 c4] 147)=w7 at *;have i:=Ya (R.out.trans (a8.mono R.out.size));have c8:=Ya (λ(W:World) (hb:Below w7.heap.size w7 W)=>(show W.cell? ⟨x.heap.size,0,none⟩=some (.slice y N3 c3)/\W.cell? ⟨x.heap.size,1,none⟩=some (.slice z N4 c4) from by
         have e1:W.heap[x.heap.size]?=some (.cells #[.slice y N3 c3,.slice z N4 c4] 147):=(hb.block _ d1).trans b8
         constructor
         all_goals (rw[Yb e1];rfl)))
        have e0:=i.out.size;have b9:=Ya (λ(W:World) (hb:Below w7.heap.size w7 W)=>(show Below q.heap.size q W from f.out.trans ((i.out.trans (hb.mono i.out.size)).mono f.out.size)));clear a8 b8 r0 Y X r3 r4 Z s1 s2 s3 s4 s5 s6;go_loopw [42,10,11] (λ a5 _ _ wl=>∃j:Nat,j<=2/\a5=.int .i64 j/\Hid (1<=j->β=0)/\Hid (2<=j->ε=0)/\Hid (Below w7.heap.size w7 wl)) (λ a5 _ _ _=>2-(intOf a5).toNat)
        case atStart=>exact⟨0,by omega,rfl,Ya (λ h=>by omega),Ya (λ h=>by omega),Ya (Yj _ _)⟩
        case round =>
         obtain⟨j,hj,rfl,c0,d0,o⟩:=hrel;obtain⟨⟨r0,Y,X,r3,r4⟩,Z,s1,s2,s3,s4,s5,s6⟩:=Hc.out wr (i.out.trans (o.out.mono i.out.size));obtain⟨z0,z1⟩:=c8.out wr o.out;have d9:=o.out.size;have e9:x.heap.size<wr.heap.size:=by omega
         rcases(show j=0\/j=1\/j=2 by omega) with rfl|rfl|rfl
         .go_wp2_with fail
          refine(H4.out b4 _ (b9.out wr o.out)).mono ?_;rintro e8 w8 ⟨rfl,a3⟩;have I:=Ya (o.out.trans (a3.mono o.out.size));by_cases E:β=0
          .have hb0:(β != 0)=false:=by simp[E]
           have Hβ:=Ya E;clear E;go_wp2_with fail
           go_roundw
           case rel=>exact⟨1,by omega,by first|rfl|go_num,Ya (λ _=>Hβ.out),Ya (λ h=>by omega),I⟩
           case measure=>simp[intOf]
          .have hb0:(β != 0)=true:=by simp[E]
           have u:=Ya (show chkSs L l d=β from by
            have t:χ=β:=by rw[Hχ2.out,if_pos E]
            rw[a.out (by rw[t];exact E),t])
           clear E;go_wp2_with fail
           go_ret
           exact⟨Zs u.out.symm,B.out _ (i.out.trans (I.out.mono i.out.size))⟩
         .go_wp2_with fail
          refine(H5.out b4 _ (b9.out wr o.out)).mono ?_;rintro e8 w8 ⟨rfl,a3⟩;have I:=Ya (o.out.trans (a3.mono o.out.size));have E:=c0.out (by omega);have b0:=Ya (show χ=ε from by rw[Hχ2.out,if_neg (by simp[E])]);have Hβ:=Ya E;clear E;by_cases hε:ε=0
          .have hb0:(ε != 0)=false:=by simp[hε]
           have Hε:=Ya hε;clear hε;go_wp2_with fail
           go_roundw
           case rel=>exact⟨2,by omega,by first|rfl|go_num,Ya (λ _=>Hβ.out),Ya (λ _=>Hε.out),I⟩
           case measure=>simp[intOf]
          .have hb0:(ε != 0)=true:=by simp[hε]
           have u:=Ya (show chkSs L l d=ε from by
            rw[a.out (by rw[b0.out];exact hε),b0.out])
           clear hε;go_wp2_with fail
           go_ret
           exact⟨Zs u.out.symm,B.out _ (i.out.trans (I.out.mono i.out.size))⟩
         .have Hz:=Ya (a1.out (show χ=0 from by rw[Hχ2.out,if_neg (by simp[c0.out (by omega)]),d0.out (by omega)]))
          go_wp2_with fail
          go_roundw
          case rel=>exact⟨k+1,by omega,by go_num,Hz,Ya (V.out.trans ((f.out.trans ((i.out.trans (o.out.mono i.out.size)).mono f.out.size)).mono V.out.size))⟩
          case measure=>simp[intOf];omega
   .have hkN:k=N:=by omega
    subst hkN;have u:=Ya (show chkSs L l d=0 from by have:=HC.out;rw[HN.out,List.take_length] at this;exact this);go_wp2_with fail
    go_ret
    exact⟨Zs u.out.symm,m.out.trans (V.out.mono m.out.size)⟩
theorem Zgp {r:BR}(h:chkB r=0):labB r.name=true/\0<=r.params/\r.params<=4/\r.params<=r.locals/\r.locals<=200/\chkSs r.locals r.body 0=0:=by
 unfold chkB at h
 split at h
 .omega
 .rename_i hc
  simp only[Bool.not_eq_true,Bool.or_eq_false_iff,Bool.not_eq_false',decide_eq_false_iff_not] at hc;obtain⟨⟨⟨⟨a,h2⟩,h3⟩,h4⟩,h5⟩:=hc;exact⟨a,by omega,by omega,by omega,by omega,h⟩
def Zuj (r:BR)(A:Option Addr)(c:Nat):Value:=.agg #[.string r.name,.int .i64 r.params,.int .i64 r.locals,.bool r.behind,.slice A r.body.length c]
structure RAt2 (w:World)(B:Nat)(r:BR)(A:Option Addr):Prop where
 name:r.name.size<=maxLen
 body:SList w B A r.body
 size:Zf3 r.body<=1000000000
theorem RAt2.below {w w':World}{B:Nat}{r:BR}{A:Option Addr}(h:RAt2 w B r A)(a:Below B w w'):RAt2 w' B r A:=⟨h.name,h.body.below a,h.size⟩
theorem RAt2.more {w:World}{B B':Nat}{r:BR}{A:Option Addr}(h:RAt2 w B r A)(a:B<=B'):RAt2 w B' r A:=⟨h.name,h.body.more a,h.size⟩
theorem Zmn (r:BR)(A:Option Addr)(c:Nat)(w:World)(h:RAt2 w w.heap.size r A):Calls prog 224 #[Zuj r A c] w λ x w'=>x=.returned (.int .i64 (chkB r))/\Below w.heap.size w w':=by
 obtain⟨nm,P,L,g,body⟩:=r;obtain⟨s,t,u⟩:=h;unfold Zuj;simp only at s t u⊢;have q:=Zck body;have l:=Ya (λ(W:World) (z:Below w.heap.size w W)=>Zx3 nm P L g A body.length c (Zf3 body) u body A c 0 W (Yd _) (by omega) ((t.below z).more z.size));have j:chkB ⟨nm,P,L,g,body⟩=if !S.labB nm || decide (P<0) || decide (4<P) || decide (L<P) || decide (200<L) then 2 else chkSs L body 0:=rfl
 have a:=Ya (λ W=>Zmx nm W s);obtain⟨res,i⟩:=Yx (chkB ⟨nm,P,L,g,body⟩);rw[<- i] at j⊢;have e:=Ya j;unfold Ze7 at l;generalize labB nm=B at *;generalize chkSs L body 0=κ at *;generalize body.length=N at *;clear s t u q i j;have m:Below w.heap.size w (w.alloc (.cells #[.string nm,.int .i64 P,.int .i64 L,.bool g,.slice A N c] 203)):=(Yj _ _).alloc (Yd _) _;have d:=heap_alloc_new w (.cells #[.string nm,.int .i64 P,.int .i64 L,.bool g,.slice A N c] 203);have E:w.heap.size<(w.alloc (.cells #[.string nm,.int .i64 P,.int .i64 L,.bool g,.slice A N c] 203)).heap.size:=by simp
 go_enter func224,ntmps224
 go_upto_region 1 with fail
 generalize w.alloc (.cells #[.string nm,.int .i64 P,.int .i64 L,.bool g,.slice A N c] 203)=w2 at *;have b:=Ya m;have c0:w2.cell? ⟨w.heap.size,0,none⟩=some (.string nm):=by rw[Yb d];rfl
 have c1:w2.cell? ⟨w.heap.size,1,none⟩=some (.int .i64 P):=by rw[Yb d];rfl
 have c2:w2.cell? ⟨w.heap.size,2,none⟩=some (.int .i64 L):=by rw[Yb d];rfl
 have c3:w2.cell? ⟨w.heap.size,3,none⟩=some (.bool g):=by rw[Yb d];rfl
 have c4:w2.cell? ⟨w.heap.size,4,none⟩=some (.slice A N c):=by rw[Yb d];rfl
 clear m d
 cases B with
 | false =>
  have f:=Ya (show res=2 from by rw[e.out];simp);go_wp2_with fail
  refine(a.out w2).mono ?_;rintro k n ⟨rfl,rfl⟩;go_wp2_with fail
  go_ret
  exact⟨Zs f.out.symm,b.out⟩
 | true =>
  by_cases y:P<0
  .have f:=Ya (show res=2 from by rw[e.out,decide_eq_true y];simp)
   go_wp2_with fail
   refine(a.out w2).mono ?_;rintro k n ⟨rfl,rfl⟩;go_wp2_with fail
   go_ret
   exact⟨Zs f.out.symm,b.out⟩
  by_cases D:4<P
  .have f:=Ya (show res=2 from by rw[e.out,decide_eq_true D];simp)
   go_wp2_with fail
   refine(a.out w2).mono ?_;rintro k n ⟨rfl,rfl⟩;go_wp2_with fail
   go_ret
   exact⟨Zs f.out.symm,b.out⟩
  by_cases v:L<P
  .have f:=Ya (show res=2 from by rw[e.out,decide_eq_true v];simp)
   go_wp2_with fail
   refine(a.out w2).mono ?_;rintro k n ⟨rfl,rfl⟩;go_wp2_with fail
   go_ret
   exact⟨Zs f.out.symm,b.out⟩
  by_cases C:200<L
  .have f:=Ya (show res=2 from by rw[e.out,decide_eq_true C];simp)
   go_wp2_with fail
   refine(a.out w2).mono ?_;rintro k n ⟨rfl,rfl⟩;go_wp2_with fail
   go_ret
   exact⟨Zs f.out.symm,b.out⟩
  have f:=Ya (show res=κ from by rw[e.out,decide_eq_false y,decide_eq_false D,decide_eq_false v,decide_eq_false C];simp);go_wp2_with fail
  refine(a.out w2).mono ?_;rintro k n ⟨rfl,rfl⟩;go_wp2_with fail
  refine(l.out w2 b.out).mono ?_;rintro e5 w5 ⟨rfl,o⟩;go_wp2_with fail
  go_ret
  exact⟨Zs f.out.symm,b.out.trans (o.mono b.out.size)⟩
theorem Zx4 (r:BR)(A:Option Addr)(c:Nat)(w:World)(h:RAt2 w w.heap.size r A):Calls prog 225 #[Zuj r A c] w λ x w'=>x=.returned (.int .i64 (frameB r))/\Below w.heap.size w w':=by
 have l:=Ya (λ(W:World) (q:Below w.heap.size w W)=>Zmn r A c W ((h.below q).more q.size));have j:chkB r=0->-1000000<=r.locals/\r.locals<=200:=λ h0=>by obtain⟨_,h1,_,h2,h3,_⟩:=Zgp h0;omega
 obtain⟨nm,P,L,b,body⟩:=r;have i:frameB ⟨nm,P,L,b,body⟩=if chkB ⟨nm,P,L,b,body⟩≠0 then 0 else L+15:=rfl
 unfold Zuj at l⊢;simp only at l j⊢;generalize frameB ⟨nm,P,L,b,body⟩=res at *;generalize chkB ⟨nm,P,L,b,body⟩=κ at *;generalize body.length=N at *;have g:=Ya i;clear i h;have f:Below w.heap.size w (w.alloc (.cells #[.string nm,.int .i64 P,.int .i64 L,.bool b,.slice A N c] 203)):=(Yj _ _).alloc (Yd _) _;have a:=heap_alloc_new w (.cells #[.string nm,.int .i64 P,.int .i64 L,.bool b,.slice A N c] 203);have n:w.heap.size<(w.alloc (.cells #[.string nm,.int .i64 P,.int .i64 L,.bool b,.slice A N c] 203)).heap.size:=by simp
 go_enter func225,ntmps225
 go_upto_region 1 with fail
 generalize w.alloc (.cells #[.string nm,.int .i64 P,.int .i64 L,.bool b,.slice A N c] 203)=w2 at *;have e:=Ya f;have c0:w2.cell? ⟨w.heap.size,0,none⟩=some (.string nm):=by rw[Yb a];rfl
 have c1:w2.cell? ⟨w.heap.size,1,none⟩=some (.int .i64 P):=by rw[Yb a];rfl
 have c2:w2.cell? ⟨w.heap.size,2,none⟩=some (.int .i64 L):=by rw[Yb a];rfl
 have c3:w2.cell? ⟨w.heap.size,3,none⟩=some (.bool b):=by rw[Yb a];rfl
 have c4:w2.cell? ⟨w.heap.size,4,none⟩=some (.slice A N c):=by rw[Yb a];rfl
 go_wp2_with fail
 refine(l.out w2 e.out).mono ?_;rintro e4 u ⟨rfl,d⟩;have s:u.cell? ⟨w.heap.size,2,none⟩=some (.int .i64 L):=(d.cell (p:=⟨w.heap.size,2,none⟩) n).trans c2;have o:=Ya (e.out.trans (d.mono e.out.size));have t:=d.size;clear c0 c1 c2 c3 c4 f a d;by_cases h0:κ=0
 .obtain⟨l0,l1⟩:=j h0
  have m:(κ != 0)=false:=by simp[h0]
  have k:=Ya (show res=L+1+14 from by rw[g.out,if_neg (by simp[h0])];omega);clear h0 j;go_wp2_with fail
  go_ret
  exact⟨Zs k.out.symm,o.out⟩
 .have m:(κ != 0)=true:=by simp[h0]
  have k:=Ya (show res=0 from by rw[g.out,if_pos h0]);clear h0 j;go_wp2_with fail
  go_ret
  exact⟨Zs k.out.symm,o.out⟩
section
structure CH where
 r:BR
 A:Option Addr
 c:Nat
 fr:Int
def Zfo (h:CH)(v:Value)(lab:Int):Array Value:=#[.string h.r.name,.int .i64 h.r.params,.int .i64 h.r.locals,.bool h.r.behind,.slice h.A h.r.body.length h.c,.int .i64 h.fr,v,.int .i64 lab]
structure CAt (base p:Nat)(h:CH)(xs:List S.Item)(lab:Int)(w:World):Prop where
 low:base<=p
 at_:∃v,w.heap[p]?=some (.cells (Zfo h v lab) 242)/\w.ownsRow base 135 8 v xs.length (xs.flatMap Zb)
theorem CAt.lt {base p:Nat}{h:CH}{xs:List S.Item}{lab:Int}{w:World}(H:CAt base p h xs lab w):p<w.heap.size:=by
 obtain⟨_,v,b,_⟩:=H;rcases Ych p w.heap.size with a|a
 .exact a
 .simp[Ybk a] at b
theorem CAt.keep {base p:Nat}{h:CH}{xs:List S.Item}{lab:Int}{w w':World}(H:CAt base p h xs lab w)(b:Below w.heap.size w w'):CAt base p h xs lab w':=by
 have a:=H.lt;obtain⟨c,v,e,d⟩:=H;exact⟨c,v,(b.block p a).trans e,Zc d b⟩
theorem Zak {w:World}{B:Nat}{e T:TypeId}{size:Nat}{v:Value}{n:Nat}{xs:List Value}{b:Nat}{cs:Array Value}{fr:Nat×Nat}(a:w.ownsRow B e size v n xs)(c:w.heap[b]?=some (.cells cs T fr))(d:T≠e):v.ownBlock≠some b:=by
 rcases a.2 with⟨rfl,_⟩|⟨g,cap,f,rfl,_,hg,_⟩
 .simp[Yaj]
 .intro h
  simp only[Yaj,Option.some.injEq] at h;subst h;rw[hg] at c;simp only[Option.some.injEq,Obj.cells.injEq] at c;exact d c.2.1.symm
def Z2w (w w':World):Prop:=∀(k:Nat)(r:Array Value)(T:TypeId)(o:Nat×Nat),w.heap[k]?=some (.cells r T o)->T≠135->T≠242->w'.heap[k]?=some (.cells r T o)
structure CK (base:Nat)(w w':World):Prop where
 below:Below base w w'
 keep:Z2w w w'
theorem CK.size {base:Nat}{w w':World}(h:CK base w w'):w.heap.size<=w'.heap.size:=h.below.size
theorem CK.trans {base:Nat}{w w' a:World}(h:CK base w w')(c:CK base w' a):CK base w a:=⟨h.below.trans c.below,λ k r T o e b d=>c.keep k r T o (h.keep k r T o e b d) b d⟩
theorem CK.refl (base:Nat)(w:World):CK base w w:=⟨Yj _ _,λ _ _ _ _ a _ _=>a⟩
theorem CK.of {base:Nat}{w w':World}(h:Below w.heap.size w w')(c:base<=w.heap.size):CK base w w':=⟨h.mono c,λ k r T o b _ _=>by
 rcases Ych k w.heap.size with a|a
 .exact(h.block k a).trans b
 .simp[Ybk a] at b⟩
def Zfy (base p:Nat)(h:CH)(xs ys:List S.Item)(lab:Int)(w:World)(e:Ending)(w':World):Prop:=e=.returned (.tuple #[])/\CAt base p h (xs++ys) lab w'/\CK base w w'
theorem Zaj {base p:Nat}{h:CH}{xs:List S.Item}{x:S.Item}{lab:Int}{w d:World}{v f:Value}(a:base<=p)(hbw:base<=w.heap.size)(g:w.heap[p]?=some (.cells (Zfo h v lab) 242))(u:w.ownsRow base 135 8 v xs.length (xs.flatMap Zb))
 (j:d.ownsRow base 135 8 f (xs.length+1) (xs.flatMap Zb++Zb x)) (hg:w.grownBy d v.ownBlock) (y:Below base w d):CAt base p h (xs++[x]) lab (d.setCell ⟨p,6,none⟩ f)/\CK base w (d.setCell ⟨p,6,none⟩ f):=by
 have s:=Zak u g (by decide);have q:p<w.heap.size:=by
  rcases Ych p w.heap.size with c|c
  .exact c
  .simp[Ybk c] at g
 have b:d.heap[p]?=some (.cells (Zfo h v lab) 242):=(hg.block p q (λ e=>s e.symm)).trans g;have t:(d.setCell ⟨p,6,none⟩ f).heap[p]?=some (.cells (Zfo h f lab) 242):=by
  rw[setCell_eq_setRow _ _ _ _ _ _ _ b];exact setRow_heap _ _ _ _ _ _ b
 have n:=Zak j b (by decide);refine⟨⟨a,f,t,?_⟩,y.setCell (p:=⟨p,6,none⟩) a _,λ k r T o i z A=>?_⟩
 .rw[Yc,List.flatMap_append,List.flatMap_singleton]
  exact j.kept (row:=some p) ⟨rfl,rfl,rfl,by simp[World.setCell],λ k _ g=>Ybd _ _ _ _ (λ e=>g (by simp[e]))⟩ (Or.inr n)
 .have hkp:k≠p:=by
   rintro rfl;rw[g] at i;simp only[Option.some.injEq,Obj.cells.injEq] at i;exact A i.2.1.symm
  have l:k<w.heap.size:=by
   rcases Ych k w.heap.size with c|c
   .exact c
   .simp[Ybk c] at i
  have m:=Zak u i z;rw[Ybd _ _ _ _ hkp];exact(hg.block k l (λ e=>m e.symm)).trans i
section
variable {base p:Nat}{h:CH}{xs:List S.Item}{lab:Int}{w:World}(H:CAt base p h xs lab w)(hbw:base<=w.heap.size)(hl:xs.length<=100000000)
include H hbw hl
theorem Zgq (s:ByteArray):Calls prog 226 #[.pointer (some ⟨p,0,none⟩),.string s] w (Zfy base p h xs [bL s] lab w):=by
 have i:=H.lt;obtain⟨c,v,g,f⟩:=H;have c6:w.cell? ⟨p,6,none⟩=some v:=by rw[Yb g];rfl
 have k:=Ya g;have j:=Ya f;obtain⟨A',c',rfl⟩:=Za f;clear g f;go_enter func226,ntmps226
 go_wp2_with (at_builtin;refine Zk rfl (.tmp 8) (.tmp 11) _ rfl base 135 Zu underlying103 rfl (by decide) #[.int .i64 2,.int .i64 0,.int .i64 0,.int .i64 0,.int .i64 0,.int .i64 0,.string s,.int .u32 0] _ _ _ rfl j.out rfl rfl rfl (by simp[Yt]) (by simp only[maxLen];omega) (by omega) hbw ?_;intro v' m b a l _;obtain⟨A8,c8,rfl⟩:=Za b;have d:=(a.block p i (λ e=>Zak j.out k.out (by decide) e.symm)).trans k.out;have f6:m.frozen? ⟨p,6,none⟩=false:=Yai d 6;have d6:∃u,m.cell? ⟨p,6,none⟩=some u:=⟨_,by rw[Yb d];rfl⟩;obtain⟨u6,d6⟩:=d6)
 go_end0
 obtain⟨n,o⟩:=Zaj (x:=bL s) c hbw k.out j.out b a l;exact⟨rfl,n,o⟩
theorem Zn2 (d:Int)(s:ByteArray):Calls prog 264 #[.pointer (some ⟨p,0,none⟩),.int .i64 d,.string s] w (Zfy base p h xs [bJ d s] lab w):=by
 have j:=H.lt;obtain⟨c,v,i,g⟩:=H;have c6:w.cell? ⟨p,6,none⟩=some v:=by rw[Yb i];rfl
 have l:=Ya i;have k:=Ya g;obtain⟨A',c',rfl⟩:=Za g;clear i g;go_enter func264,ntmps264
 go_wp2_with (at_builtin;refine Zk rfl (.tmp 10) (.tmp 15) _ rfl base 135 Zu underlying103 rfl (by decide) (Zb (bJ d s)).toArray _ _ _ rfl k.out rfl rfl rfl (by simp[Yt,Zb]) (by simp only[maxLen];omega) (by omega) hbw ?_;intro v' n b a m _;obtain⟨A8,c8,rfl⟩:=Za b;have f:=(a.block p j (λ e=>Zak k.out l.out (by decide) e.symm)).trans l.out;have f6:n.frozen? ⟨p,6,none⟩=false:=Yai f 6;have d6:∃u,n.cell? ⟨p,6,none⟩=some u:=⟨_,by rw[Yb f];rfl⟩;obtain⟨u6,d6⟩:=d6)
 go_end0
 obtain⟨o,q⟩:=Zaj (x:=bJ d s) c hbw l.out k.out b a m;exact⟨rfl,o,q⟩
theorem Zn3 (a:Int)(s:ByteArray):Calls prog 280 #[.pointer (some ⟨p,0,none⟩),.int .i64 a,.string s] w (Zfy base p h xs [bU a s] lab w):=by
 have j:=H.lt;obtain⟨d,v,i,g⟩:=H;have c6:w.cell? ⟨p,6,none⟩=some v:=by rw[Yb i];rfl
 have l:=Ya i;have k:=Ya g;obtain⟨A',c',rfl⟩:=Za g;clear i g;go_enter func280,ntmps280
 go_wp2_with (at_builtin;refine Zk rfl (.tmp 10) (.tmp 15) _ rfl base 135 Zu underlying103 rfl (by decide) (Zb (bU a s)).toArray _ _ _ rfl k.out rfl rfl rfl (by simp[Yt,Zb]) (by simp only[maxLen];omega) (by omega) hbw ?_;intro v' n c b m _;obtain⟨A8,c8,rfl⟩:=Za c;have f:=(b.block p j (λ e=>Zak k.out l.out (by decide) e.symm)).trans l.out;have f6:n.frozen? ⟨p,6,none⟩=false:=Yai f 6;have d6:∃u,n.cell? ⟨p,6,none⟩=some u:=⟨_,by rw[Yb f];rfl⟩;obtain⟨u6,d6⟩:=d6)
 go_end0
 obtain⟨o,q⟩:=Zaj (x:=bU a s) d hbw l.out k.out c b m;exact⟨rfl,o,q⟩
theorem Zaw (op d a b imm:Int):Calls prog 227 #[.pointer (some ⟨p,0,none⟩),.agg #[.int .i64 op,.int .i64 d,.int .i64 a,.int .i64 b,.int .i64 imm]] w (Zfy base p h xs [bI op d a b imm] lab w):=by
 have z:Below w.heap.size w (w.alloc (.cells #[.int .i64 op,.int .i64 d,.int .i64 a,.int .i64 b,.int .i64 imm] 133)):=(Yj _ _).alloc (Yd _) _;have E:=heap_alloc_new w (.cells #[.int .i64 op,.int .i64 d,.int .i64 a,.int .i64 b,.int .i64 imm] 133);have C:w.heap.size<(w.alloc (.cells #[.int .i64 op,.int .i64 d,.int .i64 a,.int .i64 b,.int .i64 imm] 133)).heap.size:=by simp
 have A:=Ya (CK.of z hbw);have N:=H.keep z;clear H;go_enter func227,ntmps227
 go_upto_region 1 with fail
 refine wp_region_any (by kernel_rfl) ?_;generalize w.alloc (.cells #[.int .i64 op,.int .i64 d,.int .i64 a,.int .i64 b,.int .i64 imm] 133)=w2 at *;change wpAny _ _ _ _ _ _ _ (World.drew w2);have y:Below w2.heap.size w2 w2.drew:=⟨rfl,rfl,rfl,Yd _,λ _ _=>rfl⟩
 have O:=N.keep y;have n:=(y.block _ C).trans E;have Q:w.heap.size<w2.drew.heap.size:=Yr C y.size;have r:=Ya (A.out.trans (CK.of y (by have:=A.out.size;omega)));clear N y E C z A;generalize w2.drew=w3 at *;have e0:w3.cell? ⟨w.heap.size,0,none⟩=some (.int .i64 op):=by rw[Yb n];rfl
 have e1:w3.cell? ⟨w.heap.size,1,none⟩=some (.int .i64 d):=by rw[Yb n];rfl
 have e2:w3.cell? ⟨w.heap.size,2,none⟩=some (.int .i64 a):=by rw[Yb n];rfl
 have e3:w3.cell? ⟨w.heap.size,3,none⟩=some (.int .i64 b):=by rw[Yb n];rfl
 have e4:w3.cell? ⟨w.heap.size,4,none⟩=some (.int .i64 imm):=by rw[Yb n];rfl
 have f:base<=w3.heap.size:=by have:=r.out.size;omega
 have t:=O.lt;obtain⟨m,v,L,F⟩:=O;have c6:w3.cell? ⟨p,6,none⟩=some v:=by rw[Yb L];rfl
 have o:=Ya L;have q:=Ya F;obtain⟨R,P,rfl⟩:=Za F;clear L F n
 (refine wpAny_take (i:=0) (v:=?vv1) rfl (by kernel_rfl) (by kernel_rfl) (by kernel_rfl) (λ _ _ _ h=>h) (Or.inl ⟨by rfl,?yy1⟩) ?zz1;(case yy1=>intro w;go_simp;try with_reducible rfl);go_simp)
 (refine wpAny_take (i:=1) (v:=?vv2) rfl (by kernel_rfl) (by kernel_rfl) (by kernel_rfl) (λ _ _ _ h=>h) (Or.inl ⟨by rfl,?yy2⟩) ?zz2;(case yy2=>intro w;go_simp;try with_reducible rfl);go_simp)
 (refine wpAny_take (i:=2) (v:=?vv3) rfl (by kernel_rfl) (by kernel_rfl) (by kernel_rfl) (λ _ _ _ h=>h) (Or.inl ⟨by rfl,?yy3⟩) ?zz3;(case yy3=>intro w;go_simp;try with_reducible rfl);go_simp)
 (refine wpAny_take (i:=3) (v:=?vv4) rfl (by kernel_rfl) (by kernel_rfl) (by kernel_rfl) (λ _ _ _ h=>h) (Or.inl ⟨by rfl,?yy4⟩) ?zz4;(case yy4=>intro w;go_simp;try with_reducible rfl);go_simp)
 refine wpAny_ready (rs:=[4,5]) (by kernel_rfl) (by simp) ?_;refine Yf rfl (λ K c=>?_) (Yf rfl (λ K c=>?_) Yi)
 .go_simp
  refine c _ _ ?_;clear c K
  (refine wpAny_ready (rs:=[5]) (by kernel_rfl) (by simp) ?_;refine Yf rfl (λ K c=>?_) Yi;go_simp;refine c _ _ ?_;clear c K)
  (refine wpAny_ready (rs:=[6]) (by kernel_rfl) (by simp) ?_;refine Yf rfl (λ K c=>?_) Yi;go_simp;refine c _ _ ?_;clear c K)
  (refine wpAny_ready (rs:=[7]) (by kernel_rfl) (by simp) ?_;refine Yf rfl (λ K c=>?_) Yi;go_simp;refine c _ _ ?_;clear c K)
  refine wpAny_ready (rs:=[8]) (by kernel_rfl) (by simp) ?_;refine Yf rfl (λ K c=>?_) Yi;rw[if_pos (by simp[Yah])];refine Zda (.tmp 8) (.tmp 11) _ rfl base 135 Zu underlying103 rfl (by decide) (Zb (bI op d a b imm)).toArray _ _ _ rfl q.out rfl rfl rfl (by simp[Yt,Zb]) (by simp only[maxLen];omega) (by omega) f ?_;intro I s j g l _;obtain⟨J,M,rfl⟩:=Za j;have k:=(g.block p t (λ e=>Zak q.out o.out (by decide) e.symm)).trans o.out;have f6:s.frozen? ⟨p,6,none⟩=false:=Yai k 6;have d6:∃u,s.cell? ⟨p,6,none⟩=some u:=⟨_,by rw[Yb k];rfl⟩
  obtain⟨G,d6⟩:=d6;refine c _ _ ?_;clear c K;go_simp
  (refine wpAny_take (i:=9) (v:=?vv5) rfl (by kernel_rfl) (by kernel_rfl) (by kernel_rfl) (λ _ _ _ h=>h) (Or.inl ⟨by rfl,?yy5⟩) ?zz5;(case yy5=>intro w;go_simp;try with_reducible rfl);go_simp)
  (refine wpAny_take (i:=10) (v:=?vv6) rfl (by kernel_rfl) (by kernel_rfl) (by kernel_rfl) (λ _ _ _ h=>h) (Or.inl ⟨by rfl,?yy6⟩) ?zz6;(case yy6=>intro w;go_simp;try with_reducible rfl);go_simp)
  (refine wpAny_ready (rs:=[11]) (by kernel_rfl) (by simp) ?_;refine Yf rfl (λ K c=>?_) Yi;go_simp;refine c _ _ ?_;clear c K)
  refine wpAny_done (by kernel_rfl) ?_ _
  go_end0
  obtain⟨B,D⟩:=Zaj (x:=bI op d a b imm) m f o.out q.out j g l;exact⟨rfl,B,r.out.trans D⟩
 .go_simp
  refine c _ _ ?_;clear c K;refine wpAny_ready (rs:=[4,6]) (by kernel_rfl) (by simp) ?_;refine Yf rfl (λ K c=>?_) (Yf rfl (λ K c=>?_) Yi)
  .go_simp
   refine c _ _ ?_;clear c K
   (refine wpAny_ready (rs:=[6]) (by kernel_rfl) (by simp) ?_;refine Yf rfl (λ K c=>?_) Yi;go_simp;refine c _ _ ?_;clear c K)
   (refine wpAny_ready (rs:=[7]) (by kernel_rfl) (by simp) ?_;refine Yf rfl (λ K c=>?_) Yi;go_simp;refine c _ _ ?_;clear c K)
   refine wpAny_ready (rs:=[8]) (by kernel_rfl) (by simp) ?_;refine Yf rfl (λ K c=>?_) Yi;rw[if_pos (by simp[Yah])];refine Zda (.tmp 8) (.tmp 11) _ rfl base 135 Zu underlying103 rfl (by decide) (Zb (bI op d a b imm)).toArray _ _ _ rfl q.out rfl rfl rfl (by simp[Yt,Zb]) (by simp only[maxLen];omega) (by omega) f ?_;intro I s j g l _;obtain⟨J,M,rfl⟩:=Za j;have k:=(g.block p t (λ e=>Zak q.out o.out (by decide) e.symm)).trans o.out;have f6:s.frozen? ⟨p,6,none⟩=false:=Yai k 6;have d6:∃u,s.cell? ⟨p,6,none⟩=some u:=⟨_,by rw[Yb k];rfl⟩
   obtain⟨G,d6⟩:=d6;refine c _ _ ?_;clear c K;go_simp
   (refine wpAny_take (i:=9) (v:=?vv7) rfl (by kernel_rfl) (by kernel_rfl) (by kernel_rfl) (λ _ _ _ h=>h) (Or.inl ⟨by rfl,?yy7⟩) ?zz7;(case yy7=>intro w;go_simp;try with_reducible rfl);go_simp)
   (refine wpAny_take (i:=10) (v:=?vv8) rfl (by kernel_rfl) (by kernel_rfl) (by kernel_rfl) (λ _ _ _ h=>h) (Or.inl ⟨by rfl,?yy8⟩) ?zz8;(case yy8=>intro w;go_simp;try with_reducible rfl);go_simp)
   (refine wpAny_ready (rs:=[11]) (by kernel_rfl) (by simp) ?_;refine Yf rfl (λ K c=>?_) Yi;go_simp;refine c _ _ ?_;clear c K)
   refine wpAny_done (by kernel_rfl) ?_ _
   go_end0
   obtain⟨B,D⟩:=Zaj (x:=bI op d a b imm) m f o.out q.out j g l;exact⟨rfl,B,r.out.trans D⟩
  .go_simp
   refine c _ _ ?_;clear c K;refine wpAny_ready (rs:=[4,7]) (by kernel_rfl) (by simp) ?_;refine Yf rfl (λ K c=>?_) (Yf rfl (λ K c=>?_) Yi)
   .go_simp
    refine c _ _ ?_;clear c K
    (refine wpAny_ready (rs:=[7]) (by kernel_rfl) (by simp) ?_;refine Yf rfl (λ K c=>?_) Yi;go_simp;refine c _ _ ?_;clear c K)
    refine wpAny_ready (rs:=[8]) (by kernel_rfl) (by simp) ?_;refine Yf rfl (λ K c=>?_) Yi;rw[if_pos (by simp[Yah])];refine Zda (.tmp 8) (.tmp 11) _ rfl base 135 Zu underlying103 rfl (by decide) (Zb (bI op d a b imm)).toArray _ _ _ rfl q.out rfl rfl rfl (by simp[Yt,Zb]) (by simp only[maxLen];omega) (by omega) f ?_;intro I s j g l _;obtain⟨J,M,rfl⟩:=Za j;have k:=(g.block p t (λ e=>Zak q.out o.out (by decide) e.symm)).trans o.out;have f6:s.frozen? ⟨p,6,none⟩=false:=Yai k 6;have d6:∃u,s.cell? ⟨p,6,none⟩=some u:=⟨_,by rw[Yb k];rfl⟩
    obtain⟨G,d6⟩:=d6;refine c _ _ ?_;clear c K;go_simp
    (refine wpAny_take (i:=9) (v:=?vv9) rfl (by kernel_rfl) (by kernel_rfl) (by kernel_rfl) (λ _ _ _ h=>h) (Or.inl ⟨by rfl,?yy9⟩) ?zz9;(case yy9=>intro w;go_simp;try with_reducible rfl);go_simp)
    (refine wpAny_take (i:=10) (v:=?vv10) rfl (by kernel_rfl) (by kernel_rfl) (by kernel_rfl) (λ _ _ _ h=>h) (Or.inl ⟨by rfl,?yy10⟩) ?zz10;(case yy10=>intro w;go_simp;try with_reducible rfl);go_simp)
    (refine wpAny_ready (rs:=[11]) (by kernel_rfl) (by simp) ?_;refine Yf rfl (λ K c=>?_) Yi;go_simp;refine c _ _ ?_;clear c K)
    refine wpAny_done (by kernel_rfl) ?_ _
    go_end0
    obtain⟨B,D⟩:=Zaj (x:=bI op d a b imm) m f o.out q.out j g l;exact⟨rfl,B,r.out.trans D⟩
   .go_simp
    refine c _ _ ?_;clear c K;have c6:(w3.alloc (Obj.cells (Zb (bI op d a b imm)).toArray 135)).cell? ⟨p,6,none⟩=some (.slice R xs.length P):=by rw[Yb ((heap_alloc_old _ _ t).trans o.out)];rfl
    simp only[Zb,bI] at c6
    (refine wpAny_ready (rs:=[4]) (by kernel_rfl) (by simp) ?_;refine Yf rfl (λ K c=>?_) Yi;go_simp;refine c _ _ ?_;clear c K)
    refine wpAny_ready (rs:=[8]) (by kernel_rfl) (by simp) ?_;refine Yf rfl (λ K c=>?_) Yi;rw[if_pos (by simp[Yah])];refine Zda (.tmp 8) (.tmp 11) _ rfl base 135 Zu underlying103 rfl (by decide) (Zb (bI op d a b imm)).toArray _ _ _ rfl q.out rfl rfl rfl (by simp[Yt,Zb]) (by simp only[maxLen];omega) (by omega) f ?_;intro I s j g l _;obtain⟨J,M,rfl⟩:=Za j;have k:=(g.block p t (λ e=>Zak q.out o.out (by decide) e.symm)).trans o.out;have f6:s.frozen? ⟨p,6,none⟩=false:=Yai k 6;have d6:∃u,s.cell? ⟨p,6,none⟩=some u:=⟨_,by rw[Yb k];rfl⟩
    obtain⟨G,d6⟩:=d6;refine c _ _ ?_;clear c K;go_simp
    (refine wpAny_take (i:=9) (v:=?vv11) rfl (by kernel_rfl) (by kernel_rfl) (by kernel_rfl) (λ _ _ _ h=>h) (Or.inl ⟨by rfl,?yy11⟩) ?zz11;(case yy11=>intro w;go_simp;try with_reducible rfl);go_simp)
    (refine wpAny_take (i:=10) (v:=?vv12) rfl (by kernel_rfl) (by kernel_rfl) (by kernel_rfl) (λ _ _ _ h=>h) (Or.inl ⟨by rfl,?yy12⟩) ?zz12;(case yy12=>intro w;go_simp;try with_reducible rfl);go_simp)
    (refine wpAny_ready (rs:=[11]) (by kernel_rfl) (by simp) ?_;refine Yf rfl (λ K c=>?_) Yi;go_simp;refine c _ _ ?_;clear c K)
    refine wpAny_done (by kernel_rfl) ?_ _
    go_end0
    obtain⟨B,D⟩:=Zaj (x:=bI op d a b imm) m f o.out q.out j g l;exact⟨rfl,B,r.out.trans D⟩
end
end
section
theorem Zq4 (x:Int)(h0:0<=x)(a:x<=4294967295):bits .and .i64 x 65535=x%65536:=by
 have h:(BitVec.ofInt 64 x &&& BitVec.ofInt 64 65535).toNat=(x%65536).toNat:=by
  rw[BitVec.toNat_and];have a:(BitVec.ofInt 64 65535).toNat=2^16-1:=by decide
  rw[a,Nat.and_two_pow_sub_one_eq_mod,BitVec.toNat_ofInt];omega
 show IntKind.i64.wrap ((BitVec.ofInt 64 x &&& BitVec.ofInt 64 65535).toNat:Int)=_
 rw[h,IntKind.wrap_i64];omega
structure HOk (h:CH):Prop where
 fr0:0<=h.fr
 fr1:h.fr<=1000
 l0:0<=h.r.locals
 l1:h.r.locals<=200
section
variable {base p:Nat}{h:CH}{xs:List S.Item}{lab:Int}{w:World}(H:CAt base p h xs lab w)(hbw:base<=w.heap.size)
include H
theorem CAt.cell_fr:w.cell? ⟨p,5,none⟩=some (.int .i64 h.fr):=by
 obtain⟨_,v,a,_⟩:=H;rw[Yb a];rfl
theorem CAt.cell_loc:w.cell? ⟨p,2,none⟩=some (.int .i64 h.r.locals):=by
 obtain⟨_,v,a,_⟩:=H;rw[Yb a];rfl
theorem CAt.cell_bh:w.cell? ⟨p,3,none⟩=some (.bool h.r.behind):=by
 obtain⟨_,v,a,_⟩:=H;rw[Yb a];rfl
theorem CAt.cell_lab:w.cell? ⟨p,7,none⟩=some (.int .i64 lab):=by
 obtain⟨_,v,a,_⟩:=H;rw[Yb a];rfl
theorem Zx5 (a:HOk h)(k:Nat)(hk:k<=1000000):Calls prog 294 #[.pointer (some ⟨p,0,none⟩),.int .i64 (k:Int)] w λ e w'=>e=.returned (.int .i64 (1+h.r.locals+k))/\w'=w:=by
 have c2:=H.cell_loc;obtain⟨_,_,l0,l1⟩:=a;generalize h.r.locals=L at *;clear H;go_enter func294,ntmps294
 go_wp2_with fail
 go_ret
 exact⟨rfl,rfl⟩
include hbw
theorem Zkz (hl:xs.length<=100000000)(d a:Int):Calls prog 262 #[.pointer (some ⟨p,0,none⟩),.int .i64 d,.int .i64 a] w (Zfy base p h xs [bMove d a] lab w):=by
 have b:=Ya (Zaw H hbw hl 15 d a 0 0);clear H;go_enter func262,ntmps262
 go_wp2_with fail
 refine b.out.mono ?_;rintro e w2 ⟨rfl,c,f⟩;go_wp2_with fail
 go_end0
 exact⟨rfl,c,f⟩
theorem Zq5 (hl:xs.length<=100000000)(g:HOk h)(d b:Int)(i:-1000000000<=b/\b<=1000000000):Calls prog 282 #[.pointer (some ⟨p,0,none⟩),.int .i64 d,.int .i64 b] w (Zfy base p h xs [bLoad h.fr d b] lab w):=by
 have c:=Ya (Zaw H hbw hl 24 d 28 0 (b-h.fr));have c5:=H.cell_fr;obtain⟨f0,f1,_,_⟩:=g;unfold bLoad;obtain⟨fr,a⟩:=Yx h.fr;rw[<- a] at c5 c f0 f1⊢;clear H a;go_enter func282,ntmps282
 go_wp2_with fail
 refine c.out.mono ?_;rintro e w2 ⟨rfl,f,j⟩;go_wp2_with fail
 go_end0
 exact⟨rfl,f,j⟩
theorem Zq6 (hl:xs.length<=100000000)(g:HOk h)(d b:Int)(i:-1000000000<=b/\b<=1000000000):Calls prog 260 #[.pointer (some ⟨p,0,none⟩),.int .i64 d,.int .i64 b] w (Zfy base p h xs [bStore h.fr d b] lab w):=by
 have c:=Ya (Zaw H hbw hl 25 0 28 d (b-h.fr));have c5:=H.cell_fr;obtain⟨f0,f1,_,_⟩:=g;unfold bStore;obtain⟨fr,a⟩:=Yx h.fr;rw[<- a] at c5 c f0 f1⊢;clear H a;go_enter func260,ntmps260
 go_wp2_with fail
 refine c.out.mono ?_;rintro e w2 ⟨rfl,f,j⟩;go_wp2_with fail
 go_end0
 exact⟨rfl,f,j⟩
theorem Zx6 (hl:xs.length<=100000000)(d:HOk h):Calls prog 263 #[.pointer (some ⟨p,0,none⟩)] w (Zfy base p h xs [bPop h.fr] lab w):=by
 have b:=Ya (Zaw H hbw hl 15 28 28 0 (-h.fr));have c5:=H.cell_fr;obtain⟨f0,f1,_,_⟩:=d;unfold bPop;obtain⟨fr,a⟩:=Yx h.fr;rw[<- a] at c5 b f0 f1⊢;clear H a;go_enter func263,ntmps263
 go_wp2_with fail
 refine b.out.mono ?_;rintro e w2 ⟨rfl,c,f⟩;go_wp2_with fail
 go_end0
 exact⟨rfl,c,f⟩
theorem Ziq (hl:xs.length+1<=100000000)(d n:Int)(hn:-2147483648<=n/\n<=4294967295):Calls prog 281 #[.pointer (some ⟨p,0,none⟩),.int .i64 d,.int .i64 n] w (Zfy base p h xs (bConst d n) lab w):=by
 have g:=Ya (λ(ys:List S.Item) (W:World) (hy:ys.length<=1) (r:CAt base p h (xs++ys) lab W) (o:CK base w W) (op d a b imm:Int)=>Zaw r (by have:=o.size;omega) (by simp only[Yc];omega) op d a b imm);have c:=Ya H;clear H;unfold bConst;by_cases q:-32768<=n
 .by_cases h2:n<32768
  .rw[if_pos ⟨q,h2⟩]
   go_enter func281,ntmps281
   go_wp2_with fail
   refine(g.out [] w (by simp) (by simpa using c.out) (CK.refl _ _) 15 d 0 0 n).mono ?_;rintro e j ⟨rfl,i,f⟩;go_wp2_with fail
   go_end0
   exact⟨rfl,by simpa using i,f⟩
  .rw[if_neg (by omega)]
   go_enter func281,ntmps281
   go_wp2_with fail
   refine(g.out [] w (by simp) (by simpa using c.out) (CK.refl _ _) 23 d 0 0 (n/65536)).mono ?_;rintro e j ⟨rfl,i,f⟩;go_wp2_with fail
   rw[Zq4 n (by omega) (by omega)];refine(g.out [bI 23 d 0 0 (n/65536)] j (by simp) (by simpa using i) f 17 d d 0 (n%65536)).mono ?_;rintro e s ⟨rfl,l,k⟩;go_wp2_with fail
   go_end0
   have m:n%4294967296=n:=by omega
   exact⟨rfl,by rw[m];simpa using l,f.trans k⟩
 .rw[if_neg (by omega)]
  go_enter func281,ntmps281
  go_wp2_with fail
  refine(g.out [] w (by simp) (by simpa using c.out) (CK.refl _ _) 23 d 0 0 (n%4294967296/65536)).mono ?_;rintro e j ⟨rfl,i,f⟩;go_wp2_with fail
  rw[Zq4 (n%4294967296) (by omega) (by omega)];refine(g.out [bI 23 d 0 0 (n%4294967296/65536)] j (by simp) (by simpa using i) f 17 d d 0 (n%4294967296%65536)).mono ?_;rintro e s ⟨rfl,l,k⟩;go_wp2_with fail
  go_end0
  exact⟨rfl,by simpa using l,f.trans k⟩
theorem Zw8 (hl:xs.length+6<=100000000)(D:HOk h):Calls prog 230 #[.pointer (some ⟨p,0,none⟩)] w (Zfy base p h xs (bBack h.fr h.r.behind) lab w):=by
 have j:=Ya (λ(ys:List S.Item) (W:World) (hy:ys.length<=6) (n:CAt base p h (xs++ys) lab W) (B:CK base w W) (op d a b imm:Int)=>Zaw n (by have:=B.size;omega) (by simp only[Yc];omega) op d a b imm);have z:=Ya (Zx6 H hbw (by omega) D);have q:=Ya (λ(ys:List S.Item) (W:World) (n:CAt base p h (xs++ys) lab W)=>n.cell_bh);clear H;obtain⟨ys,c⟩:=Yx (bBack h.fr h.r.behind);rw[<- c];unfold bBack at c;have f:=Ya c;clear c;obtain⟨A,i⟩:=Yx h.r.behind;rw[<- i] at q f;clear i;go_enter func230,ntmps230
 go_wp2_with fail
 refine z.out.mono ?_;rintro e E ⟨rfl,C,o⟩;go_wp2_with fail
 refine(j.out [bPop h.fr] E (by simp) C o 24 31 28 0 0).mono ?_;rintro e v ⟨rfl,l,k2⟩;rw[Yo] at l;have g:=o.trans k2;have c3:=q.out _ _ l
 cases A with
 | false =>
  go_wp2_with fail
  refine(j.out _ v (by simp) l g 33 0 31 0 0).mono ?_;rintro e u ⟨rfl,m,k⟩;go_wp2_with fail
  go_end0
  exact⟨rfl,by rw[f.out];simpa using m,g.trans k⟩
 | true =>
  go_wp2_with fail
  refine(j.out _ v (by simp) l g 24 25 31 0 0).mono ?_;rintro e u ⟨rfl,m,k⟩;rw[Yo] at m;go_wp2_with fail
  refine(j.out _ u (by simp) m (g.trans k) 1 31 31 25 0).mono ?_;rintro e y ⟨rfl,s,t⟩;rw[Yo] at s;go_wp2_with fail
  refine(j.out _ y (by simp) s ((g.trans k).trans t) 33 0 31 0 1).mono ?_;rintro e w6 ⟨rfl,x,F⟩;go_wp2_with fail
  go_end0
  exact⟨rfl,by rw[f.out];simpa using x,((g.trans k).trans t).trans F⟩
theorem Zjq (L:3<=base)(n:LVE w)(D:0<=lab/\lab<=1000000000):Calls prog 279 #[.pointer (some ⟨p,0,none⟩)] w λ e w'=>e=.returned (.string (bLab (lab+1)))/\CAt base p h xs (lab+1) w'/\CK base w w':=by
 have t:=Ya (show bLab (lab+1)=⟨(46::S.itoa (lab+1)).toArray⟩ from rfl);have i:=Ya (Zoa (lab+1));have C:=Ya (λ W (n:LVE W)=>Zrx (lab+1) ⟨by omega,by omega⟩ W n);generalize bLab (lab+1)=R at *;generalize S.itoa (lab+1)=I at *;have c7:=H.cell_lab;have J:=H.lt;obtain⟨a,v,b,s⟩:=H;have f7:w.frozen? ⟨p,7,none⟩=false:=Yai b 7;have z:=Zak s b (by decide);have B:(w.setCell ⟨p,7,none⟩ (.int .i64 (lab+1))).heap[p]?=some (.cells (Zfo h v (lab+1)) 242):=by
  rw[setCell_eq_setRow _ _ _ _ _ _ _ b];exact setRow_heap _ _ _ _ _ _ b
 have f:Below base w (w.setCell ⟨p,7,none⟩ (.int .i64 (lab+1))):=(Yj _ _).setCell (p:=⟨p,7,none⟩) a _;have g:=s.kept (w':=w.setCell ⟨p,7,none⟩ (.int .i64 (lab+1))) (row:=some p) ⟨rfl,rfl,rfl,by simp[World.setCell],λ k _ b=>Ybd _ _ _ _ (λ e=>b (by simp[e]))⟩ (Or.inr z);have m:CAt base p h xs (lab+1) (w.setCell ⟨p,7,none⟩ (.int .i64 (lab+1))):=⟨a,v,B,g⟩
 have c:CK base w (w.setCell ⟨p,7,none⟩ (.int .i64 (lab+1))):=⟨f,λ k r T o q h1 K=>by
  have u:k≠p:=by
   rintro rfl;rw[b] at q;simp only[Option.some.injEq,Obj.cells.injEq] at q;exact K q.2.1.symm
  rw[Ybd _ _ _ _ u];exact q⟩
 have y:=Ya m;have A:=Ya c;have E:=Ya (n.keep f L);have g7:(w.setCell ⟨p,7,none⟩ (.int .i64 (lab+1))).cell? ⟨p,7,none⟩=some (.int .i64 (lab+1)):=by rw[Yb B];rfl
 have x:base<=(w.setCell ⟨p,7,none⟩ (.int .i64 (lab+1))).heap.size:=by have:=c.size;omega
 clear m c f g B b s n;go_enter func279,ntmps279
 go_upto_region 2 with fail
 generalize w.setCell ⟨p,7,none⟩ (.int .i64 (lab+1))=w2 at *;clear c7 f7;go_wp2_with fail
 refine(C.out w2 E.out).mono ?_;rintro e w3 ⟨rfl,d⟩;have G:=Ya (Zyi [46] I);have l:=Ya (y.out.keep d);have j:=Ya (A.out.trans (CK.of d x));have F:=i.out;clear E d;go_wp2_with fail
 go_ret
 exact⟨Zyj (by rw[t.out];exact G.out),l.out,j.out⟩
end
end
