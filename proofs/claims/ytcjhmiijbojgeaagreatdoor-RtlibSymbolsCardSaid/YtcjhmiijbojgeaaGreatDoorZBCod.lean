/- Parts. -/
import Derived.Test.YtcjhmiijbojgeaaGreatDoorZBShp
import Derived.Deep.RegionWith
import Derived.BigRegion
set_option linter.all false
set_option maxHeartbeats 4000000
open Go.Lib renaming hid->Ya,cell_of_heap->Yb,frozen_of_heap->Yy
open Nat renaming le_refl->Yc,lt_of_lt_of_le->Ys,le_trans->Yz,lt_or_ge->Yb2
open Go.AllReady renaming cons->Yf,nil->Yi
open Go.RowKit.Below renaming refl->Yj,heap_setCell->Yal
open Go.Value renaming oneCell'->Yt,ownBlock->Yah
open Go.Region renaming wanted->Yak
open Array renaming getElem?_eq_none->Ybj
namespace Go.Proofs.YtcjhmiijbojgeaaGreatDoor
open S Go.Proofs.Tryz Go.RowKit
set_option maxRecDepth 100000
theorem Zhv {L:Int}{d:Nat}:∀{l:List BS} {k:Nat} {s:BS},chkSs L (l.take k) d=0->l[k]?=some s->chkS L s d≠0->chkSs L l d=chkS L s d
 | [],k,s,_,h,_=>by simp at h
 | x::r,0,s,_,h,h2=>by
  simp only[List.getElem?_cons_zero,Option.some.injEq] at h;subst h;rw[chkSs,if_pos h2]
 | x::r,k+1,s,h0,h,h2=>by
  rw[List.take_succ_cons,chkSs] at h0;have a:chkS L x d=0:=by
   by_cases c:chkS L x d≠0
   .rw[if_pos c] at h0;exact absurd h0 c
   .simpa using c
  rw[if_neg (by simp[a])] at h0;rw[chkSs,if_neg (by simp[a])];exact Zhv h0 (by simpa using h) h2
theorem Zjw {L:Int}{d:Nat}{s:BS}:∀{l:List BS},chkSs L l d=0->chkS L s d=0->chkSs L (l++[s]) d=0
 | [],_,h=>by rw[List.nil_append,chkSs,if_neg (by simp[h]),chkSs]
 | x::r,h0,h=>by
  rw[chkSs] at h0;have a:chkS L x d=0:=by
   by_cases c:chkS L x d≠0
   .rw[if_pos c] at h0;exact absurd h0 c
   .simpa using c
  rw[if_neg (by simp[a])] at h0;rw[List.cons_append,chkSs,if_neg (by simp[a])];exact Zjw h0 h
theorem Ztj (L:Int)(s:BS)(d:Nat):chkS L s d=if (!(shapedS L s.op s.n s.name s.exprs.length s.regs s.body.length s.els.length && formedEs L s.exprs))=true then 4
 else if 200<=d\/14<needEs s.exprs 0 then 5 else if chkSs L s.body (d+1)≠0 then chkSs L s.body (d+1) else chkSs L s.els (d+1):=by
 obtain⟨op,n,name,exprs,regs,body,els⟩:=s;rw[chkS];rfl
theorem Zdc:∀l:List BS,l.length<=Zhe l
 | []=>by simp
 | e::r=>by
  rw[Zhe,List.length_cons];have:=Zdc r;have:=Ziq e;omega
def Zf3 (L:Int)(l:List BS)(d:Nat)(w:World)(x:Ending)(w':World):Prop:=x=.returned (.int .i64 (chkSs L l d))/\Below w.heap.size w w'
def Sts (rn:ByteArray)(P L:Int)(bh:Bool)(Ab:Option Addr)(nb cb n:Nat):Prop:=∀(l:List BS)(A:Option Addr)(c d:Nat)(w:World),Zhe l<=n->d<=200->SList w w.heap.size A l ->
 Calls prog 206 #[.agg #[.string rn,.int .i64 P,.int .i64 L,.bool bh,.slice Ab nb cb],.slice A l.length c,.int .i64 (d:Int)] w (Zf3 L l d w)
theorem Zxp {r:ByteArray}{P L:Int}{s:Bool}{q:Option Addr}{nb y n:Nat}(hF:Fmd r P L s q nb y n)(g:Nat)(w:World)(D:w.heap[g]?=some (.cells #[.string r,.int .i64 P,.int .i64 L,.bool s,.slice q nb y] 169))(hg:g<w.heap.size)(l:List BE)(hl:∀e∈l,szE e<=n) :
 Zxx w.heap.size 222 #[.pointer (some ⟨g,0,none⟩)] (λ e=>!S.formedE L e) l w:=by
 intro W e v t E I;have F:=Ya hF;have m:=(t.block g hg).trans D;have u:g<W.heap.size:=Ys hg t.size;have j:=hl e E;obtain⟨A,c,rfl,C,z,B⟩:=I;have f:Below W.heap.size W (W.alloc (.cells #[.int .i64 e.op,.int .i64 e.n,.string e.name,.slice A e.kids.length c] 149)):=(Yj _ _).alloc (Yc _) _;have d:=heap_alloc_new W (.cells #[.int .i64 e.op,.int .i64 e.n,.string e.name,.slice A e.kids.length c] 149);have G:W.heap.size<(W.alloc (.cells #[.int .i64 e.op,.int .i64 e.n,.string e.name,.slice A e.kids.length c] 149)).heap.size:=by simp
 have a:=hF e (.agg #[.int .i64 e.op,.int .i64 e.n,.string e.name,.slice A e.kids.length c]) (W.alloc (.cells #[.int .i64 e.op,.int .i64 e.n,.string e.name,.slice A e.kids.length c] 149)) j ⟨A,c,rfl,C,z,(B.below f).more f.size⟩;have b:=(f.block g u).trans m;unfold Zoo at a
 show Calls prog 222 #[.agg #[.int .i64 e.op,.int .i64 e.n,.string e.name,.slice A e.kids.length c],.pointer (some ⟨g,0,none⟩)] W λ x w'=>x=.returned (.bool (!S.formedE L e))/\Below W.heap.size W w'
 generalize formedE L e=R at *;generalize e.op=op at *;generalize e.n=en at *;generalize e.name=nm at *;generalize e.kids.length=kl at *;have i:=Ya a;have k:=Ya f;clear a hF F j hl E C z B t D m;go_enter func222,ntmps222
 go_upto_region 1 with fail
 generalize W.alloc (.cells #[.int .i64 op,.int .i64 en,.string nm,.slice A kl c] 149)=w2 at *;have c0:w2.cell? ⟨g,0,none⟩=some (.string r):=by rw[Yb b];rfl
 have c1:w2.cell? ⟨g,1,none⟩=some (.int .i64 P):=by rw[Yb b];rfl
 have c2:w2.cell? ⟨g,2,none⟩=some (.int .i64 L):=by rw[Yb b];rfl
 have c3:w2.cell? ⟨g,3,none⟩=some (.bool s):=by rw[Yb b];rfl
 have c4:w2.cell? ⟨g,4,none⟩=some (.slice q nb y):=by rw[Yb b];rfl
 have e0:w2.cell? ⟨W.heap.size,0,none⟩=some (.int .i64 op):=by rw[Yb d];rfl
 have e1:w2.cell? ⟨W.heap.size,1,none⟩=some (.int .i64 en):=by rw[Yb d];rfl
 have e2:w2.cell? ⟨W.heap.size,2,none⟩=some (.string nm):=by rw[Yb d];rfl
 have e3:w2.cell? ⟨W.heap.size,3,none⟩=some (.slice A kl c):=by rw[Yb d];rfl
 clear d b;go_wp2_with fail
 refine i.out.mono ?_;rintro x w3 ⟨rfl,o⟩;go_wp2_with fail
 go_ret
 exact⟨rfl,k.out.trans (o.mono k.out.size)⟩
structure Z8x (rn:ByteArray)(P L:Int)(bh:Bool)(Ab:Option Addr)(nb cb n:Nat)(s:BS)(d:Nat)(A1 A2 A3 A4:Option Addr)(c1 c2 c3 c4 g:Nat)(wr:World):Prop where
 shaped:∀W,Below wr.heap.size wr W->Calls prog 220 #[.agg #[.string rn,.int .i64 P,.int .i64 L,.bool bh,.slice Ab nb cb],.agg #[.int .i64 s.op,.int .i64 s.n,.string s.name,.slice A1 s.exprs.length c1,.slice A2 s.regs.length c2,.slice A3 s.body.length c3,.slice A4 s.els.length c4]] W
  λ x w'=>x=.returned (.bool (shapedS L s.op s.n s.name s.exprs.length s.regs s.body.length s.els.length))/\Below W.heap.size W w'
 formed:∀W,Below wr.heap.size wr W->Calls prog 221 #[.slice A1 s.exprs.length c1,.func (.func 222) #[] #[.pointer (some ⟨g,0,none⟩)]] W λ x w'=>x=.returned (.bool (!S.formedEs L s.exprs))/\Below W.heap.size W w'
 need:∀W,Below wr.heap.size wr W->Calls prog 224 #[.slice A1 s.exprs.length c1] W λ x w'=>x=.returned (.int .i64 (needEs s.exprs 0:Nat))/\Below W.heap.size W w'
 body:d<200->∀W,Below wr.heap.size wr W->Calls prog 206 #[.agg #[.string rn,.int .i64 P,.int .i64 L,.bool bh,.slice Ab nb cb],.slice A3 s.body.length c3,.int .i64 ((d:Int)+1)] W (Zf3 L s.body (d+1) W)
 els:d<200->∀W,Below wr.heap.size wr W->Calls prog 206 #[.agg #[.string rn,.int .i64 P,.int .i64 L,.bool bh,.slice Ab nb cb],.slice A4 s.els.length c4,.int .i64 ((d:Int)+1)] W (Zf3 L s.els (d+1) W)
theorem Z8y {c:ByteArray}{P L:Int}{f:Bool}{b:Option Addr}{nb j n:Nat}(ih:Sts c P L f b nb j n)(hn:n<1000000000){s:BS}{d:Nat}{i o m l:Option Addr}{c1 c2 c3 c4 g:Nat}{wr:World}(hs:szS s<=n+1)
 (u:wr.heap[g]?=some (.cells #[.string c,.int .i64 P,.int .i64 L,.bool f,.slice b nb j] 169)) (hg:g<wr.heap.size) (hp:SPart wr wr.heap.size s i o m l):Z8x c P L f b nb j n s d i o m l c1 c2 c3 c4 g wr:=by
 have hz:=Ziq s;have t:=Zeb s.exprs;refine⟨λ W a=>?_,λ W a=>?_,λ W a=>?_,λ hd W a=>?_,λ hd W a=>?_⟩
 .have hpW:=(hp.below a).more a.size
  exact Zxs c P L f b nb j s.op s.n s.name s.exprs.length s.body.length s.els.length s.regs i o m l c1 c2 c3 c4 W hp.name hpW.regs hp.l2
 .have hpW:=(hp.below a).more a.size
  have q:=Zxp (Zxy c P L f b nb j n (by omega)) g W ((a.block g hg).trans u) (Ys hg a.size) s.exprs (λ e v=>by have:=Zlp v;omega);refine(Zeo W.heap.size _ _ (λ k=>!S.formedE L k) Zk4 W (Yc _) i s.exprs c1 q hpW.exprs (by omega)).mono ?_;rintro x w' ⟨rfl,r⟩;exact⟨by rw[Zdy];simp,r⟩
 .have hpW:=(hp.below a).more a.size
  exact Z35 (Zem s.exprs) i c1 s.exprs W (Yc _) (by omega) hpW.exprs
 .have hpW:=(hp.below a).more a.size
  have:=ih s.body m c3 (d+1) W (by omega) (by omega) hpW.body;exact this
 .have hpW:=(hp.below a).more a.size
  have:=ih s.els l c4 (d+1) W (by omega) (by omega) hpW.els;exact this
theorem Z1f (O:ByteArray)(P L:Int)(R:Bool)(U:Option Addr)(nb Q:Nat):∀n,n<=1000000000->Sts O P L R U nb Q n:=by
 intro n
 induction n with
 | zero =>
  intro _ l A c d w J hd hA;have hl:l=[]:=by
   cases l with
   | nil=>rfl
   | cons e r=>rw[Zhe] at J;have:=Ziq e;omega
  subst hl;have I:Below w.heap.size w (w.alloc (.cells #[.string O,.int .i64 P,.int .i64 L,.bool R,.slice U nb Q] 169)):=(Yj _ _).alloc (Yc _) _;have m:=Ya I;clear I;go_enter func206,ntmps206
  go_upto_region 1 with fail
  generalize w.alloc (.cells #[.string O,.int .i64 P,.int .i64 L,.bool R,.slice U nb Q] 169)=w2 at *;go_wp2_with fail
  go_loopw [14] (λ C wr=>C=.int .i64 0/\w2=wr) (λ _ _=>0)
  case atStart=>exact⟨rfl,rfl⟩
  case round =>
   obtain⟨rfl,rfl⟩:=hrel;go_wp2_with fail
   go_ret
   exact⟨rfl,m.out⟩
 | succ n ih =>
  intro hn l A c d w J hd hA;have b0:=Zdc l;obtain⟨N,hN⟩:=Yx l.length;rw[<- hN] at b0⊢;have HN:=Ya hN;have HA:=Ya hA;have d3:=Ya (ih (by omega));have f0:N<=1000000000:=by omega
  have Hs:=Ya J;have I:Below w.heap.size w (w.alloc (.cells #[.string O,.int .i64 P,.int .i64 L,.bool R,.slice U nb Q] 169)):=(Yj _ _).alloc (Yc _) _;have a7:=heap_alloc_new w (.cells #[.string O,.int .i64 P,.int .i64 L,.bool R,.slice U nb Q] 169);have b3:w.heap.size<(w.alloc (.cells #[.string O,.int .i64 P,.int .i64 L,.bool R,.slice U nb Q] 169)).heap.size:=by simp
  unfold Zf3;clear hN hA ih J;go_enter func206,ntmps206
  go_upto_region 1 with fail
  generalize w.alloc (.cells #[.string O,.int .i64 P,.int .i64 L,.bool R,.slice U nb Q] 169)=w2 at *;have m:=Ya I;have c0:=Ya a7;clear I a7;go_wp2_with fail
  go_loopw [14] (λ C wr=>∃k:Nat,k<=N/\C=.int .i64 k/\Hid (chkSs L (l.take k) d=0)/\Hid (Below w2.heap.size w2 wr)) (λ C _=>N-(intOf C).toNat)
  case atStart=>exact⟨0,by omega,rfl,Ya (by rw[List.take_zero,chkSs]),Ya (Yj _ _)⟩
  case round =>
   obtain⟨k,hk,rfl,HC,K⟩:=hrel;obtain⟨q,c6⟩:=Yx wr;subst c6;by_cases d4:k<N
   .obtain⟨s,J⟩:∃s,l[k]?=some s:=⟨_,List.getElem?_eq_getElem (by rw[<- HN.out];exact d4)⟩
    have E:=m.out.trans (K.out.mono m.out.size);obtain⟨b,off,A1,c1,A2,c2,x,c3,y,c4,rfl,e0,q0,q1,q2,q3,q4,q5,q6,a9⟩:=(HA.out.below E).at_ J;have M:=K.out.size;have e9:b<q.heap.size:=by have:=m.out.size;omega
    have c5:w.heap.size<q.heap.size:=by omega
    have hsz:=Zo6 (List.mem_of_getElem? J);have hO:=Z8y (d:=d) (c1:=c1) (c2:=c2) (c3:=c3) (c4:=c4) (g:=w.heap.size) d3.out (by omega) (by have:=Hs.out;omega) ((K.out.block _ b3).trans c0.out) c5 (a9.more (by have:=E.size;omega));have a2:=Ya (λ h:chkS L s d=0=>(show chkSs L (l.take (k+1)) d=0 from by rw[Zdf l J];exact Zjw HC.out h));have a:=Ya (λ h:chkS L s d≠0=>Zhv HC.out J h);have b4:=Ztj L s d;obtain⟨o1,o2,o3,o4,o5⟩:=hO;unfold Zf3 at o4 o5;generalize shapedS L s.op s.n s.name s.exprs.length s.regs s.body.length s.els.length=σ at *;generalize formedEs L s.exprs=φ at *;generalize needEs s.exprs 0=ν at *;generalize chkSs L s.body (d+1)=β at *;generalize chkSs L s.els (d+1)=ε at *;generalize s.op=op at *;generalize s.n=n' at *;generalize s.name=nm at *;generalize s.exprs.length=N1 at *;generalize s.regs.length=N2 at *;generalize s.body.length=N3 at *;generalize s.els.length=N4 at *;generalize chkS L s d=χ at *;have V:=Ya b4;have H1:=Ya o1;have H2:=Ya o2;have H3:=Ya o3;have H4:=Ya o4;have H5:=Ya o5;clear b4 o1 o2 o3 o4 o5 J a9 hsz E HC;have a6:Below q.heap.size q (q.alloc (.cells #[.int .i64 op,.int .i64 n',.string nm,.slice A1 N1 c1,.slice A2 N2 c2,.slice x N3 c3,.slice y N4 c4] 123)):=(Yj _ _).alloc (Yc _) _;have b9:=heap_alloc_new q (.cells #[.int .i64 op,.int .i64 n',.string nm,.slice A1 N1 c1,.slice A2 N2 c2,.slice x N3 c3,.slice y N4 c4] 123);have c8:q.heap.size<(q.alloc (.cells #[.int .i64 op,.int .i64 n',.string nm,.slice A1 N1 c1,.slice A2 N2 c2,.slice x N3 c3,.slice y N4 c4] 123)).heap.size:=by simp
    go_upto_region 4 with fail
    generalize q.alloc (.cells #[.int .i64 op,.int .i64 n',.string nm,.slice A1 N1 c1,.slice A2 N2 c2,.slice x N3 c3,.slice y N4 c4] 123)=wx at *;have Hc:=Ya (λ(W:World) (hb:Below wx.heap.size wx W)=>(show(W.cell? ⟨w.heap.size,0,none⟩=some (.string O)/\W.cell? ⟨w.heap.size,1,none⟩=some (.int .i64 P)/\W.cell? ⟨w.heap.size,2,none⟩=some (.int .i64 L)/\W.cell? ⟨w.heap.size,3,none⟩=some (.bool R)/\W.cell? ⟨w.heap.size,4,none⟩=some (.slice U nb Q)) /\
     W.cell? ⟨q.heap.size,0,none⟩=some (.int .i64 op)/\W.cell? ⟨q.heap.size,1,none⟩=some (.int .i64 n')/\W.cell? ⟨q.heap.size,2,none⟩=some (.string nm)/\W.cell? ⟨q.heap.size,3,none⟩=some (.slice A1 N1 c1)/\W.cell? ⟨q.heap.size,4,none⟩=some (.slice A2 N2 c2)/\W.cell? ⟨q.heap.size,5,none⟩=some (.slice x N3 c3)/\W.cell? ⟨q.heap.size,6,none⟩=some (.slice y N4 c4) from by
     have e1:W.heap[w.heap.size]?=some (.cells #[.string O,.int .i64 P,.int .i64 L,.bool R,.slice U nb Q] 169):=(hb.block _ (by omega)).trans ((a6.block _ c5).trans ((K.out.block _ b3).trans c0.out));have e2:W.heap[q.heap.size]?=some (.cells #[.int .i64 op,.int .i64 n',.string nm,.slice A1 N1 c1,.slice A2 N2 c2,.slice x N3 c3,.slice y N4 c4] 123):=(hb.block _ c8).trans b9;refine⟨⟨?_,?_,?_,?_,?_⟩,?_,?_,?_,?_,?_,?_,?_⟩
     all_goals first | (rw[Yb e1];rfl) | (rw[Yb e2];rfl)))
    have f:=Ya a6;have d7:w.heap.size<wx.heap.size:=by omega
    clear a6 b9 q0 q1 q2 q3 q4 q5 q6;obtain⟨⟨r0,r1,r2,r3,r4⟩,s0,s1,Y,Z,X,s5,s6⟩:=Hc.out wx (Yj _ _);go_wp2_with fail
    refine(H1.out wx f.out).mono ?_;rintro e4 w4 ⟨rfl,a4⟩;have e3:=a4.size;have B:=Ya a4;clear r0 r1 r2 r3 r4 s0 s1 Y Z X s5 s6 a4;obtain⟨⟨r0,r1,r2,r3,r4⟩,s0,s1,Y,Z,X,s5,s6⟩:=Hc.out w4 B.out
    cases σ with
    | false =>
     have u:=Ya (show chkSs L l d=4 from by
      have t:χ=4:=by rw[V.out];simp
      rw[a.out (by rw[t];decide),t])
     go_wp2_with fail
     go_ret
     exact⟨Zu u.out.symm,m.out.trans ((K.out.trans (f.out.mono M)).trans (B.out.mono (Yz M f.out.size)) |>.mono m.out.size)⟩
    | true =>
     have b8:=Ya (f.out.trans (B.out.mono f.out.size));go_wp2_with fail
     refine(H2.out w4 b8.out).mono ?_;rintro e5 w5 ⟨rfl,a0⟩;have v:=Ya (B.out.trans (a0.mono B.out.size));have e7:=a0.size;clear r0 r1 r2 r3 r4 s0 s1 Y Z X s5 s6 a0;obtain⟨⟨r0,r1,r2,r3,r4⟩,s0,s1,Y,Z,X,s5,s6⟩:=Hc.out w5 v.out;have G:=Ya (λ(W:World) (hb:Below wx.heap.size wx W)=>(show Below w.heap.size w W from m.out.trans ((K.out.trans (f.out.mono M)).trans (hb.mono (Yz M f.out.size)) |>.mono m.out.size)))
     cases φ with
     | false =>
      have u:=Ya (show chkSs L l d=4 from by
       have t:χ=4:=by rw[V.out];simp
       rw[a.out (by rw[t];decide),t])
      go_wp2_with fail
      go_ret
      exact⟨Zu u.out.symm,G.out _ v.out⟩
     | true =>
      have Hχ:=Ya (show χ=if 200<=d\/14<ν then 5 else if β≠0 then β else ε from by rw[V.out];simp);by_cases d2:200<=d
      .have u:=Ya (show chkSs L l d=5 from by
        have t:χ=5:=by rw[Hχ.out,if_pos (.inl d2)]
        rw[a.out (by rw[t];decide),t])
       go_wp2_with fail
       go_ret
       exact⟨Zu u.out.symm,G.out _ v.out⟩
      .have Hb5':=Ya (f.out.trans (v.out.mono f.out.size))
       have b2:d<200:=by omega
       go_wp2_with fail
       refine(H3.out w5 Hb5'.out).mono ?_;rintro e6 z ⟨rfl,a5⟩;have T:=Ya (v.out.trans (a5.mono v.out.size));have f1:=a5.size;clear r0 r1 r2 r3 r4 s0 s1 Y Z X s5 s6 a5;obtain⟨⟨r0,r1,r2,r3,r4⟩,s0,s1,Y,Z,X,s5,s6⟩:=Hc.out z T.out;by_cases hν:14<ν
       .have u:=Ya (show chkSs L l d=5 from by
         have t:χ=5:=by rw[Hχ.out,if_pos (.inr hν)]
         rw[a.out (by rw[t];decide),t])
        have d0:(14:Int)<(ν:Int):=by omega
        go_wp2_with fail
        go_ret
        exact⟨Zu u.out.symm,G.out _ T.out⟩
       .have Hχ2:=Ya (show χ=if β≠0 then β else ε from by rw[Hχ.out,if_neg (by omega)])
        have d0:¬(14:Int)<(ν:Int):=by omega
        have d5:(d:Int)<200:=by omega
        clear Hχ V;have a8:Below z.heap.size z (z.alloc (.cells #[.slice x N3 c3,.slice y N4 c4] 121)):=(Yj _ _).alloc (Yc _) _;have b7:=heap_alloc_new z (.cells #[.slice x N3 c3,.slice y N4 c4] 121);have c9:z.heap.size<(z.alloc (.cells #[.slice x N3 c3,.slice y N4 c4] 121)).heap.size:=by simp
        go_wp2_with fail
        generalize z.alloc (.cells #[.slice x N3 c3,.slice y N4 c4] 121)=w7 at *;have i:=Ya (T.out.trans (a8.mono T.out.size));have c7:=Ya (λ(W:World) (hb:Below w7.heap.size w7 W)=>(show W.cell? ⟨z.heap.size,0,none⟩=some (.slice x N3 c3)/\W.cell? ⟨z.heap.size,1,none⟩=some (.slice y N4 c4) from by
         have e1:W.heap[z.heap.size]?=some (.cells #[.slice x N3 c3,.slice y N4 c4] 121):=(hb.block _ c9).trans b7
         constructor
         all_goals (rw[Yb e1];rfl)))
        have d6:=i.out.size;have b1:=Ya (λ(W:World) (hb:Below w7.heap.size w7 W)=>(show Below q.heap.size q W from f.out.trans ((i.out.trans (hb.mono i.out.size)).mono f.out.size)));clear a8 b7 r0 r1 r2 r3 r4 s0 s1 Y Z X s5 s6;go_loopw [42,10,11] (λ a1 _ _ wl=>∃j:Nat,j<=2/\a1=.int .i64 j/\Hid (1<=j->β=0)/\Hid (2<=j->ε=0)/\Hid (Below w7.heap.size w7 wl)) (λ a1 _ _ _=>2-(intOf a1).toNat)
        case atStart=>exact⟨0,by omega,rfl,Ya (λ h=>by omega),Ya (λ h=>by omega),Ya (Yj _ _)⟩
        case round =>
         obtain⟨j,hj,rfl,b6,d1,o⟩:=hrel;obtain⟨⟨r0,r1,r2,r3,r4⟩,s0,s1,Y,Z,X,s5,s6⟩:=Hc.out wr (i.out.trans (o.out.mono i.out.size));obtain⟨z0,z1⟩:=c7.out wr o.out;have d9:=o.out.size;have d8:z.heap.size<wr.heap.size:=by omega
         rcases(show j=0\/j=1\/j=2 by omega) with rfl|rfl|rfl
         .go_wp2_with fail
          refine(H4.out b2 _ (b1.out wr o.out)).mono ?_;rintro e8 w8 ⟨rfl,a3⟩;have D:=Ya (o.out.trans (a3.mono o.out.size));by_cases F:β=0
          .have hb0:(β != 0)=false:=by simp[F]
           have Hβ:=Ya F;clear F;go_wp2_with fail
           go_roundw
           case rel=>exact⟨1,by omega,by first|rfl|go_num,Ya (λ _=>Hβ.out),Ya (λ h=>by omega),D⟩
           case measure=>simp[intOf]
          .have hb0:(β != 0)=true:=by simp[F]
           have u:=Ya (show chkSs L l d=β from by
            have t:χ=β:=by rw[Hχ2.out,if_pos F]
            rw[a.out (by rw[t];exact F),t])
           clear F;go_wp2_with fail
           go_ret
           exact⟨Zu u.out.symm,G.out _ (i.out.trans (D.out.mono i.out.size))⟩
         .go_wp2_with fail
          refine(H5.out b2 _ (b1.out wr o.out)).mono ?_;rintro e8 w8 ⟨rfl,a3⟩;have D:=Ya (o.out.trans (a3.mono o.out.size));have F:=b6.out (by omega);have b5:=Ya (show χ=ε from by rw[Hχ2.out,if_neg (by simp[F])]);have Hβ:=Ya F;clear F;by_cases hε:ε=0
          .have hb0:(ε != 0)=false:=by simp[hε]
           have Hε:=Ya hε;clear hε;go_wp2_with fail
           go_roundw
           case rel=>exact⟨2,by omega,by first|rfl|go_num,Ya (λ _=>Hβ.out),Ya (λ _=>Hε.out),D⟩
           case measure=>simp[intOf]
          .have hb0:(ε != 0)=true:=by simp[hε]
           have u:=Ya (show chkSs L l d=ε from by
            rw[a.out (by rw[b5.out];exact hε),b5.out])
           clear hε;go_wp2_with fail
           go_ret
           exact⟨Zu u.out.symm,G.out _ (i.out.trans (D.out.mono i.out.size))⟩
         .have Hz:=Ya (a2.out (show χ=0 from by rw[Hχ2.out,if_neg (by simp[b6.out (by omega)]),d1.out (by omega)]))
          go_wp2_with fail
          go_roundw
          case rel=>exact⟨k+1,by omega,by go_num,Hz,Ya (K.out.trans ((f.out.trans ((i.out.trans (o.out.mono i.out.size)).mono f.out.size)).mono K.out.size))⟩
          case measure=>simp[intOf];omega
   .have hkN:k=N:=by omega
    subst hkN;have u:=Ya (show chkSs L l d=0 from by have:=HC.out;rw[HN.out,List.take_length] at this;exact this);go_wp2_with fail
    go_ret
    exact⟨Zu u.out.symm,m.out.trans (K.out.mono m.out.size)⟩
theorem Zhw {r:BR}(h:chkB r=0):labB r.name=true/\0<=r.params/\r.params<=4/\r.params<=r.locals/\r.locals<=200/\chkSs r.locals r.body 0=0:=by
 unfold chkB at h
 split at h
 .omega
 .rename_i hc
  simp only[Bool.not_eq_true,Bool.or_eq_false_iff,Bool.not_eq_false',decide_eq_false_iff_not] at hc;obtain⟨⟨⟨⟨a,h2⟩,h3⟩,h4⟩,h5⟩:=hc;exact⟨a,by omega,by omega,by omega,by omega,h⟩
def Zxf (r:BR)(A:Option Addr)(c:Nat):Value:=.agg #[.string r.name,.int .i64 r.params,.int .i64 r.locals,.bool r.behind,.slice A r.body.length c]
structure RAt2 (w:World)(B:Nat)(r:BR)(A:Option Addr):Prop where
 name:r.name.size<=maxLen
 body:SList w B A r.body
 size:Zhe r.body<=1000000000
theorem RAt2.below {w w':World}{B:Nat}{r:BR}{A:Option Addr}(h:RAt2 w B r A)(a:Below B w w'):RAt2 w' B r A:=⟨h.name,h.body.below a,h.size⟩
theorem RAt2.more {w:World}{B B':Nat}{r:BR}{A:Option Addr}(h:RAt2 w B r A)(a:B<=B'):RAt2 w B' r A:=⟨h.name,h.body.more a,h.size⟩
theorem Zoc (r:BR)(A:Option Addr)(c:Nat)(w:World)(h:RAt2 w w.heap.size r A):Calls prog 177 #[Zxf r A c] w λ x w'=>x=.returned (.int .i64 (chkB r))/\Below w.heap.size w w':=by
 obtain⟨nm,P,L,g,body⟩:=r;obtain⟨u,s,t⟩:=h;unfold Zxf;simp only at u s t⊢;have q:=Zdc body;have l:=Ya (λ(W:World) (y:Below w.heap.size w W)=>Z1f nm P L g A body.length c (Zhe body) t body A c 0 W (Yc _) (by omega) ((s.below y).more y.size));have j:chkB ⟨nm,P,L,g,body⟩=if !S.labB nm || decide (P<0) || decide (4<P) || decide (L<P) || decide (200<L) then 2 else chkSs L body 0:=rfl
 have a:=Ya (λ W=>Zo7 nm W u);obtain⟨res,i⟩:=Yx (chkB ⟨nm,P,L,g,body⟩);rw[<- i] at j⊢;have e:=Ya j;unfold Zf3 at l;generalize labB nm=B at *;generalize chkSs L body 0=κ at *;generalize body.length=N at *;clear u s t q i j;have n:Below w.heap.size w (w.alloc (.cells #[.string nm,.int .i64 P,.int .i64 L,.bool g,.slice A N c] 169)):=(Yj _ _).alloc (Yc _) _;have d:=heap_alloc_new w (.cells #[.string nm,.int .i64 P,.int .i64 L,.bool g,.slice A N c] 169);have D:w.heap.size<(w.alloc (.cells #[.string nm,.int .i64 P,.int .i64 L,.bool g,.slice A N c] 169)).heap.size:=by simp
 go_enter func177,ntmps177
 go_upto_region 1 with fail
 generalize w.alloc (.cells #[.string nm,.int .i64 P,.int .i64 L,.bool g,.slice A N c] 169)=w2 at *;have b:=Ya n;have c0:w2.cell? ⟨w.heap.size,0,none⟩=some (.string nm):=by rw[Yb d];rfl
 have c1:w2.cell? ⟨w.heap.size,1,none⟩=some (.int .i64 P):=by rw[Yb d];rfl
 have c2:w2.cell? ⟨w.heap.size,2,none⟩=some (.int .i64 L):=by rw[Yb d];rfl
 have c3:w2.cell? ⟨w.heap.size,3,none⟩=some (.bool g):=by rw[Yb d];rfl
 have c4:w2.cell? ⟨w.heap.size,4,none⟩=some (.slice A N c):=by rw[Yb d];rfl
 clear n d
 cases B with
 | false =>
  have f:=Ya (show res=2 from by rw[e.out];simp);go_wp2_with fail
  refine(a.out w2).mono ?_;rintro m k ⟨rfl,rfl⟩;go_wp2_with fail
  go_ret
  exact⟨Zu f.out.symm,b.out⟩
 | true =>
  by_cases p0:P<0
  .have f:=Ya (show res=2 from by rw[e.out,decide_eq_true p0];simp)
   go_wp2_with fail
   refine(a.out w2).mono ?_;rintro m k ⟨rfl,rfl⟩;go_wp2_with fail
   go_ret
   exact⟨Zu f.out.symm,b.out⟩
  by_cases v:4<P
  .have f:=Ya (show res=2 from by rw[e.out,decide_eq_true v];simp)
   go_wp2_with fail
   refine(a.out w2).mono ?_;rintro m k ⟨rfl,rfl⟩;go_wp2_with fail
   go_ret
   exact⟨Zu f.out.symm,b.out⟩
  by_cases C:L<P
  .have f:=Ya (show res=2 from by rw[e.out,decide_eq_true C];simp)
   go_wp2_with fail
   refine(a.out w2).mono ?_;rintro m k ⟨rfl,rfl⟩;go_wp2_with fail
   go_ret
   exact⟨Zu f.out.symm,b.out⟩
  by_cases z:200<L
  .have f:=Ya (show res=2 from by rw[e.out,decide_eq_true z];simp)
   go_wp2_with fail
   refine(a.out w2).mono ?_;rintro m k ⟨rfl,rfl⟩;go_wp2_with fail
   go_ret
   exact⟨Zu f.out.symm,b.out⟩
  have f:=Ya (show res=κ from by rw[e.out,decide_eq_false p0,decide_eq_false v,decide_eq_false C,decide_eq_false z];simp);go_wp2_with fail
  refine(a.out w2).mono ?_;rintro m k ⟨rfl,rfl⟩;go_wp2_with fail
  refine(l.out w2 b.out).mono ?_;rintro e5 w5 ⟨rfl,o⟩;go_wp2_with fail
  go_ret
  exact⟨Zu f.out.symm,b.out.trans (o.mono b.out.size)⟩
theorem Z1g (r:BR)(A:Option Addr)(c:Nat)(w:World)(h:RAt2 w w.heap.size r A):Calls prog 178 #[Zxf r A c] w λ x w'=>x=.returned (.int .i64 (frameB r))/\Below w.heap.size w w':=by
 have m:=Ya (λ(W:World) (q:Below w.heap.size w W)=>Zoc r A c W ((h.below q).more q.size));have j:chkB r=0->-1000000<=r.locals/\r.locals<=200:=λ h0=>by obtain⟨_,h1,_,h2,h3,_⟩:=Zhw h0;omega
 obtain⟨nm,P,L,d,body⟩:=r;have f:frameB ⟨nm,P,L,d,body⟩=if chkB ⟨nm,P,L,d,body⟩≠0 then 0 else L+15:=rfl
 unfold Zxf at m⊢;simp only at m j⊢;generalize frameB ⟨nm,P,L,d,body⟩=res at *;generalize chkB ⟨nm,P,L,d,body⟩=κ at *;generalize body.length=N at *;have g:=Ya f;clear f h;have i:Below w.heap.size w (w.alloc (.cells #[.string nm,.int .i64 P,.int .i64 L,.bool d,.slice A N c] 169)):=(Yj _ _).alloc (Yc _) _;have a:=heap_alloc_new w (.cells #[.string nm,.int .i64 P,.int .i64 L,.bool d,.slice A N c] 169);have n:w.heap.size<(w.alloc (.cells #[.string nm,.int .i64 P,.int .i64 L,.bool d,.slice A N c] 169)).heap.size:=by simp
 go_enter func178,ntmps178
 go_upto_region 1 with fail
 generalize w.alloc (.cells #[.string nm,.int .i64 P,.int .i64 L,.bool d,.slice A N c] 169)=w2 at *;have e:=Ya i;have c0:w2.cell? ⟨w.heap.size,0,none⟩=some (.string nm):=by rw[Yb a];rfl
 have c1:w2.cell? ⟨w.heap.size,1,none⟩=some (.int .i64 P):=by rw[Yb a];rfl
 have c2:w2.cell? ⟨w.heap.size,2,none⟩=some (.int .i64 L):=by rw[Yb a];rfl
 have c3:w2.cell? ⟨w.heap.size,3,none⟩=some (.bool d):=by rw[Yb a];rfl
 have c4:w2.cell? ⟨w.heap.size,4,none⟩=some (.slice A N c):=by rw[Yb a];rfl
 go_wp2_with fail
 refine(m.out w2 e.out).mono ?_;rintro e4 s ⟨rfl,b⟩;have t:s.cell? ⟨w.heap.size,2,none⟩=some (.int .i64 L):=(b.cell (p:=⟨w.heap.size,2,none⟩) n).trans c2;have o:=Ya (e.out.trans (b.mono e.out.size));have u:=b.size;clear c0 c1 c2 c3 c4 i a b;by_cases h0:κ=0
 .obtain⟨l0,l1⟩:=j h0
  have l:(κ != 0)=false:=by simp[h0]
  have k:=Ya (show res=L+1+14 from by rw[g.out,if_neg (by simp[h0])];omega);clear h0 j;go_wp2_with fail
  go_ret
  exact⟨Zu k.out.symm,o.out⟩
 .have l:(κ != 0)=true:=by simp[h0]
  have k:=Ya (show res=0 from by rw[g.out,if_pos h0]);clear h0 j;go_wp2_with fail
  go_ret
  exact⟨Zu k.out.symm,o.out⟩
section
structure CH where
 r:BR
 A:Option Addr
 c:Nat
 fr:Int
def Zgq (h:CH)(v:Value)(lab:Int):Array Value:=#[.string h.r.name,.int .i64 h.r.params,.int .i64 h.r.locals,.bool h.r.behind,.slice h.A h.r.body.length h.c,.int .i64 h.fr,v,.int .i64 lab]
structure CAt (base p:Nat)(h:CH)(xs:List S.Item)(lab:Int)(w:World):Prop where
 low:base<=p
 at_:∃v,w.heap[p]?=some (.cells (Zgq h v lab) 214)/\w.ownsRow base 79 8 v xs.length (xs.flatMap Zb)
theorem CAt.lt {base p:Nat}{h:CH}{xs:List S.Item}{lab:Int}{w:World}(H:CAt base p h xs lab w):p<w.heap.size:=by
 obtain⟨_,v,b,_⟩:=H;rcases Yb2 p w.heap.size with a|a
 .exact a
 .simp[Ybj a] at b
theorem CAt.keep {base p:Nat}{h:CH}{xs:List S.Item}{lab:Int}{w w':World}(H:CAt base p h xs lab w)(b:Below w.heap.size w w'):CAt base p h xs lab w':=by
 have a:=H.lt;obtain⟨e,v,d,c⟩:=H;exact⟨e,v,(b.block p a).trans d,Zc c b⟩
theorem Zaq {w:World}{B:Nat}{e T:TypeId}{size:Nat}{v:Value}{n:Nat}{xs:List Value}{b:Nat}{cs:Array Value}{fr:Nat×Nat}(a:w.ownsRow B e size v n xs)(d:w.heap[b]?=some (.cells cs T fr))(c:T≠e):v.ownBlock≠some b:=by
 rcases a.2 with⟨rfl,_⟩|⟨g,cap,f,rfl,_,hg,_⟩
 .simp[Yah]
 .intro h
  simp only[Yah,Option.some.injEq] at h;subst h;rw[hg] at d;simp only[Option.some.injEq,Obj.cells.injEq] at d;exact c d.2.1.symm
def Z6y (w w':World):Prop:=∀(k:Nat)(r:Array Value)(T:TypeId)(o:Nat×Nat),w.heap[k]?=some (.cells r T o)->T≠79->T≠214->w'.heap[k]?=some (.cells r T o)
structure CK (base:Nat)(w w':World):Prop where
 below:Below base w w'
 keep:Z6y w w'
theorem CK.size {base:Nat}{w w':World}(h:CK base w w'):w.heap.size<=w'.heap.size:=h.below.size
theorem CK.trans {base:Nat}{w w' d:World}(h:CK base w w')(b:CK base w' d):CK base w d:=⟨h.below.trans b.below,λ k r T o e a c=>b.keep k r T o (h.keep k r T o e a c) a c⟩
theorem CK.refl (base:Nat)(w:World):CK base w w:=⟨Yj _ _,λ _ _ _ _ a _ _=>a⟩
theorem CK.of {base:Nat}{w w':World}(h:Below w.heap.size w w')(c:base<=w.heap.size):CK base w w':=⟨h.mono c,λ k r T o b _ _=>by
 rcases Yb2 k w.heap.size with a|a
 .exact(h.block k a).trans b
 .simp[Ybj a] at b⟩
def Zg3 (base p:Nat)(h:CH)(xs ys:List S.Item)(lab:Int)(w:World)(e:Ending)(w':World):Prop:=e=.returned (.tuple #[])/\CAt base p h (xs++ys) lab w'/\CK base w w'
theorem Zao {base p:Nat}{h:CH}{xs:List S.Item}{x:S.Item}{lab:Int}{w b:World}{v i:Value}(a:base<=p)(hbw:base<=w.heap.size)(f:w.heap[p]?=some (.cells (Zgq h v lab) 214))(u:w.ownsRow base 79 8 v xs.length (xs.flatMap Zb))
 (j:b.ownsRow base 79 8 i (xs.length+1) (xs.flatMap Zb++Zb x)) (hg:w.grownBy b v.ownBlock) (z:Below base w b):CAt base p h (xs++[x]) lab (b.setCell ⟨p,6,none⟩ i)/\CK base w (b.setCell ⟨p,6,none⟩ i):=by
 have m:=Zaq u f (by decide);have q:p<w.heap.size:=by
  rcases Yb2 p w.heap.size with d|d
  .exact d
  .simp[Ybj d] at f
 have c:b.heap[p]?=some (.cells (Zgq h v lab) 214):=(hg.block p q (λ e=>m e.symm)).trans f;have t:(b.setCell ⟨p,6,none⟩ i).heap[p]?=some (.cells (Zgq h i lab) 214):=by
  rw[setCell_eq_setRow _ _ _ _ _ _ _ c];exact setRow_heap _ _ _ _ _ _ c
 have n:=Zaq j c (by decide);refine⟨⟨a,i,t,?_⟩,z.setCell (p:=⟨p,6,none⟩) a _,λ k r T o g A y=>?_⟩
 .rw[List.length_append,List.flatMap_append,List.flatMap_singleton]
  exact j.kept (row:=some p) ⟨rfl,rfl,rfl,by simp[World.setCell],λ k _ f=>Yal _ _ _ _ (λ e=>f (by simp[e]))⟩ (Or.inr n)
 .have hkp:k≠p:=by
   rintro rfl;rw[f] at g;simp only[Option.some.injEq,Obj.cells.injEq] at g;exact y g.2.1.symm
  have s:k<w.heap.size:=by
   rcases Yb2 k w.heap.size with d|d
   .exact d
   .simp[Ybj d] at g
  have l:=Zaq u g A;rw[Yal _ _ _ _ hkp];exact(hg.block k s (λ e=>l e.symm)).trans g
section
variable {base p:Nat}{h:CH}{xs:List S.Item}{lab:Int}{w:World}(H:CAt base p h xs lab w)(hbw:base<=w.heap.size)(hl:xs.length<=100000000)
include H hbw hl
theorem Zhx (s:ByteArray):Calls prog 179 #[.pointer (some ⟨p,0,none⟩),.string s] w (Zg3 base p h xs [bL s] lab w):=by
 have i:=H.lt;obtain⟨c,v,k,f⟩:=H;have c6:w.cell? ⟨p,6,none⟩=some v:=by rw[Yb k];rfl
 have l:=Ya k;have g:=Ya f;obtain⟨A',c',rfl⟩:=Za f;clear k f;go_enter func179,ntmps179
 go_wp2_with (at_builtin;refine Zl rfl (.tmp 8) (.tmp 11) _ rfl base 79 Zv underlying80 rfl (by decide) #[.int .i64 2,.int .i64 0,.int .i64 0,.int .i64 0,.int .i64 0,.int .i64 0,.string s,.int .u32 0] _ _ _ rfl g.out rfl rfl rfl (by simp[Yt]) (by simp only[maxLen];omega) (by omega) hbw ?_;intro v' m a d j _;obtain⟨A8,c8,rfl⟩:=Za a;have b:=(d.block p i (λ e=>Zaq g.out l.out (by decide) e.symm)).trans l.out;have f6:m.frozen? ⟨p,6,none⟩=false:=Yy b 6;have d6:∃u,m.cell? ⟨p,6,none⟩=some u:=⟨_,by rw[Yb b];rfl⟩;obtain⟨u6,d6⟩:=d6)
 go_end0
 obtain⟨n,o⟩:=Zao (x:=bL s) c hbw l.out g.out a d j;exact⟨rfl,n,o⟩
theorem Zpv (d:Int)(s:ByteArray):Calls prog 213 #[.pointer (some ⟨p,0,none⟩),.int .i64 d,.string s] w (Zg3 base p h xs [bJ d s] lab w):=by
 have j:=H.lt;obtain⟨c,v,l,g⟩:=H;have c6:w.cell? ⟨p,6,none⟩=some v:=by rw[Yb l];rfl
 have m:=Ya l;have i:=Ya g;obtain⟨A',c',rfl⟩:=Za g;clear l g;go_enter func213,ntmps213
 go_wp2_with (at_builtin;refine Zl rfl (.tmp 10) (.tmp 15) _ rfl base 79 Zv underlying80 rfl (by decide) (Zb (bJ d s)).toArray _ _ _ rfl i.out rfl rfl rfl (by simp[Yt,Zb]) (by simp only[maxLen];omega) (by omega) hbw ?_;intro v' n a f k _;obtain⟨A8,c8,rfl⟩:=Za a;have b:=(f.block p j (λ e=>Zaq i.out m.out (by decide) e.symm)).trans m.out;have f6:n.frozen? ⟨p,6,none⟩=false:=Yy b 6;have d6:∃u,n.cell? ⟨p,6,none⟩=some u:=⟨_,by rw[Yb b];rfl⟩;obtain⟨u6,d6⟩:=d6)
 go_end0
 obtain⟨o,q⟩:=Zao (x:=bJ d s) c hbw m.out i.out a f k;exact⟨rfl,o,q⟩
theorem Zpw (a:Int)(s:ByteArray):Calls prog 226 #[.pointer (some ⟨p,0,none⟩),.int .i64 a,.string s] w (Zg3 base p h xs [bU a s] lab w):=by
 have j:=H.lt;obtain⟨d,v,l,g⟩:=H;have c6:w.cell? ⟨p,6,none⟩=some v:=by rw[Yb l];rfl
 have m:=Ya l;have i:=Ya g;obtain⟨A',c',rfl⟩:=Za g;clear l g;go_enter func226,ntmps226
 go_wp2_with (at_builtin;refine Zl rfl (.tmp 10) (.tmp 15) _ rfl base 79 Zv underlying80 rfl (by decide) (Zb (bU a s)).toArray _ _ _ rfl i.out rfl rfl rfl (by simp[Yt,Zb]) (by simp only[maxLen];omega) (by omega) hbw ?_;intro v' n b f k _;obtain⟨A8,c8,rfl⟩:=Za b;have c:=(f.block p j (λ e=>Zaq i.out m.out (by decide) e.symm)).trans m.out;have f6:n.frozen? ⟨p,6,none⟩=false:=Yy c 6;have d6:∃u,n.cell? ⟨p,6,none⟩=some u:=⟨_,by rw[Yb c];rfl⟩;obtain⟨u6,d6⟩:=d6)
 go_end0
 obtain⟨o,q⟩:=Zao (x:=bU a s) d hbw m.out i.out b f k;exact⟨rfl,o,q⟩
theorem Za9 (op d a b imm:Int):Calls prog 180 #[.pointer (some ⟨p,0,none⟩),.agg #[.int .i64 op,.int .i64 d,.int .i64 a,.int .i64 b,.int .i64 imm]] w (Zg3 base p h xs [bI op d a b imm] lab w):=by
 have D:Below w.heap.size w (w.alloc (.cells #[.int .i64 op,.int .i64 d,.int .i64 a,.int .i64 b,.int .i64 imm] 77)):=(Yj _ _).alloc (Yc _) _;have E:=heap_alloc_new w (.cells #[.int .i64 op,.int .i64 d,.int .i64 a,.int .i64 b,.int .i64 imm] 77);have B:w.heap.size<(w.alloc (.cells #[.int .i64 op,.int .i64 d,.int .i64 a,.int .i64 b,.int .i64 imm] 77)).heap.size:=by simp
 have C:=Ya (CK.of D hbw);have O:=H.keep D;clear H;go_enter func180,ntmps180
 go_upto_region 1 with fail
 refine wp_region_any (by kernel_rfl) ?_;generalize w.alloc (.cells #[.int .i64 op,.int .i64 d,.int .i64 a,.int .i64 b,.int .i64 imm] 77)=w2 at *;change wpAny _ _ _ _ _ _ _ (World.drew w2);have r:Below w2.heap.size w2 w2.drew:=⟨rfl,rfl,rfl,Yc _,λ _ _=>rfl⟩
 have N:=O.keep r;have n:=(r.block _ B).trans E;have P:w.heap.size<w2.drew.heap.size:=Ys B r.size;have t:=Ya (C.out.trans (CK.of r (by have:=C.out.size;omega)));clear O r E B D C;generalize w2.drew=w3 at *;have e0:w3.cell? ⟨w.heap.size,0,none⟩=some (.int .i64 op):=by rw[Yb n];rfl
 have e1:w3.cell? ⟨w.heap.size,1,none⟩=some (.int .i64 d):=by rw[Yb n];rfl
 have e2:w3.cell? ⟨w.heap.size,2,none⟩=some (.int .i64 a):=by rw[Yb n];rfl
 have e3:w3.cell? ⟨w.heap.size,3,none⟩=some (.int .i64 b):=by rw[Yb n];rfl
 have e4:w3.cell? ⟨w.heap.size,4,none⟩=some (.int .i64 imm):=by rw[Yb n];rfl
 have f:base<=w3.heap.size:=by have:=t.out.size;omega
 have s:=N.lt;obtain⟨m,v,L,G⟩:=N;have c6:w3.cell? ⟨p,6,none⟩=some v:=by rw[Yb L];rfl
 have o:=Ya L;have q:=Ya G;obtain⟨R,Q,rfl⟩:=Za G;clear L G n
 (refine wpAny_take (i:=0) (v:=?vv1) rfl (by kernel_rfl) (by kernel_rfl) (by kernel_rfl) (λ _ _ _ h=>h) (Or.inl ⟨by rfl,?yy1⟩) ?zz1;(case yy1=>intro w;go_simp;try with_reducible rfl);go_simp)
 (refine wpAny_take (i:=1) (v:=?vv2) rfl (by kernel_rfl) (by kernel_rfl) (by kernel_rfl) (λ _ _ _ h=>h) (Or.inl ⟨by rfl,?yy2⟩) ?zz2;(case yy2=>intro w;go_simp;try with_reducible rfl);go_simp)
 (refine wpAny_take (i:=2) (v:=?vv3) rfl (by kernel_rfl) (by kernel_rfl) (by kernel_rfl) (λ _ _ _ h=>h) (Or.inl ⟨by rfl,?yy3⟩) ?zz3;(case yy3=>intro w;go_simp;try with_reducible rfl);go_simp)
 (refine wpAny_take (i:=3) (v:=?vv4) rfl (by kernel_rfl) (by kernel_rfl) (by kernel_rfl) (λ _ _ _ h=>h) (Or.inl ⟨by rfl,?yy4⟩) ?zz4;(case yy4=>intro w;go_simp;try with_reducible rfl);go_simp)
 refine wpAny_ready (rs:=[4,5]) (by kernel_rfl) (by simp) ?_;refine Yf rfl (λ K c=>?_) (Yf rfl (λ K c=>?_) Yi)
 .go_simp
  refine c _ _ ?_;clear c K
  (refine wpAny_ready (rs:=[5]) (by kernel_rfl) (by simp) ?_;refine Yf rfl (λ K c=>?_) Yi;go_simp;refine c _ _ ?_;clear c K)
  (refine wpAny_ready (rs:=[6]) (by kernel_rfl) (by simp) ?_;refine Yf rfl (λ K c=>?_) Yi;go_simp;refine c _ _ ?_;clear c K)
  (refine wpAny_ready (rs:=[7]) (by kernel_rfl) (by simp) ?_;refine Yf rfl (λ K c=>?_) Yi;go_simp;refine c _ _ ?_;clear c K)
  refine wpAny_ready (rs:=[8]) (by kernel_rfl) (by simp) ?_;refine Yf rfl (λ K c=>?_) Yi;rw[if_pos (by simp[Yak])];refine Zb3 (.tmp 8) (.tmp 11) _ rfl base 79 Zv underlying80 rfl (by decide) (Zb (bI op d a b imm)).toArray _ _ _ rfl q.out rfl rfl rfl (by simp[Yt,Zb]) (by simp only[maxLen];omega) (by omega) f ?_;intro M y g k l _;obtain⟨J,F,rfl⟩:=Za g;have j:=(k.block p s (λ e=>Zaq q.out o.out (by decide) e.symm)).trans o.out;have f6:y.frozen? ⟨p,6,none⟩=false:=Yy j 6;have d6:∃u,y.cell? ⟨p,6,none⟩=some u:=⟨_,by rw[Yb j];rfl⟩
  obtain⟨I,d6⟩:=d6;refine c _ _ ?_;clear c K;go_simp
  (refine wpAny_take (i:=9) (v:=?vv5) rfl (by kernel_rfl) (by kernel_rfl) (by kernel_rfl) (λ _ _ _ h=>h) (Or.inl ⟨by rfl,?yy5⟩) ?zz5;(case yy5=>intro w;go_simp;try with_reducible rfl);go_simp)
  (refine wpAny_take (i:=10) (v:=?vv6) rfl (by kernel_rfl) (by kernel_rfl) (by kernel_rfl) (λ _ _ _ h=>h) (Or.inl ⟨by rfl,?yy6⟩) ?zz6;(case yy6=>intro w;go_simp;try with_reducible rfl);go_simp)
  (refine wpAny_ready (rs:=[11]) (by kernel_rfl) (by simp) ?_;refine Yf rfl (λ K c=>?_) Yi;go_simp;refine c _ _ ?_;clear c K)
  refine wpAny_done (by kernel_rfl) ?_ _
  go_end0
  obtain⟨z,A⟩:=Zao (x:=bI op d a b imm) m f o.out q.out g k l;exact⟨rfl,z,t.out.trans A⟩
 .go_simp
  refine c _ _ ?_;clear c K;refine wpAny_ready (rs:=[4,6]) (by kernel_rfl) (by simp) ?_;refine Yf rfl (λ K c=>?_) (Yf rfl (λ K c=>?_) Yi)
  .go_simp
   refine c _ _ ?_;clear c K
   (refine wpAny_ready (rs:=[6]) (by kernel_rfl) (by simp) ?_;refine Yf rfl (λ K c=>?_) Yi;go_simp;refine c _ _ ?_;clear c K)
   (refine wpAny_ready (rs:=[7]) (by kernel_rfl) (by simp) ?_;refine Yf rfl (λ K c=>?_) Yi;go_simp;refine c _ _ ?_;clear c K)
   refine wpAny_ready (rs:=[8]) (by kernel_rfl) (by simp) ?_;refine Yf rfl (λ K c=>?_) Yi;rw[if_pos (by simp[Yak])];refine Zb3 (.tmp 8) (.tmp 11) _ rfl base 79 Zv underlying80 rfl (by decide) (Zb (bI op d a b imm)).toArray _ _ _ rfl q.out rfl rfl rfl (by simp[Yt,Zb]) (by simp only[maxLen];omega) (by omega) f ?_;intro M y g k l _;obtain⟨J,F,rfl⟩:=Za g;have j:=(k.block p s (λ e=>Zaq q.out o.out (by decide) e.symm)).trans o.out;have f6:y.frozen? ⟨p,6,none⟩=false:=Yy j 6;have d6:∃u,y.cell? ⟨p,6,none⟩=some u:=⟨_,by rw[Yb j];rfl⟩
   obtain⟨I,d6⟩:=d6;refine c _ _ ?_;clear c K;go_simp
   (refine wpAny_take (i:=9) (v:=?vv7) rfl (by kernel_rfl) (by kernel_rfl) (by kernel_rfl) (λ _ _ _ h=>h) (Or.inl ⟨by rfl,?yy7⟩) ?zz7;(case yy7=>intro w;go_simp;try with_reducible rfl);go_simp)
   (refine wpAny_take (i:=10) (v:=?vv8) rfl (by kernel_rfl) (by kernel_rfl) (by kernel_rfl) (λ _ _ _ h=>h) (Or.inl ⟨by rfl,?yy8⟩) ?zz8;(case yy8=>intro w;go_simp;try with_reducible rfl);go_simp)
   (refine wpAny_ready (rs:=[11]) (by kernel_rfl) (by simp) ?_;refine Yf rfl (λ K c=>?_) Yi;go_simp;refine c _ _ ?_;clear c K)
   refine wpAny_done (by kernel_rfl) ?_ _
   go_end0
   obtain⟨z,A⟩:=Zao (x:=bI op d a b imm) m f o.out q.out g k l;exact⟨rfl,z,t.out.trans A⟩
  .go_simp
   refine c _ _ ?_;clear c K;refine wpAny_ready (rs:=[4,7]) (by kernel_rfl) (by simp) ?_;refine Yf rfl (λ K c=>?_) (Yf rfl (λ K c=>?_) Yi)
   .go_simp
    refine c _ _ ?_;clear c K
    (refine wpAny_ready (rs:=[7]) (by kernel_rfl) (by simp) ?_;refine Yf rfl (λ K c=>?_) Yi;go_simp;refine c _ _ ?_;clear c K)
    refine wpAny_ready (rs:=[8]) (by kernel_rfl) (by simp) ?_;refine Yf rfl (λ K c=>?_) Yi;rw[if_pos (by simp[Yak])];refine Zb3 (.tmp 8) (.tmp 11) _ rfl base 79 Zv underlying80 rfl (by decide) (Zb (bI op d a b imm)).toArray _ _ _ rfl q.out rfl rfl rfl (by simp[Yt,Zb]) (by simp only[maxLen];omega) (by omega) f ?_;intro M y g k l _;obtain⟨J,F,rfl⟩:=Za g;have j:=(k.block p s (λ e=>Zaq q.out o.out (by decide) e.symm)).trans o.out;have f6:y.frozen? ⟨p,6,none⟩=false:=Yy j 6;have d6:∃u,y.cell? ⟨p,6,none⟩=some u:=⟨_,by rw[Yb j];rfl⟩
    obtain⟨I,d6⟩:=d6;refine c _ _ ?_;clear c K;go_simp
    (refine wpAny_take (i:=9) (v:=?vv9) rfl (by kernel_rfl) (by kernel_rfl) (by kernel_rfl) (λ _ _ _ h=>h) (Or.inl ⟨by rfl,?yy9⟩) ?zz9;(case yy9=>intro w;go_simp;try with_reducible rfl);go_simp)
    (refine wpAny_take (i:=10) (v:=?vv10) rfl (by kernel_rfl) (by kernel_rfl) (by kernel_rfl) (λ _ _ _ h=>h) (Or.inl ⟨by rfl,?yy10⟩) ?zz10;(case yy10=>intro w;go_simp;try with_reducible rfl);go_simp)
    (refine wpAny_ready (rs:=[11]) (by kernel_rfl) (by simp) ?_;refine Yf rfl (λ K c=>?_) Yi;go_simp;refine c _ _ ?_;clear c K)
    refine wpAny_done (by kernel_rfl) ?_ _
    go_end0
    obtain⟨z,A⟩:=Zao (x:=bI op d a b imm) m f o.out q.out g k l;exact⟨rfl,z,t.out.trans A⟩
   .go_simp
    refine c _ _ ?_;clear c K;have c6:(w3.alloc (Obj.cells (Zb (bI op d a b imm)).toArray 79)).cell? ⟨p,6,none⟩=some (.slice R xs.length Q):=by rw[Yb ((heap_alloc_old _ _ s).trans o.out)];rfl
    simp only[Zb,bI] at c6
    (refine wpAny_ready (rs:=[4]) (by kernel_rfl) (by simp) ?_;refine Yf rfl (λ K c=>?_) Yi;go_simp;refine c _ _ ?_;clear c K)
    refine wpAny_ready (rs:=[8]) (by kernel_rfl) (by simp) ?_;refine Yf rfl (λ K c=>?_) Yi;rw[if_pos (by simp[Yak])];refine Zb3 (.tmp 8) (.tmp 11) _ rfl base 79 Zv underlying80 rfl (by decide) (Zb (bI op d a b imm)).toArray _ _ _ rfl q.out rfl rfl rfl (by simp[Yt,Zb]) (by simp only[maxLen];omega) (by omega) f ?_;intro M y g k l _;obtain⟨J,F,rfl⟩:=Za g;have j:=(k.block p s (λ e=>Zaq q.out o.out (by decide) e.symm)).trans o.out;have f6:y.frozen? ⟨p,6,none⟩=false:=Yy j 6;have d6:∃u,y.cell? ⟨p,6,none⟩=some u:=⟨_,by rw[Yb j];rfl⟩
    obtain⟨I,d6⟩:=d6;refine c _ _ ?_;clear c K;go_simp
    (refine wpAny_take (i:=9) (v:=?vv11) rfl (by kernel_rfl) (by kernel_rfl) (by kernel_rfl) (λ _ _ _ h=>h) (Or.inl ⟨by rfl,?yy11⟩) ?zz11;(case yy11=>intro w;go_simp;try with_reducible rfl);go_simp)
    (refine wpAny_take (i:=10) (v:=?vv12) rfl (by kernel_rfl) (by kernel_rfl) (by kernel_rfl) (λ _ _ _ h=>h) (Or.inl ⟨by rfl,?yy12⟩) ?zz12;(case yy12=>intro w;go_simp;try with_reducible rfl);go_simp)
    (refine wpAny_ready (rs:=[11]) (by kernel_rfl) (by simp) ?_;refine Yf rfl (λ K c=>?_) Yi;go_simp;refine c _ _ ?_;clear c K)
    refine wpAny_done (by kernel_rfl) ?_ _
    go_end0
    obtain⟨z,A⟩:=Zao (x:=bI op d a b imm) m f o.out q.out g k l;exact⟨rfl,z,t.out.trans A⟩
end
end
