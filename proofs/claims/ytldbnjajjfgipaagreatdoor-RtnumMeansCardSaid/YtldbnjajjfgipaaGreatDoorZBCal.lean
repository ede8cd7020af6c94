/- Parts. -/
import Derived.Test.YtldbnjajjfgipaaGreatDoorZBShp
import Derived.Deep.RegionWith
import Derived.BigRegion
set_option linter.all false
set_option maxHeartbeats 4000000
open Go.Lib renaming hid->Ya,cell_of_heap->Yc,frozen_of_heap->Yao
open Nat renaming le_refl->Yb,le_trans->Ym,lt_of_lt_of_le->Y3,lt_or_ge->Ycj
open List renaming length_append->Yd,length_cons->Yj,append_assoc->Yp,length_nil->Yab
open Go.RowKit.Below renaming refl->Yh,heap_setCell->Ybm
open Go.AllReady renaming cons->Yk,nil->Yq
open Go.Value renaming oneCell'->Y1,ownBlock->Yap
open Go.Region renaming wanted->Yan
open Array renaming getElem?_eq_none->Ybs
namespace Go.Proofs.YtldbnjajjfgipaaGreatDoor
open S Go.Proofs.Tryz Go.RowKit
set_option maxRecDepth 100000
theorem Zik {L:Int}{d:Nat}:∀{l:List BS} {k:Nat} {s:BS},chkSs L (l.take k) d=0->l[k]?=some s->chkS L s d≠0->chkSs L l d=chkS L s d
 | [],k,s,_,h,_=>by simp at h
 | x::r,0,s,_,h,h2=>by
  simp only[List.getElem?_cons_zero,Option.some.injEq] at h;subst h;rw[chkSs,if_pos h2]
 | x::r,k+1,s,h0,h,h2=>by
  rw[List.take_succ_cons,chkSs] at h0;have a:chkS L x d=0:=by
   by_cases c:chkS L x d≠0
   .rw[if_pos c] at h0;exact absurd h0 c
   .simpa using c
  rw[if_neg (by simp[a])] at h0;rw[chkSs,if_neg (by simp[a])];exact Zik h0 (by simpa using h) h2
theorem Zko {L:Int}{d:Nat}{s:BS}:∀{l:List BS},chkSs L l d=0->chkS L s d=0->chkSs L (l++[s]) d=0
 | [],_,h=>by rw[List.nil_append,chkSs,if_neg (by simp[h]),chkSs]
 | x::r,h0,h=>by
  rw[chkSs] at h0;have a:chkS L x d=0:=by
   by_cases c:chkS L x d≠0
   .rw[if_pos c] at h0;exact absurd h0 c
   .simpa using c
  rw[if_neg (by simp[a])] at h0;rw[List.cons_append,chkSs,if_neg (by simp[a])];exact Zko h0 h
theorem Zud (L:Int)(s:BS)(d:Nat):chkS L s d=if (!(shapedS L s.op s.n s.name s.exprs.length s.regs s.body.length s.els.length && formedEs L s.exprs))=true then 4
 else if 200<=d\/14<needEs s.exprs 0 then 5 else if chkSs L s.body (d+1)≠0 then chkSs L s.body (d+1) else chkSs L s.els (d+1):=by
 obtain⟨op,n,name,exprs,regs,body,els⟩:=s;rw[chkS];rfl
theorem Zdj:∀l:List BS,l.length<=Zh3 l
 | []=>by simp
 | e::r=>by
  rw[Zh3,Yj];have:=Zdj r;have:=Ziv e;omega
def Zgy (L:Int)(l:List BS)(d:Nat)(w:World)(x:Ending)(w':World):Prop:=x=.returned (.int .i64 (chkSs L l d))/\Below w.heap.size w w'
def Sts (rn:ByteArray)(P L:Int)(bh:Bool)(Ab:Option Addr)(nb cb n:Nat):Prop:=∀(l:List BS)(A:Option Addr)(c d:Nat)(w:World),Zh3 l<=n->d<=200->SList w w.heap.size A l ->
 Calls prog 257 #[.agg #[.string rn,.int .i64 P,.int .i64 L,.bool bh,.slice Ab nb cb],.slice A l.length c,.int .i64 (d:Int)] w (Zgy L l d w)
theorem Zyw {u:ByteArray}{P L:Int}{r:Bool}{y:Option Addr}{nb t n:Nat}(hF:Fmd u P L r y nb t n)(g:Nat)(w:World)(B:w.heap[g]?=some (.cells #[.string u,.int .i64 P,.int .i64 L,.bool r,.slice y nb t] 203))(hg:g<w.heap.size)(l:List BE)(hl:∀e∈l,szE e<=n) :
 Zy5 w.heap.size 276 #[.pointer (some ⟨g,0,none⟩)] (λ e=>!S.formedE L e) l w:=by
 intro W e v o z E;have D:=Ya hF;have m:=(o.block g hg).trans B;have s:g<W.heap.size:=Y3 hg o.size;have k:=hl e z;obtain⟨A,c,rfl,h1,h2,h3⟩:=E;have f:Below W.heap.size W (W.alloc (.cells #[.int .i64 e.op,.int .i64 e.n,.string e.name,.slice A e.kids.length c] 152)):=(Yh _ _).alloc (Yb _) _;have d:=heap_alloc_new W (.cells #[.int .i64 e.op,.int .i64 e.n,.string e.name,.slice A e.kids.length c] 152);have C:W.heap.size<(W.alloc (.cells #[.int .i64 e.op,.int .i64 e.n,.string e.name,.slice A e.kids.length c] 152)).heap.size:=by simp
 have a:=hF e (.agg #[.int .i64 e.op,.int .i64 e.n,.string e.name,.slice A e.kids.length c]) (W.alloc (.cells #[.int .i64 e.op,.int .i64 e.n,.string e.name,.slice A e.kids.length c] 152)) k ⟨A,c,rfl,h1,h2,(h3.below f).more f.size⟩;have b:=(f.block g s).trans m;unfold Zp3 at a
 show Calls prog 276 #[.agg #[.int .i64 e.op,.int .i64 e.n,.string e.name,.slice A e.kids.length c],.pointer (some ⟨g,0,none⟩)] W λ x w'=>x=.returned (.bool (!S.formedE L e))/\Below W.heap.size W w'
 generalize formedE L e=R at *;generalize e.op=op at *;generalize e.n=en at *;generalize e.name=nm at *;generalize e.kids.length=kl at *;have i:=Ya a;have j:=Ya f;clear a hF D k hl z h1 h2 h3 o B m;go_enter func276,ntmps276
 go_upto_region 1 with fail
 generalize W.alloc (.cells #[.int .i64 op,.int .i64 en,.string nm,.slice A kl c] 152)=w2 at *;have c0:w2.cell? ⟨g,0,none⟩=some (.string u):=by rw[Yc b];rfl
 have c1:w2.cell? ⟨g,1,none⟩=some (.int .i64 P):=by rw[Yc b];rfl
 have c2:w2.cell? ⟨g,2,none⟩=some (.int .i64 L):=by rw[Yc b];rfl
 have c3:w2.cell? ⟨g,3,none⟩=some (.bool r):=by rw[Yc b];rfl
 have c4:w2.cell? ⟨g,4,none⟩=some (.slice y nb t):=by rw[Yc b];rfl
 have e0:w2.cell? ⟨W.heap.size,0,none⟩=some (.int .i64 op):=by rw[Yc d];rfl
 have e1:w2.cell? ⟨W.heap.size,1,none⟩=some (.int .i64 en):=by rw[Yc d];rfl
 have e2:w2.cell? ⟨W.heap.size,2,none⟩=some (.string nm):=by rw[Yc d];rfl
 have e3:w2.cell? ⟨W.heap.size,3,none⟩=some (.slice A kl c):=by rw[Yc d];rfl
 clear d b;go_wp2_with fail
 refine i.out.mono ?_;rintro x w3 ⟨rfl,q⟩;go_wp2_with fail
 go_ret
 exact⟨rfl,j.out.trans (q.mono j.out.size)⟩
structure Z8h (rn:ByteArray)(P L:Int)(bh:Bool)(Ab:Option Addr)(nb cb n:Nat)(s:BS)(d:Nat)(A1 A2 A3 A4:Option Addr)(c1 c2 c3 c4 g:Nat)(wr:World):Prop where
 shaped:∀W,Below wr.heap.size wr W->Calls prog 274 #[.agg #[.string rn,.int .i64 P,.int .i64 L,.bool bh,.slice Ab nb cb],.agg #[.int .i64 s.op,.int .i64 s.n,.string s.name,.slice A1 s.exprs.length c1,.slice A2 s.regs.length c2,.slice A3 s.body.length c3,.slice A4 s.els.length c4]] W
  λ x w'=>x=.returned (.bool (shapedS L s.op s.n s.name s.exprs.length s.regs s.body.length s.els.length))/\Below W.heap.size W w'
 formed:∀W,Below wr.heap.size wr W->Calls prog 275 #[.slice A1 s.exprs.length c1,.func (.func 276) #[] #[.pointer (some ⟨g,0,none⟩)]] W λ x w'=>x=.returned (.bool (!S.formedEs L s.exprs))/\Below W.heap.size W w'
 need:∀W,Below wr.heap.size wr W->Calls prog 278 #[.slice A1 s.exprs.length c1] W λ x w'=>x=.returned (.int .i64 (needEs s.exprs 0:Nat))/\Below W.heap.size W w'
 body:d<200->∀W,Below wr.heap.size wr W->Calls prog 257 #[.agg #[.string rn,.int .i64 P,.int .i64 L,.bool bh,.slice Ab nb cb],.slice A3 s.body.length c3,.int .i64 ((d:Int)+1)] W (Zgy L s.body (d+1) W)
 els:d<200->∀W,Below wr.heap.size wr W->Calls prog 257 #[.agg #[.string rn,.int .i64 P,.int .i64 L,.bool bh,.slice Ab nb cb],.slice A4 s.els.length c4,.int .i64 ((d:Int)+1)] W (Zgy L s.els (d+1) W)
theorem Z8i {i:ByteArray}{P L:Int}{b:Bool}{j:Option Addr}{nb f n:Nat}(ih:Sts i P L b j nb f n)(hn:n<1000000000){s:BS}{d:Nat}{c q m l:Option Addr}{c1 c2 c3 c4 g:Nat}{wr:World}(hs:szS s<=n+1)
 (y:wr.heap[g]?=some (.cells #[.string i,.int .i64 P,.int .i64 L,.bool b,.slice j nb f] 203)) (hg:g<wr.heap.size) (hp:SPart wr wr.heap.size s c q m l):Z8h i P L b j nb f n s d c q m l c1 c2 c3 c4 g wr:=by
 have hz:=Ziv s;have v:=Zew s.exprs;refine⟨λ W a=>?_,λ W a=>?_,λ W a=>?_,λ t W a=>?_,λ t W a=>?_⟩
 .have hpW:=(hp.below a).more a.size
  exact Zy7 i P L b j nb f s.op s.n s.name s.exprs.length s.body.length s.els.length s.regs c q m l c1 c2 c3 c4 W hp.name hpW.regs hp.l2
 .have hpW:=(hp.below a).more a.size
  have o:=Zyw (Zy6 i P L b j nb f n (by omega)) g W ((a.block g hg).trans y) (Y3 hg a.size) s.exprs (λ e u=>by have:=Zlt u;omega);refine(Zfe W.heap.size _ _ (λ k=>!S.formedE L k) Zlw W (Yb _) c s.exprs c1 o hpW.exprs (by omega)).mono ?_;rintro x w' ⟨rfl,r⟩;exact⟨by rw[Zeg];simp,r⟩
 .have hpW:=(hp.below a).more a.size
  exact Z4x (Ze9 s.exprs) c c1 s.exprs W (Yb _) (by omega) hpW.exprs
 .have hpW:=(hp.below a).more a.size
  have:=ih s.body m c3 (d+1) W (by omega) (by omega) hpW.body;exact this
 .have hpW:=(hp.below a).more a.size
  have:=ih s.els l c4 (d+1) W (by omega) (by omega) hpW.els;exact this
theorem Z2a (M:ByteArray)(P L:Int)(R:Bool)(T:Option Addr)(nb O:Nat):∀n,n<=1000000000->Sts M P L R T nb O n:=by
 intro n
 induction n with
 | zero =>
  intro _ l A c d w J hd hA;have hl:l=[]:=by
   cases l with
   | nil=>rfl
   | cons e r=>rw[Zh3] at J;have:=Ziv e;omega
  subst hl;have F:Below w.heap.size w (w.alloc (.cells #[.string M,.int .i64 P,.int .i64 L,.bool R,.slice T nb O] 203)):=(Yh _ _).alloc (Yb _) _;have m:=Ya F;clear F;go_enter func257,ntmps257
  go_upto_region 1 with fail
  generalize w.alloc (.cells #[.string M,.int .i64 P,.int .i64 L,.bool R,.slice T nb O] 203)=w2 at *;go_wp2_with fail
  go_loopw [14] (λ B wr=>B=.int .i64 0/\w2=wr) (λ _ _=>0)
  case atStart=>exact⟨rfl,rfl⟩
  case round =>
   obtain⟨rfl,rfl⟩:=hrel;go_wp2_with fail
   go_ret
   exact⟨rfl,m.out⟩
 | succ n ih =>
  intro hn l A c d w J hd hA;have b7:=Zdj l;obtain⟨N,hN⟩:=Yx l.length;rw[<- hN] at b7⊢;have HN:=Ya hN;have HA:=Ya hA;have c9:=Ya (ih (by omega));have f2:N<=1000000000:=by omega
  have Hs:=Ya J;have F:Below w.heap.size w (w.alloc (.cells #[.string M,.int .i64 P,.int .i64 L,.bool R,.slice T nb O] 203)):=(Yh _ _).alloc (Yb _) _;have b9:=heap_alloc_new w (.cells #[.string M,.int .i64 P,.int .i64 L,.bool R,.slice T nb O] 203);have b2:w.heap.size<(w.alloc (.cells #[.string M,.int .i64 P,.int .i64 L,.bool R,.slice T nb O] 203)).heap.size:=by simp
  unfold Zgy;clear hN hA ih J;go_enter func257,ntmps257
  go_upto_region 1 with fail
  generalize w.alloc (.cells #[.string M,.int .i64 P,.int .i64 L,.bool R,.slice T nb O] 203)=w2 at *;have m:=Ya F;have a7:=Ya b9;clear F b9;go_wp2_with fail
  go_loopw [14] (λ B wr=>∃k:Nat,k<=N/\B=.int .i64 k/\Hid (chkSs L (l.take k) d=0)/\Hid (Below w2.heap.size w2 wr)) (λ B _=>N-(intOf B).toNat)
  case atStart=>exact⟨0,by omega,rfl,Ya (by rw[List.take_zero,chkSs]),Ya (Yh _ _)⟩
  case round =>
   obtain⟨k,hk,rfl,HC,Q⟩:=hrel;obtain⟨q,d2⟩:=Yx wr;subst d2;by_cases d5:k<N
   .obtain⟨s,J⟩:∃s,l[k]?=some s:=⟨_,List.getElem?_eq_getElem (by rw[<- HN.out];exact d5)⟩
    have C:=m.out.trans (Q.out.mono m.out.size);obtain⟨b,off,A1,c1,A2,c2,z,c3,y,c4,rfl,f0,q0,q1,q2,q3,q4,q5,q6,b3⟩:=(HA.out.below C).at_ J;have V:=Q.out.size;have e0:b<q.heap.size:=by have:=m.out.size;omega
    have b8:w.heap.size<q.heap.size:=by omega
    have d3:=Zpx (List.mem_of_getElem? J);have hO:=Z8i (d:=d) (c1:=c1) (c2:=c2) (c3:=c3) (c4:=c4) (g:=w.heap.size) c9.out (by omega) (by have:=Hs.out;omega) ((Q.out.block _ b2).trans a7.out) b8 (b3.more (by have:=C.size;omega));have a1:=Ya (λ h:chkS L s d=0=>(show chkSs L (l.take (k+1)) d=0 from by rw[Zdo l J];exact Zko HC.out h));have a:=Ya (λ h:chkS L s d≠0=>Zik HC.out J h);have b6:=Zud L s d;obtain⟨o1,o2,o3,o4,o5⟩:=hO;unfold Zgy at o4 o5;generalize shapedS L s.op s.n s.name s.exprs.length s.regs s.body.length s.els.length=σ at *;generalize formedEs L s.exprs=φ at *;generalize needEs s.exprs 0=ν at *;generalize chkSs L s.body (d+1)=β at *;generalize chkSs L s.els (d+1)=ε at *;generalize s.op=op at *;generalize s.n=n' at *;generalize s.name=nm at *;generalize s.exprs.length=N1 at *;generalize s.regs.length=N2 at *;generalize s.body.length=N3 at *;generalize s.els.length=N4 at *;generalize chkS L s d=χ at *;have U:=Ya b6;have H1:=Ya o1;have H2:=Ya o2;have H3:=Ya o3;have H4:=Ya o4;have H5:=Ya o5;clear b6 o1 o2 o3 o4 o5 J b3 d3 C HC;have a0:Below q.heap.size q (q.alloc (.cells #[.int .i64 op,.int .i64 n',.string nm,.slice A1 N1 c1,.slice A2 N2 c2,.slice z N3 c3,.slice y N4 c4] 149)):=(Yh _ _).alloc (Yb _) _;have a9:=heap_alloc_new q (.cells #[.int .i64 op,.int .i64 n',.string nm,.slice A1 N1 c1,.slice A2 N2 c2,.slice z N3 c3,.slice y N4 c4] 149);have c6:q.heap.size<(q.alloc (.cells #[.int .i64 op,.int .i64 n',.string nm,.slice A1 N1 c1,.slice A2 N2 c2,.slice z N3 c3,.slice y N4 c4] 149)).heap.size:=by simp
    go_upto_region 4 with fail
    generalize q.alloc (.cells #[.int .i64 op,.int .i64 n',.string nm,.slice A1 N1 c1,.slice A2 N2 c2,.slice z N3 c3,.slice y N4 c4] 149)=wx at *;have Hc:=Ya (λ(W:World) (Z:Below wx.heap.size wx W)=>(show(W.cell? ⟨w.heap.size,0,none⟩=some (.string M)/\W.cell? ⟨w.heap.size,1,none⟩=some (.int .i64 P)/\W.cell? ⟨w.heap.size,2,none⟩=some (.int .i64 L)/\W.cell? ⟨w.heap.size,3,none⟩=some (.bool R)/\W.cell? ⟨w.heap.size,4,none⟩=some (.slice T nb O)) /\
     W.cell? ⟨q.heap.size,0,none⟩=some (.int .i64 op)/\W.cell? ⟨q.heap.size,1,none⟩=some (.int .i64 n')/\W.cell? ⟨q.heap.size,2,none⟩=some (.string nm)/\W.cell? ⟨q.heap.size,3,none⟩=some (.slice A1 N1 c1)/\W.cell? ⟨q.heap.size,4,none⟩=some (.slice A2 N2 c2)/\W.cell? ⟨q.heap.size,5,none⟩=some (.slice z N3 c3)/\W.cell? ⟨q.heap.size,6,none⟩=some (.slice y N4 c4) from by
     have e1:W.heap[w.heap.size]?=some (.cells #[.string M,.int .i64 P,.int .i64 L,.bool R,.slice T nb O] 203):=(Z.block _ (by omega)).trans ((a0.block _ b8).trans ((Q.out.block _ b2).trans a7.out));have e2:W.heap[q.heap.size]?=some (.cells #[.int .i64 op,.int .i64 n',.string nm,.slice A1 N1 c1,.slice A2 N2 c2,.slice z N3 c3,.slice y N4 c4] 149):=(Z.block _ c6).trans a9;refine⟨⟨?_,?_,?_,?_,?_⟩,?_,?_,?_,?_,?_,?_,?_⟩
     all_goals first | (rw[Yc e1];rfl) | (rw[Yc e2];rfl)))
    have f:=Ya a0;have d8:w.heap.size<wx.heap.size:=by omega
    clear a0 a9 q0 q1 q2 q3 q4 q5 q6;obtain⟨⟨r0,r1,r2,r3,r4⟩,s0,s1,X,s3,Y,s5,s6⟩:=Hc.out wx (Yh _ _);go_wp2_with fail
    refine(H1.out wx f.out).mono ?_;rintro e4 w4 ⟨rfl,a2⟩;have e3:=a2.size;have E:=Ya a2;clear r0 r1 r2 r3 r4 s0 s1 X s3 Y s5 s6 a2;obtain⟨⟨r0,r1,r2,r3,r4⟩,s0,s1,X,s3,Y,s5,s6⟩:=Hc.out w4 E.out
    cases σ with
    | false =>
     have u:=Ya (show chkSs L l d=4 from by
      have t:χ=4:=by rw[U.out];simp
      rw[a.out (by rw[t];decide),t])
     go_wp2_with fail
     go_ret
     exact⟨Z0 u.out.symm,m.out.trans ((Q.out.trans (f.out.mono V)).trans (E.out.mono (Ym V f.out.size)) |>.mono m.out.size)⟩
    | true =>
     have b0:=Ya (f.out.trans (E.out.mono f.out.size));go_wp2_with fail
     refine(H2.out w4 b0.out).mono ?_;rintro e5 w5 ⟨rfl,a4⟩;have v:=Ya (E.out.trans (a4.mono E.out.size));have d7:=a4.size;clear r0 r1 r2 r3 r4 s0 s1 X s3 Y s5 s6 a4;obtain⟨⟨r0,r1,r2,r3,r4⟩,s0,s1,X,s3,Y,s5,s6⟩:=Hc.out w5 v.out;have I:=Ya (λ(W:World) (Z:Below wx.heap.size wx W)=>(show Below w.heap.size w W from m.out.trans ((Q.out.trans (f.out.mono V)).trans (Z.mono (Ym V f.out.size)) |>.mono m.out.size)))
     cases φ with
     | false =>
      have u:=Ya (show chkSs L l d=4 from by
       have t:χ=4:=by rw[U.out];simp
       rw[a.out (by rw[t];decide),t])
      go_wp2_with fail
      go_ret
      exact⟨Z0 u.out.symm,I.out _ v.out⟩
     | true =>
      have Hχ:=Ya (show χ=if 200<=d\/14<ν then 5 else if β≠0 then β else ε from by rw[U.out];simp);by_cases d6:200<=d
      .have u:=Ya (show chkSs L l d=5 from by
        have t:χ=5:=by rw[Hχ.out,if_pos (.inl d6)]
        rw[a.out (by rw[t];decide),t])
       go_wp2_with fail
       go_ret
       exact⟨Z0 u.out.symm,I.out _ v.out⟩
      .have Hb5':=Ya (f.out.trans (v.out.mono f.out.size))
       have c0:d<200:=by omega
       go_wp2_with fail
       refine(H3.out w5 Hb5'.out).mono ?_;rintro e6 x ⟨rfl,a5⟩;have K:=Ya (v.out.trans (a5.mono v.out.size));have e9:=a5.size;clear r0 r1 r2 r3 r4 s0 s1 X s3 Y s5 s6 a5;obtain⟨⟨r0,r1,r2,r3,r4⟩,s0,s1,X,s3,Y,s5,s6⟩:=Hc.out x K.out;by_cases hν:14<ν
       .have u:=Ya (show chkSs L l d=5 from by
         have t:χ=5:=by rw[Hχ.out,if_pos (.inr hν)]
         rw[a.out (by rw[t];decide),t])
        have d1:(14:Int)<(ν:Int):=by omega
        go_wp2_with fail
        go_ret
        exact⟨Z0 u.out.symm,I.out _ K.out⟩
       .have Hχ2:=Ya (show χ=if β≠0 then β else ε from by rw[Hχ.out,if_neg (by omega)])
        have d1:¬(14:Int)<(ν:Int):=by omega
        have d0:(d:Int)<200:=by omega
        clear Hχ U;have b1:Below x.heap.size x (x.alloc (.cells #[.slice z N3 c3,.slice y N4 c4] 147)):=(Yh _ _).alloc (Yb _) _;have b5:=heap_alloc_new x (.cells #[.slice z N3 c3,.slice y N4 c4] 147);have d4:x.heap.size<(x.alloc (.cells #[.slice z N3 c3,.slice y N4 c4] 147)).heap.size:=by simp
        go_wp2_with fail
        generalize x.alloc (.cells #[.slice z N3 c3,.slice y N4 c4] 147)=w7 at *;have i:=Ya (K.out.trans (b1.mono K.out.size));have c7:=Ya (λ(W:World) (Z:Below w7.heap.size w7 W)=>(show W.cell? ⟨x.heap.size,0,none⟩=some (.slice z N3 c3)/\W.cell? ⟨x.heap.size,1,none⟩=some (.slice y N4 c4) from by
         have e1:W.heap[x.heap.size]?=some (.cells #[.slice z N3 c3,.slice y N4 c4] 147):=(Z.block _ d4).trans b5
         constructor
         all_goals (rw[Yc e1];rfl)))
        have d9:=i.out.size;have a8:=Ya (λ(W:World) (Z:Below w7.heap.size w7 W)=>(show Below q.heap.size q W from f.out.trans ((i.out.trans (Z.mono i.out.size)).mono f.out.size)));clear b1 b5 r0 r1 r2 r3 r4 s0 s1 X s3 Y s5 s6;go_loopw [42,10,11] (λ a6 _ _ wl=>∃j:Nat,j<=2/\a6=.int .i64 j/\Hid (1<=j->β=0)/\Hid (2<=j->ε=0)/\Hid (Below w7.heap.size w7 wl)) (λ a6 _ _ _=>2-(intOf a6).toNat)
        case atStart=>exact⟨0,by omega,rfl,Ya (λ h=>by omega),Ya (λ h=>by omega),Ya (Yh _ _)⟩
        case round =>
         obtain⟨j,hj,rfl,c5,c8,o⟩:=hrel;obtain⟨⟨r0,r1,r2,r3,r4⟩,s0,s1,X,s3,Y,s5,s6⟩:=Hc.out wr (i.out.trans (o.out.mono i.out.size));obtain⟨z0,z1⟩:=c7.out wr o.out;have e7:=o.out.size;have f1:x.heap.size<wr.heap.size:=by omega
         rcases(show j=0\/j=1\/j=2 by omega) with rfl|rfl|rfl
         .go_wp2_with fail
          refine(H4.out c0 _ (a8.out wr o.out)).mono ?_;rintro e8 w8 ⟨rfl,a3⟩;have D:=Ya (o.out.trans (a3.mono o.out.size));by_cases G:β=0
          .have hb0:(β != 0)=false:=by simp[G]
           have Hβ:=Ya G;clear G;go_wp2_with fail
           go_roundw
           case rel=>exact⟨1,by omega,by first|rfl|go_num,Ya (λ _=>Hβ.out),Ya (λ h=>by omega),D⟩
           case measure=>simp[intOf]
          .have hb0:(β != 0)=true:=by simp[G]
           have u:=Ya (show chkSs L l d=β from by
            have t:χ=β:=by rw[Hχ2.out,if_pos G]
            rw[a.out (by rw[t];exact G),t])
           clear G;go_wp2_with fail
           go_ret
           exact⟨Z0 u.out.symm,I.out _ (i.out.trans (D.out.mono i.out.size))⟩
         .go_wp2_with fail
          refine(H5.out c0 _ (a8.out wr o.out)).mono ?_;rintro e8 w8 ⟨rfl,a3⟩;have D:=Ya (o.out.trans (a3.mono o.out.size));have G:=c5.out (by omega);have b4:=Ya (show χ=ε from by rw[Hχ2.out,if_neg (by simp[G])]);have Hβ:=Ya G;clear G;by_cases hε:ε=0
          .have hb0:(ε != 0)=false:=by simp[hε]
           have Hε:=Ya hε;clear hε;go_wp2_with fail
           go_roundw
           case rel=>exact⟨2,by omega,by first|rfl|go_num,Ya (λ _=>Hβ.out),Ya (λ _=>Hε.out),D⟩
           case measure=>simp[intOf]
          .have hb0:(ε != 0)=true:=by simp[hε]
           have u:=Ya (show chkSs L l d=ε from by
            rw[a.out (by rw[b4.out];exact hε),b4.out])
           clear hε;go_wp2_with fail
           go_ret
           exact⟨Z0 u.out.symm,I.out _ (i.out.trans (D.out.mono i.out.size))⟩
         .have Hz:=Ya (a1.out (show χ=0 from by rw[Hχ2.out,if_neg (by simp[c5.out (by omega)]),c8.out (by omega)]))
          go_wp2_with fail
          go_roundw
          case rel=>exact⟨k+1,by omega,by go_num,Hz,Ya (Q.out.trans ((f.out.trans ((i.out.trans (o.out.mono i.out.size)).mono f.out.size)).mono Q.out.size))⟩
          case measure=>simp[intOf];omega
   .have hkN:k=N:=by omega
    subst hkN;have u:=Ya (show chkSs L l d=0 from by have:=HC.out;rw[HN.out,List.take_length] at this;exact this);go_wp2_with fail
    go_ret
    exact⟨Z0 u.out.symm,m.out.trans (Q.out.mono m.out.size)⟩
theorem Zil {r:BR}(h:chkB r=0):labB r.name=true/\0<=r.params/\r.params<=4/\r.params<=r.locals/\r.locals<=200/\chkSs r.locals r.body 0=0:=by
 unfold chkB at h
 split at h
 .omega
 .rename_i hc
  simp only[Bool.not_eq_true,Bool.or_eq_false_iff,Bool.not_eq_false',decide_eq_false_iff_not] at hc;obtain⟨⟨⟨⟨h1,h2⟩,h3⟩,h4⟩,h5⟩:=hc;exact⟨h1,by omega,by omega,by omega,by omega,h⟩
def Zyj (r:BR)(A:Option Addr)(c:Nat):Value:=.agg #[.string r.name,.int .i64 r.params,.int .i64 r.locals,.bool r.behind,.slice A r.body.length c]
structure RAt2 (w:World)(B:Nat)(r:BR)(A:Option Addr):Prop where
 name:r.name.size<=maxLen
 body:SList w B A r.body
 size:Zh3 r.body<=1000000000
theorem RAt2.below {w w':World}{B:Nat}{r:BR}{A:Option Addr}(h:RAt2 w B r A)(a:Below B w w'):RAt2 w' B r A:=⟨h.name,h.body.below a,h.size⟩
theorem RAt2.more {w:World}{B B':Nat}{r:BR}{A:Option Addr}(h:RAt2 w B r A)(a:B<=B'):RAt2 w B' r A:=⟨h.name,h.body.more a,h.size⟩
theorem Zpo (r:BR)(A:Option Addr)(c:Nat)(w:World)(h:RAt2 w w.heap.size r A):Calls prog 224 #[Zyj r A c] w λ x w'=>x=.returned (.int .i64 (chkB r))/\Below w.heap.size w w':=by
 obtain⟨nm,P,L,g,body⟩:=r;obtain⟨h1,h2,h3⟩:=h;unfold Zyj;simp only at h1 h2 h3⊢;have q:=Zdj body;have m:=Ya (λ(W:World) (t:Below w.heap.size w W)=>Z2a nm P L g A body.length c (Zh3 body) h3 body A c 0 W (Yb _) (by omega) ((h2.below t).more t.size));have j:chkB ⟨nm,P,L,g,body⟩=if !S.labB nm || decide (P<0) || decide (4<P) || decide (L<P) || decide (200<L) then 2 else chkSs L body 0:=rfl
 have a:=Ya (λ W=>Zp0 nm W h1);obtain⟨res,i⟩:=Yx (chkB ⟨nm,P,L,g,body⟩);rw[<- i] at j⊢;have d:=Ya j;unfold Zgy at m;generalize labB nm=B at *;generalize chkSs L body 0=κ at *;generalize body.length=N at *;clear h1 h2 h3 q i j;have n:Below w.heap.size w (w.alloc (.cells #[.string nm,.int .i64 P,.int .i64 L,.bool g,.slice A N c] 203)):=(Yh _ _).alloc (Yb _) _;have e:=heap_alloc_new w (.cells #[.string nm,.int .i64 P,.int .i64 L,.bool g,.slice A N c] 203);have z:w.heap.size<(w.alloc (.cells #[.string nm,.int .i64 P,.int .i64 L,.bool g,.slice A N c] 203)).heap.size:=by simp
 go_enter func224,ntmps224
 go_upto_region 1 with fail
 generalize w.alloc (.cells #[.string nm,.int .i64 P,.int .i64 L,.bool g,.slice A N c] 203)=w2 at *;have b:=Ya n;have c0:w2.cell? ⟨w.heap.size,0,none⟩=some (.string nm):=by rw[Yc e];rfl
 have c1:w2.cell? ⟨w.heap.size,1,none⟩=some (.int .i64 P):=by rw[Yc e];rfl
 have c2:w2.cell? ⟨w.heap.size,2,none⟩=some (.int .i64 L):=by rw[Yc e];rfl
 have c3:w2.cell? ⟨w.heap.size,3,none⟩=some (.bool g):=by rw[Yc e];rfl
 have c4:w2.cell? ⟨w.heap.size,4,none⟩=some (.slice A N c):=by rw[Yc e];rfl
 clear n e
 cases B with
 | false =>
  have f:=Ya (show res=2 from by rw[d.out];simp);go_wp2_with fail
  refine(a.out w2).mono ?_;rintro k l ⟨rfl,rfl⟩;go_wp2_with fail
  go_ret
  exact⟨Z0 f.out.symm,b.out⟩
 | true =>
  by_cases v:P<0
  .have f:=Ya (show res=2 from by rw[d.out,decide_eq_true v];simp)
   go_wp2_with fail
   refine(a.out w2).mono ?_;rintro k l ⟨rfl,rfl⟩;go_wp2_with fail
   go_ret
   exact⟨Z0 f.out.symm,b.out⟩
  by_cases y:4<P
  .have f:=Ya (show res=2 from by rw[d.out,decide_eq_true y];simp)
   go_wp2_with fail
   refine(a.out w2).mono ?_;rintro k l ⟨rfl,rfl⟩;go_wp2_with fail
   go_ret
   exact⟨Z0 f.out.symm,b.out⟩
  by_cases u:L<P
  .have f:=Ya (show res=2 from by rw[d.out,decide_eq_true u];simp)
   go_wp2_with fail
   refine(a.out w2).mono ?_;rintro k l ⟨rfl,rfl⟩;go_wp2_with fail
   go_ret
   exact⟨Z0 f.out.symm,b.out⟩
  by_cases s:200<L
  .have f:=Ya (show res=2 from by rw[d.out,decide_eq_true s];simp)
   go_wp2_with fail
   refine(a.out w2).mono ?_;rintro k l ⟨rfl,rfl⟩;go_wp2_with fail
   go_ret
   exact⟨Z0 f.out.symm,b.out⟩
  have f:=Ya (show res=κ from by rw[d.out,decide_eq_false v,decide_eq_false y,decide_eq_false u,decide_eq_false s];simp);go_wp2_with fail
  refine(a.out w2).mono ?_;rintro k l ⟨rfl,rfl⟩;go_wp2_with fail
  refine(m.out w2 b.out).mono ?_;rintro e5 w5 ⟨rfl,o⟩;go_wp2_with fail
  go_ret
  exact⟨Z0 f.out.symm,b.out.trans (o.mono b.out.size)⟩
theorem Z2b (r:BR)(A:Option Addr)(c:Nat)(w:World)(h:RAt2 w w.heap.size r A):Calls prog 225 #[Zyj r A c] w λ x w'=>x=.returned (.int .i64 (frameB r))/\Below w.heap.size w w':=by
 have l:=Ya (λ(W:World) (o:Below w.heap.size w W)=>Zpo r A c W ((h.below o).more o.size));have j:chkB r=0->-1000000<=r.locals/\r.locals<=200:=λ h0=>by obtain⟨_,h1,_,h2,h3,_⟩:=Zil h0;omega
 obtain⟨nm,P,L,b,body⟩:=r;have g:frameB ⟨nm,P,L,b,body⟩=if chkB ⟨nm,P,L,b,body⟩≠0 then 0 else L+15:=rfl
 unfold Zyj at l⊢;simp only at l j⊢;generalize frameB ⟨nm,P,L,b,body⟩=res at *;generalize chkB ⟨nm,P,L,b,body⟩=κ at *;generalize body.length=N at *;have f:=Ya g;clear g h;have i:Below w.heap.size w (w.alloc (.cells #[.string nm,.int .i64 P,.int .i64 L,.bool b,.slice A N c] 203)):=(Yh _ _).alloc (Yb _) _;have a:=heap_alloc_new w (.cells #[.string nm,.int .i64 P,.int .i64 L,.bool b,.slice A N c] 203);have k:w.heap.size<(w.alloc (.cells #[.string nm,.int .i64 P,.int .i64 L,.bool b,.slice A N c] 203)).heap.size:=by simp
 go_enter func225,ntmps225
 go_upto_region 1 with fail
 generalize w.alloc (.cells #[.string nm,.int .i64 P,.int .i64 L,.bool b,.slice A N c] 203)=w2 at *;have e:=Ya i;have c0:w2.cell? ⟨w.heap.size,0,none⟩=some (.string nm):=by rw[Yc a];rfl
 have c1:w2.cell? ⟨w.heap.size,1,none⟩=some (.int .i64 P):=by rw[Yc a];rfl
 have c2:w2.cell? ⟨w.heap.size,2,none⟩=some (.int .i64 L):=by rw[Yc a];rfl
 have c3:w2.cell? ⟨w.heap.size,3,none⟩=some (.bool b):=by rw[Yc a];rfl
 have c4:w2.cell? ⟨w.heap.size,4,none⟩=some (.slice A N c):=by rw[Yc a];rfl
 go_wp2_with fail
 refine(l.out w2 e.out).mono ?_;rintro e4 s ⟨rfl,d⟩;have u:s.cell? ⟨w.heap.size,2,none⟩=some (.int .i64 L):=(d.cell (p:=⟨w.heap.size,2,none⟩) k).trans c2;have q:=Ya (e.out.trans (d.mono e.out.size));have t:=d.size;clear c0 c1 c2 c3 c4 i a d;by_cases h0:κ=0
 .obtain⟨l0,l1⟩:=j h0
  have n:(κ != 0)=false:=by simp[h0]
  have m:=Ya (show res=L+1+14 from by rw[f.out,if_neg (by simp[h0])];omega);clear h0 j;go_wp2_with fail
  go_ret
  exact⟨Z0 m.out.symm,q.out⟩
 .have n:(κ != 0)=true:=by simp[h0]
  have m:=Ya (show res=0 from by rw[f.out,if_pos h0]);clear h0 j;go_wp2_with fail
  go_ret
  exact⟨Z0 m.out.symm,q.out⟩
section
structure CH where
 r:BR
 A:Option Addr
 c:Nat
 fr:Int
def Zhj (h:CH)(v:Value)(lab:Int):Array Value:=#[.string h.r.name,.int .i64 h.r.params,.int .i64 h.r.locals,.bool h.r.behind,.slice h.A h.r.body.length h.c,.int .i64 h.fr,v,.int .i64 lab]
structure CAt (base p:Nat)(h:CH)(xs:List S.Item)(lab:Int)(w:World):Prop where
 low:base<=p
 at_:∃v,w.heap[p]?=some (.cells (Zhj h v lab) 242)/\w.ownsRow base 135 8 v xs.length (xs.flatMap Zd)
theorem CAt.lt {base p:Nat}{h:CH}{xs:List S.Item}{lab:Int}{w:World}(H:CAt base p h xs lab w):p<w.heap.size:=by
 obtain⟨_,v,b,_⟩:=H;rcases Ycj p w.heap.size with a|a
 .exact a
 .simp[Ybs a] at b
theorem CAt.keep {base p:Nat}{h:CH}{xs:List S.Item}{lab:Int}{w w':World}(H:CAt base p h xs lab w)(b:Below w.heap.size w w'):CAt base p h xs lab w':=by
 have a:=H.lt;obtain⟨h1,v,h2,h3⟩:=H;exact⟨h1,v,(b.block p a).trans h2,Ze h3 b⟩
theorem Zbh {w:World}{B:Nat}{e T:TypeId}{size:Nat}{v:Value}{n:Nat}{xs:List Value}{b:Nat}{cs:Array Value}{fr:Nat×Nat}(a:w.ownsRow B e size v n xs)(c:w.heap[b]?=some (.cells cs T fr))(d:T≠e):v.ownBlock≠some b:=by
 rcases a.2 with⟨rfl,_⟩|⟨g,cap,f,rfl,_,hg,_⟩
 .simp[Yap]
 .intro h
  simp only[Yap,Option.some.injEq] at h;subst h;rw[hg] at c;simp only[Option.some.injEq,Obj.cells.injEq] at c;exact d c.2.1.symm
def Z6z (w w':World):Prop:=∀(k:Nat)(r:Array Value)(T:TypeId)(o:Nat×Nat),w.heap[k]?=some (.cells r T o)->T≠135->T≠242->w'.heap[k]?=some (.cells r T o)
structure CK (base:Nat)(w w':World):Prop where
 below:Below base w w'
 keep:Z6z w w'
theorem CK.size {base:Nat}{w w':World}(h:CK base w w'):w.heap.size<=w'.heap.size:=h.below.size
theorem CK.trans {base:Nat}{w w' a:World}(h:CK base w w')(h2:CK base w' a):CK base w a:=⟨h.below.trans h2.below,λ k r T o c h3 b=>h2.keep k r T o (h.keep k r T o c h3 b) h3 b⟩
theorem CK.refl (base:Nat)(w:World):CK base w w:=⟨Yh _ _,λ _ _ _ _ a _ _=>a⟩
theorem CK.of {base:Nat}{w w':World}(h:Below w.heap.size w w')(c:base<=w.heap.size):CK base w w':=⟨h.mono c,λ k r T o b _ _=>by
 rcases Ycj k w.heap.size with a|a
 .exact(h.block k a).trans b
 .simp[Ybs a] at b⟩
def Zh0 (base p:Nat)(h:CH)(xs ys:List S.Item)(lab:Int)(w:World)(e:Ending)(w':World):Prop:=e=.returned (.tuple #[])/\CAt base p h (xs++ys) lab w'/\CK base w w'
theorem Zbc {base p:Nat}{h:CH}{xs:List S.Item}{x:S.Item}{lab:Int}{w c:World}{v g:Value}(a:base<=p)(hbw:base<=w.heap.size)(f:w.heap[p]?=some (.cells (Zhj h v lab) 242))(u:w.ownsRow base 135 8 v xs.length (xs.flatMap Zd))
 (j:c.ownsRow base 135 8 g (xs.length+1) (xs.flatMap Zd++Zd x)) (hg:w.grownBy c v.ownBlock) (y:Below base w c):CAt base p h (xs++[x]) lab (c.setCell ⟨p,6,none⟩ g)/\CK base w (c.setCell ⟨p,6,none⟩ g):=by
 have q:=Zbh u f (by decide);have s:p<w.heap.size:=by
  rcases Ycj p w.heap.size with d|d
  .exact d
  .simp[Ybs d] at f
 have b:c.heap[p]?=some (.cells (Zhj h v lab) 242):=(hg.block p s (λ e=>q e.symm)).trans f;have t:(c.setCell ⟨p,6,none⟩ g).heap[p]?=some (.cells (Zhj h g lab) 242):=by
  rw[setCell_eq_setRow _ _ _ _ _ _ _ b];exact setRow_heap _ _ _ _ _ _ b
 have l:=Zbh j b (by decide);refine⟨⟨a,g,t,?_⟩,y.setCell (p:=⟨p,6,none⟩) a _,λ k r T o i h1 h2=>?_⟩
 .rw[Yd,List.flatMap_append,List.flatMap_singleton]
  exact j.kept (row:=some p) ⟨rfl,rfl,rfl,by simp[World.setCell],λ k _ f=>Ybm _ _ _ _ (λ e=>f (by simp[e]))⟩ (Or.inr l)
 .have hkp:k≠p:=by
   rintro rfl;rw[f] at i;simp only[Option.some.injEq,Obj.cells.injEq] at i;exact h2 i.2.1.symm
  have n:k<w.heap.size:=by
   rcases Ycj k w.heap.size with d|d
   .exact d
   .simp[Ybs d] at i
  have m:=Zbh u i h1;rw[Ybm _ _ _ _ hkp];exact(hg.block k n (λ e=>m e.symm)).trans i
section
variable {base p:Nat}{h:CH}{xs:List S.Item}{lab:Int}{w:World}(H:CAt base p h xs lab w)(hbw:base<=w.heap.size)(hl:xs.length<=100000000)
include H hbw hl
theorem Zim (s:ByteArray):Calls prog 226 #[.pointer (some ⟨p,0,none⟩),.string s] w (Zh0 base p h xs [bL s] lab w):=by
 have l:=H.lt;obtain⟨a,v,f,k⟩:=H;have c6:w.cell? ⟨p,6,none⟩=some v:=by rw[Yc f];rfl
 have g:=Ya f;have j:=Ya k;obtain⟨A',c',rfl⟩:=Zc k;clear f k;go_enter func226,ntmps226
 go_wp2_with (at_builtin;refine Zm rfl (.tmp 8) (.tmp 11) _ rfl base 135 Zaz underlying103 rfl (by decide) #[.int .i64 2,.int .i64 0,.int .i64 0,.int .i64 0,.int .i64 0,.int .i64 0,.string s,.int .u32 0] _ _ _ rfl j.out rfl rfl rfl (by simp[Y1]) (by simp only[maxLen];omega) (by omega) hbw ?_;intro v' m c d i _;obtain⟨A8,c8,rfl⟩:=Zc c;have b:=(d.block p l (λ e=>Zbh j.out g.out (by decide) e.symm)).trans g.out;have f6:m.frozen? ⟨p,6,none⟩=false:=Yao b 6;have d6:∃u,m.cell? ⟨p,6,none⟩=some u:=⟨_,by rw[Yc b];rfl⟩;obtain⟨u6,d6⟩:=d6)
 go_end0
 obtain⟨n,o⟩:=Zbc (x:=bL s) a hbw g.out j.out c d i;exact⟨rfl,n,o⟩
theorem Zq4 (d:Int)(s:ByteArray):Calls prog 264 #[.pointer (some ⟨p,0,none⟩),.int .i64 d,.string s] w (Zh0 base p h xs [bJ d s] lab w):=by
 have m:=H.lt;obtain⟨a,v,g,l⟩:=H;have c6:w.cell? ⟨p,6,none⟩=some v:=by rw[Yc g];rfl
 have i:=Ya g;have k:=Ya l;obtain⟨A',c',rfl⟩:=Zc l;clear g l;go_enter func264,ntmps264
 go_wp2_with (at_builtin;refine Zm rfl (.tmp 10) (.tmp 15) _ rfl base 135 Zaz underlying103 rfl (by decide) (Zd (bJ d s)).toArray _ _ _ rfl k.out rfl rfl rfl (by simp[Y1,Zd]) (by simp only[maxLen];omega) (by omega) hbw ?_;intro v' n c f j _;obtain⟨A8,c8,rfl⟩:=Zc c;have b:=(f.block p m (λ e=>Zbh k.out i.out (by decide) e.symm)).trans i.out;have f6:n.frozen? ⟨p,6,none⟩=false:=Yao b 6;have d6:∃u,n.cell? ⟨p,6,none⟩=some u:=⟨_,by rw[Yc b];rfl⟩;obtain⟨u6,d6⟩:=d6)
 go_end0
 obtain⟨o,q⟩:=Zbc (x:=bJ d s) a hbw i.out k.out c f j;exact⟨rfl,o,q⟩
theorem Zq5 (a:Int)(s:ByteArray):Calls prog 280 #[.pointer (some ⟨p,0,none⟩),.int .i64 a,.string s] w (Zh0 base p h xs [bU a s] lab w):=by
 have m:=H.lt;obtain⟨b,v,g,l⟩:=H;have c6:w.cell? ⟨p,6,none⟩=some v:=by rw[Yc g];rfl
 have i:=Ya g;have k:=Ya l;obtain⟨A',c',rfl⟩:=Zc l;clear g l;go_enter func280,ntmps280
 go_wp2_with (at_builtin;refine Zm rfl (.tmp 10) (.tmp 15) _ rfl base 135 Zaz underlying103 rfl (by decide) (Zd (bU a s)).toArray _ _ _ rfl k.out rfl rfl rfl (by simp[Y1,Zd]) (by simp only[maxLen];omega) (by omega) hbw ?_;intro v' n d f j _;obtain⟨A8,c8,rfl⟩:=Zc d;have c:=(f.block p m (λ e=>Zbh k.out i.out (by decide) e.symm)).trans i.out;have f6:n.frozen? ⟨p,6,none⟩=false:=Yao c 6;have d6:∃u,n.cell? ⟨p,6,none⟩=some u:=⟨_,by rw[Yc c];rfl⟩;obtain⟨u6,d6⟩:=d6)
 go_end0
 obtain⟨o,q⟩:=Zbc (x:=bU a s) b hbw i.out k.out d f j;exact⟨rfl,o,q⟩
theorem Zbx (op d a b imm:Int):Calls prog 227 #[.pointer (some ⟨p,0,none⟩),.agg #[.int .i64 op,.int .i64 d,.int .i64 a,.int .i64 b,.int .i64 imm]] w (Zh0 base p h xs [bI op d a b imm] lab w):=by
 have C:Below w.heap.size w (w.alloc (.cells #[.int .i64 op,.int .i64 d,.int .i64 a,.int .i64 b,.int .i64 imm] 133)):=(Yh _ _).alloc (Yb _) _;have E:=heap_alloc_new w (.cells #[.int .i64 op,.int .i64 d,.int .i64 a,.int .i64 b,.int .i64 imm] 133);have z:w.heap.size<(w.alloc (.cells #[.int .i64 op,.int .i64 d,.int .i64 a,.int .i64 b,.int .i64 imm] 133)).heap.size:=by simp
 have A:=Ya (CK.of C hbw);have O:=H.keep C;clear H;go_enter func227,ntmps227
 go_upto_region 1 with fail
 refine wp_region_any (by kernel_rfl) ?_;generalize w.alloc (.cells #[.int .i64 op,.int .i64 d,.int .i64 a,.int .i64 b,.int .i64 imm] 133)=w2 at *;change wpAny _ _ _ _ _ _ _ (World.drew w2);have r:Below w2.heap.size w2 w2.drew:=⟨rfl,rfl,rfl,Yb _,λ _ _=>rfl⟩
 have N:=O.keep r;have o:=(r.block _ z).trans E;have Q:w.heap.size<w2.drew.heap.size:=Y3 z r.size;have t:=Ya (A.out.trans (CK.of r (by have:=A.out.size;omega)));clear O r E z C A;generalize w2.drew=w3 at *;have e0:w3.cell? ⟨w.heap.size,0,none⟩=some (.int .i64 op):=by rw[Yc o];rfl
 have e1:w3.cell? ⟨w.heap.size,1,none⟩=some (.int .i64 d):=by rw[Yc o];rfl
 have e2:w3.cell? ⟨w.heap.size,2,none⟩=some (.int .i64 a):=by rw[Yc o];rfl
 have e3:w3.cell? ⟨w.heap.size,3,none⟩=some (.int .i64 b):=by rw[Yc o];rfl
 have e4:w3.cell? ⟨w.heap.size,4,none⟩=some (.int .i64 imm):=by rw[Yc o];rfl
 have f:base<=w3.heap.size:=by have:=t.out.size;omega
 have y:=N.lt;obtain⟨m,v,G,L⟩:=N;have c6:w3.cell? ⟨p,6,none⟩=some v:=by rw[Yc G];rfl
 have n:=Ya G;have q:=Ya L;obtain⟨R,P,rfl⟩:=Zc L;clear G L o
 (refine wpAny_take (i:=0) (v:=?vv1) rfl (by kernel_rfl) (by kernel_rfl) (by kernel_rfl) (λ _ _ _ h=>h) (Or.inl ⟨by rfl,?yy1⟩) ?zz1;(case yy1=>intro w;go_simp;try with_reducible rfl);go_simp)
 (refine wpAny_take (i:=1) (v:=?vv2) rfl (by kernel_rfl) (by kernel_rfl) (by kernel_rfl) (λ _ _ _ h=>h) (Or.inl ⟨by rfl,?yy2⟩) ?zz2;(case yy2=>intro w;go_simp;try with_reducible rfl);go_simp)
 (refine wpAny_take (i:=2) (v:=?vv3) rfl (by kernel_rfl) (by kernel_rfl) (by kernel_rfl) (λ _ _ _ h=>h) (Or.inl ⟨by rfl,?yy3⟩) ?zz3;(case yy3=>intro w;go_simp;try with_reducible rfl);go_simp)
 (refine wpAny_take (i:=3) (v:=?vv4) rfl (by kernel_rfl) (by kernel_rfl) (by kernel_rfl) (λ _ _ _ h=>h) (Or.inl ⟨by rfl,?yy4⟩) ?zz4;(case yy4=>intro w;go_simp;try with_reducible rfl);go_simp)
 refine wpAny_ready (rs:=[4,5]) (by kernel_rfl) (by simp) ?_;refine Yk rfl (λ K c=>?_) (Yk rfl (λ K c=>?_) Yq)
 .go_simp
  refine c _ _ ?_;clear c K
  (refine wpAny_ready (rs:=[5]) (by kernel_rfl) (by simp) ?_;refine Yk rfl (λ K c=>?_) Yq;go_simp;refine c _ _ ?_;clear c K)
  (refine wpAny_ready (rs:=[6]) (by kernel_rfl) (by simp) ?_;refine Yk rfl (λ K c=>?_) Yq;go_simp;refine c _ _ ?_;clear c K)
  (refine wpAny_ready (rs:=[7]) (by kernel_rfl) (by simp) ?_;refine Yk rfl (λ K c=>?_) Yq;go_simp;refine c _ _ ?_;clear c K)
  refine wpAny_ready (rs:=[8]) (by kernel_rfl) (by simp) ?_;refine Yk rfl (λ K c=>?_) Yq;rw[if_pos (by simp[Yan])];refine Zd7 (.tmp 8) (.tmp 11) _ rfl base 135 Zaz underlying103 rfl (by decide) (Zd (bI op d a b imm)).toArray _ _ _ rfl q.out rfl rfl rfl (by simp[Y1,Zd]) (by simp only[maxLen];omega) (by omega) f ?_;intro I s j k l _;obtain⟨J,F,rfl⟩:=Zc j;have g:=(k.block p y (λ e=>Zbh q.out n.out (by decide) e.symm)).trans n.out;have f6:s.frozen? ⟨p,6,none⟩=false:=Yao g 6;have d6:∃u,s.cell? ⟨p,6,none⟩=some u:=⟨_,by rw[Yc g];rfl⟩
  obtain⟨M,d6⟩:=d6;refine c _ _ ?_;clear c K;go_simp
  (refine wpAny_take (i:=9) (v:=?vv5) rfl (by kernel_rfl) (by kernel_rfl) (by kernel_rfl) (λ _ _ _ h=>h) (Or.inl ⟨by rfl,?yy5⟩) ?zz5;(case yy5=>intro w;go_simp;try with_reducible rfl);go_simp)
  (refine wpAny_take (i:=10) (v:=?vv6) rfl (by kernel_rfl) (by kernel_rfl) (by kernel_rfl) (λ _ _ _ h=>h) (Or.inl ⟨by rfl,?yy6⟩) ?zz6;(case yy6=>intro w;go_simp;try with_reducible rfl);go_simp)
  (refine wpAny_ready (rs:=[11]) (by kernel_rfl) (by simp) ?_;refine Yk rfl (λ K c=>?_) Yq;go_simp;refine c _ _ ?_;clear c K)
  refine wpAny_done (by kernel_rfl) ?_ _
  go_end0
  obtain⟨B,D⟩:=Zbc (x:=bI op d a b imm) m f n.out q.out j k l;exact⟨rfl,B,t.out.trans D⟩
 .go_simp
  refine c _ _ ?_;clear c K;refine wpAny_ready (rs:=[4,6]) (by kernel_rfl) (by simp) ?_;refine Yk rfl (λ K c=>?_) (Yk rfl (λ K c=>?_) Yq)
  .go_simp
   refine c _ _ ?_;clear c K
   (refine wpAny_ready (rs:=[6]) (by kernel_rfl) (by simp) ?_;refine Yk rfl (λ K c=>?_) Yq;go_simp;refine c _ _ ?_;clear c K)
   (refine wpAny_ready (rs:=[7]) (by kernel_rfl) (by simp) ?_;refine Yk rfl (λ K c=>?_) Yq;go_simp;refine c _ _ ?_;clear c K)
   refine wpAny_ready (rs:=[8]) (by kernel_rfl) (by simp) ?_;refine Yk rfl (λ K c=>?_) Yq;rw[if_pos (by simp[Yan])];refine Zd7 (.tmp 8) (.tmp 11) _ rfl base 135 Zaz underlying103 rfl (by decide) (Zd (bI op d a b imm)).toArray _ _ _ rfl q.out rfl rfl rfl (by simp[Y1,Zd]) (by simp only[maxLen];omega) (by omega) f ?_;intro I s j k l _;obtain⟨J,F,rfl⟩:=Zc j;have g:=(k.block p y (λ e=>Zbh q.out n.out (by decide) e.symm)).trans n.out;have f6:s.frozen? ⟨p,6,none⟩=false:=Yao g 6;have d6:∃u,s.cell? ⟨p,6,none⟩=some u:=⟨_,by rw[Yc g];rfl⟩
   obtain⟨M,d6⟩:=d6;refine c _ _ ?_;clear c K;go_simp
   (refine wpAny_take (i:=9) (v:=?vv7) rfl (by kernel_rfl) (by kernel_rfl) (by kernel_rfl) (λ _ _ _ h=>h) (Or.inl ⟨by rfl,?yy7⟩) ?zz7;(case yy7=>intro w;go_simp;try with_reducible rfl);go_simp)
   (refine wpAny_take (i:=10) (v:=?vv8) rfl (by kernel_rfl) (by kernel_rfl) (by kernel_rfl) (λ _ _ _ h=>h) (Or.inl ⟨by rfl,?yy8⟩) ?zz8;(case yy8=>intro w;go_simp;try with_reducible rfl);go_simp)
   (refine wpAny_ready (rs:=[11]) (by kernel_rfl) (by simp) ?_;refine Yk rfl (λ K c=>?_) Yq;go_simp;refine c _ _ ?_;clear c K)
   refine wpAny_done (by kernel_rfl) ?_ _
   go_end0
   obtain⟨B,D⟩:=Zbc (x:=bI op d a b imm) m f n.out q.out j k l;exact⟨rfl,B,t.out.trans D⟩
  .go_simp
   refine c _ _ ?_;clear c K;refine wpAny_ready (rs:=[4,7]) (by kernel_rfl) (by simp) ?_;refine Yk rfl (λ K c=>?_) (Yk rfl (λ K c=>?_) Yq)
   .go_simp
    refine c _ _ ?_;clear c K
    (refine wpAny_ready (rs:=[7]) (by kernel_rfl) (by simp) ?_;refine Yk rfl (λ K c=>?_) Yq;go_simp;refine c _ _ ?_;clear c K)
    refine wpAny_ready (rs:=[8]) (by kernel_rfl) (by simp) ?_;refine Yk rfl (λ K c=>?_) Yq;rw[if_pos (by simp[Yan])];refine Zd7 (.tmp 8) (.tmp 11) _ rfl base 135 Zaz underlying103 rfl (by decide) (Zd (bI op d a b imm)).toArray _ _ _ rfl q.out rfl rfl rfl (by simp[Y1,Zd]) (by simp only[maxLen];omega) (by omega) f ?_;intro I s j k l _;obtain⟨J,F,rfl⟩:=Zc j;have g:=(k.block p y (λ e=>Zbh q.out n.out (by decide) e.symm)).trans n.out;have f6:s.frozen? ⟨p,6,none⟩=false:=Yao g 6;have d6:∃u,s.cell? ⟨p,6,none⟩=some u:=⟨_,by rw[Yc g];rfl⟩
    obtain⟨M,d6⟩:=d6;refine c _ _ ?_;clear c K;go_simp
    (refine wpAny_take (i:=9) (v:=?vv9) rfl (by kernel_rfl) (by kernel_rfl) (by kernel_rfl) (λ _ _ _ h=>h) (Or.inl ⟨by rfl,?yy9⟩) ?zz9;(case yy9=>intro w;go_simp;try with_reducible rfl);go_simp)
    (refine wpAny_take (i:=10) (v:=?vv10) rfl (by kernel_rfl) (by kernel_rfl) (by kernel_rfl) (λ _ _ _ h=>h) (Or.inl ⟨by rfl,?yy10⟩) ?zz10;(case yy10=>intro w;go_simp;try with_reducible rfl);go_simp)
    (refine wpAny_ready (rs:=[11]) (by kernel_rfl) (by simp) ?_;refine Yk rfl (λ K c=>?_) Yq;go_simp;refine c _ _ ?_;clear c K)
    refine wpAny_done (by kernel_rfl) ?_ _
    go_end0
    obtain⟨B,D⟩:=Zbc (x:=bI op d a b imm) m f n.out q.out j k l;exact⟨rfl,B,t.out.trans D⟩
   .go_simp
    refine c _ _ ?_;clear c K;have c6:(w3.alloc (Obj.cells (Zd (bI op d a b imm)).toArray 135)).cell? ⟨p,6,none⟩=some (.slice R xs.length P):=by rw[Yc ((heap_alloc_old _ _ y).trans n.out)];rfl
    simp only[Zd,bI] at c6
    (refine wpAny_ready (rs:=[4]) (by kernel_rfl) (by simp) ?_;refine Yk rfl (λ K c=>?_) Yq;go_simp;refine c _ _ ?_;clear c K)
    refine wpAny_ready (rs:=[8]) (by kernel_rfl) (by simp) ?_;refine Yk rfl (λ K c=>?_) Yq;rw[if_pos (by simp[Yan])];refine Zd7 (.tmp 8) (.tmp 11) _ rfl base 135 Zaz underlying103 rfl (by decide) (Zd (bI op d a b imm)).toArray _ _ _ rfl q.out rfl rfl rfl (by simp[Y1,Zd]) (by simp only[maxLen];omega) (by omega) f ?_;intro I s j k l _;obtain⟨J,F,rfl⟩:=Zc j;have g:=(k.block p y (λ e=>Zbh q.out n.out (by decide) e.symm)).trans n.out;have f6:s.frozen? ⟨p,6,none⟩=false:=Yao g 6;have d6:∃u,s.cell? ⟨p,6,none⟩=some u:=⟨_,by rw[Yc g];rfl⟩
    obtain⟨M,d6⟩:=d6;refine c _ _ ?_;clear c K;go_simp
    (refine wpAny_take (i:=9) (v:=?vv11) rfl (by kernel_rfl) (by kernel_rfl) (by kernel_rfl) (λ _ _ _ h=>h) (Or.inl ⟨by rfl,?yy11⟩) ?zz11;(case yy11=>intro w;go_simp;try with_reducible rfl);go_simp)
    (refine wpAny_take (i:=10) (v:=?vv12) rfl (by kernel_rfl) (by kernel_rfl) (by kernel_rfl) (λ _ _ _ h=>h) (Or.inl ⟨by rfl,?yy12⟩) ?zz12;(case yy12=>intro w;go_simp;try with_reducible rfl);go_simp)
    (refine wpAny_ready (rs:=[11]) (by kernel_rfl) (by simp) ?_;refine Yk rfl (λ K c=>?_) Yq;go_simp;refine c _ _ ?_;clear c K)
    refine wpAny_done (by kernel_rfl) ?_ _
    go_end0
    obtain⟨B,D⟩:=Zbc (x:=bI op d a b imm) m f n.out q.out j k l;exact⟨rfl,B,t.out.trans D⟩
end
end
section
theorem Zue (x:Int)(h0:0<=x)(h1:x<=4294967295):bits .and .i64 x 65535=x%65536:=by
 have h:(BitVec.ofInt 64 x &&& BitVec.ofInt 64 65535).toNat=(x%65536).toNat:=by
  rw[BitVec.toNat_and];have h1:(BitVec.ofInt 64 65535).toNat=2^16-1:=by decide
  rw[h1,Nat.and_two_pow_sub_one_eq_mod,BitVec.toNat_ofInt];omega
 show IntKind.i64.wrap ((BitVec.ofInt 64 x &&& BitVec.ofInt 64 65535).toNat:Int)=_
 rw[h,IntKind.wrap_i64];omega
structure HOk (h:CH):Prop where
 fr0:0<=h.fr
 fr1:h.fr<=1000
 l0:0<=h.r.locals
 l1:h.r.locals<=200
section
variable {base p:Nat}{h:CH}{xs:List S.Item}{lab:Int}{w:World}(H:CAt base p h xs lab w)(hbw:base<=w.heap.size)
include H
theorem CAt.cell_fr:w.cell? ⟨p,5,none⟩=some (.int .i64 h.fr):=by
 obtain⟨_,v,a,_⟩:=H;rw[Yc a];rfl
theorem CAt.cell_loc:w.cell? ⟨p,2,none⟩=some (.int .i64 h.r.locals):=by
 obtain⟨_,v,a,_⟩:=H;rw[Yc a];rfl
theorem CAt.cell_bh:w.cell? ⟨p,3,none⟩=some (.bool h.r.behind):=by
 obtain⟨_,v,a,_⟩:=H;rw[Yc a];rfl
theorem CAt.cell_lab:w.cell? ⟨p,7,none⟩=some (.int .i64 lab):=by
 obtain⟨_,v,a,_⟩:=H;rw[Yc a];rfl
theorem Z2c (a:HOk h)(k:Nat)(hk:k<=1000000):Calls prog 294 #[.pointer (some ⟨p,0,none⟩),.int .i64 (k:Int)] w λ e w'=>e=.returned (.int .i64 (1+h.r.locals+k))/\w'=w:=by
 have c2:=H.cell_loc;obtain⟨_,_,l0,l1⟩:=a;generalize h.r.locals=L at *;clear H;go_enter func294,ntmps294
 go_wp2_with fail
 go_ret
 exact⟨rfl,rfl⟩
include hbw
theorem Zni (hl:xs.length<=100000000)(d a:Int):Calls prog 262 #[.pointer (some ⟨p,0,none⟩),.int .i64 d,.int .i64 a] w (Zh0 base p h xs [bMove d a] lab w):=by
 have b:=Ya (Zbx H hbw hl 15 d a 0 0);clear H;go_enter func262,ntmps262
 go_wp2_with fail
 refine b.out.mono ?_;rintro e w2 ⟨rfl,h1,h2⟩;go_wp2_with fail
 go_end0
 exact⟨rfl,h1,h2⟩
theorem Zuf (hl:xs.length<=100000000)(g:HOk h)(d b:Int)(f:-1000000000<=b/\b<=1000000000):Calls prog 282 #[.pointer (some ⟨p,0,none⟩),.int .i64 d,.int .i64 b] w (Zh0 base p h xs [bLoad h.fr d b] lab w):=by
 have c:=Ya (Zbx H hbw hl 24 d 28 0 (b-h.fr));have c5:=H.cell_fr;obtain⟨f0,f1,_,_⟩:=g;unfold bLoad;obtain⟨fr,a⟩:=Yx h.fr;rw[<- a] at c5 c f0 f1⊢;clear H a;go_enter func282,ntmps282
 go_wp2_with fail
 refine c.out.mono ?_;rintro e w2 ⟨rfl,h1,h2⟩;go_wp2_with fail
 go_end0
 exact⟨rfl,h1,h2⟩
theorem Zug (hl:xs.length<=100000000)(g:HOk h)(d b:Int)(f:-1000000000<=b/\b<=1000000000):Calls prog 260 #[.pointer (some ⟨p,0,none⟩),.int .i64 d,.int .i64 b] w (Zh0 base p h xs [bStore h.fr d b] lab w):=by
 have c:=Ya (Zbx H hbw hl 25 0 28 d (b-h.fr));have c5:=H.cell_fr;obtain⟨f0,f1,_,_⟩:=g;unfold bStore;obtain⟨fr,a⟩:=Yx h.fr;rw[<- a] at c5 c f0 f1⊢;clear H a;go_enter func260,ntmps260
 go_wp2_with fail
 refine c.out.mono ?_;rintro e w2 ⟨rfl,h1,h2⟩;go_wp2_with fail
 go_end0
 exact⟨rfl,h1,h2⟩
theorem Z2d (hl:xs.length<=100000000)(c:HOk h):Calls prog 263 #[.pointer (some ⟨p,0,none⟩)] w (Zh0 base p h xs [bPop h.fr] lab w):=by
 have b:=Ya (Zbx H hbw hl 15 28 28 0 (-h.fr));have c5:=H.cell_fr;obtain⟨f0,f1,_,_⟩:=c;unfold bPop;obtain⟨fr,a⟩:=Yx h.fr;rw[<- a] at c5 b f0 f1⊢;clear H a;go_enter func263,ntmps263
 go_wp2_with fail
 refine b.out.mono ?_;rintro e w2 ⟨rfl,h1,h2⟩;go_wp2_with fail
 go_end0
 exact⟨rfl,h1,h2⟩
theorem Zkp (hl:xs.length+1<=100000000)(d n:Int)(hn:-2147483648<=n/\n<=4294967295):Calls prog 281 #[.pointer (some ⟨p,0,none⟩),.int .i64 d,.int .i64 n] w (Zh0 base p h xs (bConst d n) lab w):=by
 have g:=Ya (λ(ys:List S.Item) (W:World) (hy:ys.length<=1) (q:CAt base p h (xs++ys) lab W) (m:CK base w W) (op d a b imm:Int)=>Zbx q (by have:=m.size;omega) (by simp only[Yd];omega) op d a b imm);have f:=Ya H;clear H;unfold bConst;by_cases h1:-32768<=n
 .by_cases h2:n<32768
  .rw[if_pos ⟨h1,h2⟩]
   go_enter func281,ntmps281
   go_wp2_with fail
   refine(g.out [] w (by simp) (by simpa using f.out) (CK.refl _ _) 15 d 0 0 n).mono ?_;rintro e i ⟨rfl,h3,c⟩;go_wp2_with fail
   go_end0
   exact⟨rfl,by simpa using h3,c⟩
  .rw[if_neg (by omega)]
   go_enter func281,ntmps281
   go_wp2_with fail
   refine(g.out [] w (by simp) (by simpa using f.out) (CK.refl _ _) 23 d 0 0 (n/65536)).mono ?_;rintro e i ⟨rfl,h3,c⟩;go_wp2_with fail
   rw[Zue n (by omega) (by omega)];refine(g.out [bI 23 d 0 0 (n/65536)] i (by simp) (by simpa using h3) c 17 d d 0 (n%65536)).mono ?_;rintro e l ⟨rfl,k,j⟩;go_wp2_with fail
   go_end0
   have o:n%4294967296=n:=by omega
   exact⟨rfl,by rw[o];simpa using k,c.trans j⟩
 .rw[if_neg (by omega)]
  go_enter func281,ntmps281
  go_wp2_with fail
  refine(g.out [] w (by simp) (by simpa using f.out) (CK.refl _ _) 23 d 0 0 (n%4294967296/65536)).mono ?_;rintro e i ⟨rfl,h3,c⟩;go_wp2_with fail
  rw[Zue (n%4294967296) (by omega) (by omega)];refine(g.out [bI 23 d 0 0 (n%4294967296/65536)] i (by simp) (by simpa using h3) c 17 d d 0 (n%4294967296%65536)).mono ?_;rintro e l ⟨rfl,k,j⟩;go_wp2_with fail
  go_end0
  exact⟨rfl,by simpa using k,c.trans j⟩
theorem Z04 (hl:xs.length+6<=100000000)(y:HOk h):Calls prog 230 #[.pointer (some ⟨p,0,none⟩)] w (Zh0 base p h xs (bBack h.fr h.r.behind) lab w):=by
 have k:=Ya (λ(ys:List S.Item) (W:World) (hy:ys.length<=6) (m:CAt base p h (xs++ys) lab W) (A:CK base w W) (op d a b imm:Int)=>Zbx m (by have:=A.size;omega) (by simp only[Yd];omega) op d a b imm);have z:=Ya (Z2d H hbw (by omega) y);have u:=Ya (λ(ys:List S.Item) (W:World) (m:CAt base p h (xs++ys) lab W)=>m.cell_bh);clear H;obtain⟨ys,c⟩:=Yx (bBack h.fr h.r.behind);rw[<- c];unfold bBack at c;have f:=Ya c;clear c;obtain⟨C,j⟩:=Yx h.r.behind;rw[<- j] at u f;clear j;go_enter func230,ntmps230
 go_wp2_with fail
 refine z.out.mono ?_;rintro e B ⟨rfl,h1,s⟩;go_wp2_with fail
 refine(k.out [bPop h.fr] B (by simp) h1 s 24 31 28 0 0).mono ?_;rintro e n ⟨rfl,h2,k2⟩;rw[Yp] at h2;have g:=s.trans k2;have c3:=u.out _ _ h2
 cases C with
 | false =>
  go_wp2_with fail
  refine(k.out _ n (by simp) h2 g 33 0 31 0 0).mono ?_;rintro e o ⟨rfl,l,i⟩;go_wp2_with fail
  go_end0
  exact⟨rfl,by rw[f.out];simpa using l,g.trans i⟩
 | true =>
  go_wp2_with fail
  refine(k.out _ n (by simp) h2 g 24 25 31 0 0).mono ?_;rintro e o ⟨rfl,l,i⟩;rw[Yp] at l;go_wp2_with fail
  refine(k.out _ o (by simp) l (g.trans i) 1 31 31 25 0).mono ?_;rintro e D ⟨rfl,t,q⟩;rw[Yp] at t;go_wp2_with fail
  refine(k.out _ D (by simp) t ((g.trans i).trans q) 33 0 31 0 1).mono ?_;rintro e w6 ⟨rfl,x,v⟩;go_wp2_with fail
  go_end0
  exact⟨rfl,by rw[f.out];simpa using x,((g.trans i).trans q).trans v⟩
theorem Zlp (h3:3<=base)(n:LVE w)(E:0<=lab/\lab<=1000000000):Calls prog 279 #[.pointer (some ⟨p,0,none⟩)] w λ e w'=>e=.returned (.string (bLab (lab+1)))/\CAt base p h xs (lab+1) w'/\CK base w w':=by
 have C:=Ya (show bLab (lab+1)=⟨(46::S.itoa (lab+1)).toArray⟩ from rfl);have l:=Ya (Zlm (lab+1));have z:=Ya (λ W (n:LVE W)=>Zt1 (lab+1) ⟨by omega,by omega⟩ W n);generalize bLab (lab+1)=R at *;generalize S.itoa (lab+1)=I at *;have c7:=H.cell_lab;have J:=H.lt;obtain⟨b,v,a,B⟩:=H;have f7:w.frozen? ⟨p,7,none⟩=false:=Yao a 7;have A:=Zbh B a (by decide);have u:(w.setCell ⟨p,7,none⟩ (.int .i64 (lab+1))).heap[p]?=some (.cells (Zhj h v (lab+1)) 242):=by
  rw[setCell_eq_setRow _ _ _ _ _ _ _ a];exact setRow_heap _ _ _ _ _ _ a
 have d:Below base w (w.setCell ⟨p,7,none⟩ (.int .i64 (lab+1))):=(Yh _ _).setCell (p:=⟨p,7,none⟩) b _;have m:=B.kept (w':=w.setCell ⟨p,7,none⟩ (.int .i64 (lab+1))) (row:=some p) ⟨rfl,rfl,rfl,by simp[World.setCell],λ k _ a=>Ybm _ _ _ _ (λ e=>a (by simp[e]))⟩ (Or.inr A);have i:CAt base p h xs (lab+1) (w.setCell ⟨p,7,none⟩ (.int .i64 (lab+1))):=⟨b,v,u,m⟩
 have f:CK base w (w.setCell ⟨p,7,none⟩ (.int .i64 (lab+1))):=⟨d,λ k r T o q h1 h2=>by
  have x:k≠p:=by
   rintro rfl;rw[a] at q;simp only[Option.some.injEq,Obj.cells.injEq] at q;exact h2 q.2.1.symm
  rw[Ybm _ _ _ _ x];exact q⟩
 have y:=Ya i;have t:=Ya f;have D:=Ya (n.keep d h3);have g7:(w.setCell ⟨p,7,none⟩ (.int .i64 (lab+1))).cell? ⟨p,7,none⟩=some (.int .i64 (lab+1)):=by rw[Yc u];rfl
 have s:base<=(w.setCell ⟨p,7,none⟩ (.int .i64 (lab+1))).heap.size:=by have:=f.size;omega
 clear i f d m u a B n;go_enter func279,ntmps279
 go_upto_region 2 with fail
 generalize w.setCell ⟨p,7,none⟩ (.int .i64 (lab+1))=w2 at *;clear c7 f7;go_wp2_with fail
 refine(z.out w2 D.out).mono ?_;rintro e w3 ⟨rfl,c⟩;have G:=Ya (Z14 [46] I);have g:=Ya (y.out.keep c);have j:=Ya (t.out.trans (CK.of c s));have F:=l.out;clear D c;go_wp2_with fail
 go_ret
 exact⟨Z15 (by rw[C.out];exact G.out),g.out,j.out⟩
end
end
theorem Zdk (fr L:Int):∀k,(bStores fr L k).length=k
 | 0=>rfl
 | k+1=>by rw[bStores,Yd,Zdk fr L k];rfl
theorem Zgz (fr L:Int):∀k,(bLoads fr L k).length=k
 | 0=>rfl
 | k+1=>by rw[bLoads,Yd,Zgz fr L k];rfl
theorem Zeb (at_:Nat):∀k,(bArgs at_ k).length=k
 | 0=>rfl
 | k+1=>by rw[bArgs,Yd,Zeb at_ k];rfl
theorem Z4r {base p:Nat}{h:CH}{xs:List S.Item}{lab:Int}{w:World}(H:CAt base p h xs lab w)(hbw:base<=w.heap.size)(o:HOk h)(op n:Int)(nm:ByteArray)(A:Option Addr)(N c at_:Nat)(hN:N<=1000000)(a7:at_<=1000000)
 (hl:xs.length+(bCall h.fr h.r.locals nm N at_).length<=100000000) :
 Calls prog 283 #[.pointer (some ⟨p,0,none⟩),.agg #[.int .i64 op,.int .i64 n,.string nm,.slice A N c],.int .i64 (at_:Int)] w (Zh0 base p h xs (bCall h.fr h.r.locals nm N at_) lab w):=by
 have F:Below w.heap.size w (w.alloc (.cells #[.int .i64 op,.int .i64 n,.string nm,.slice A N c] 152)):=(Yh _ _).alloc (Yb _) _;have Q:=heap_alloc_new w (.cells #[.int .i64 op,.int .i64 n,.string nm,.slice A N c] 152);have a6:w.heap.size<(w.alloc (.cells #[.int .i64 op,.int .i64 n,.string nm,.slice A N c] 152)).heap.size:=by simp
 have B:=Ya (CK.of F hbw);have H2:=H.keep F;obtain⟨ys,b⟩:=Yx (bCall h.fr h.r.locals nm N at_);rw[<- b] at hl⊢;unfold bCall at b;have l:ys.length=at_+N+1+at_+1:=by
  rw[b];simp only[Yd,Zdk,Zgz,Zeb,Yj,Yab]
 rw[l] at hl;have Y:=Ya b;have a2:=o.l0;have a0:=o.l1;have HO:=Ya o;have g:=Ya (λ(D:List S.Item) (W:World) (X:CAt base p h D lab W) (k:Nat) (Z:k<=1000000)=>Z2c X o k Z);have O:=Ya (λ(D:List S.Item) (W:World) (X:CAt base p h D lab W) (hb:base<=W.heap.size) (hz:D.length<=100000000) (d z:Int) (t:-1000000000<=z/\z<=1000000000)=>Zug X hb hz o d z t);have G:=Ya (λ(D:List S.Item) (W:World) (X:CAt base p h D lab W) (hb:base<=W.heap.size) (hz:D.length<=100000000) (d z:Int) (t:-1000000000<=z/\z<=1000000000)=>Zuf X hb hz o d z t);obtain⟨L,hL⟩:=Yx h.r.locals;rw[<- hL] at a2 a0 Y g;have HL:=Ya hL;clear b H o hL l;go_enter func283,ntmps283
 go_upto_region 1 with fail
 have a4:=Ya Q;have a1:=Ya H2;clear F Q H2;generalize w.alloc (.cells #[.int .i64 op,.int .i64 n,.string nm,.slice A N c] 152)=w2 at *;go_wp2_with fail
 go_loopw [10] (λ E wr=>∃k:Nat,k<=at_/\E=.int .i64 k/\Hid (CAt base p h (xs++bStores h.fr L k) lab wr)/\Hid (CK base w2 wr)) (λ E _=>at_-(intOf E).toNat)
 case atStart=>exact⟨0,by omega,rfl,Ya (by simpa[bStores] using a1.out),Ya (CK.refl _ _)⟩
 case round =>
  obtain⟨k,Z,rfl,HC,J⟩:=hrel;obtain⟨wo,a3⟩:=Yx wr;subst a3;by_cases R:k<at_
  .have a:=Ya (g.out _ _ HC.out k (by omega))
   have u:=Ya (O.out _ _ HC.out (by have:=J.out.size;have:=B.out.size;omega) (by rw[Yd,Zdk];omega) (11+(k:Int)) (1+L+(k:Int)) (by omega));go_wp2_with fail
   refine a.out.mono ?_;rintro e w3 ⟨rfl,rfl⟩;go_wp2_with fail
   refine u.out.mono ?_;rintro e w4 ⟨rfl,h3,C⟩;go_wp2_with fail
   go_roundw
   case rel=>exact⟨k+1,by omega,by go_num,Ya (by rw[bStores,<- Yp];exact h3),Ya (J.out.trans C)⟩
   case measure=>simp[intOf];omega
  .have hkN:at_=k:=by omega
   subst hkN;have m:=Ya (J.out.keep w.heap.size _ _ _ a4.out (by decide) (by decide));have q3:wo.cell? ⟨w.heap.size,3,none⟩=some (.slice A N c):=by rw[Yc m.out];rfl
   go_wp2_with fail
   have f:=Ya (Zdk h.fr L at_);generalize bStores h.fr L at_=st at *;go_loopw [24] (λ y wr=>∃k:Nat,k<=N/\y=.int .i64 k/\Hid (CAt base p h (xs++st++bArgs at_ k) lab wr)/\Hid (CK base wo wr)) (λ y _=>N-(intOf y).toNat)
   case atStart=>exact⟨0,by omega,rfl,Ya (by simpa[bArgs] using HC.out),Ya (CK.refl _ _)⟩
   case round =>
    obtain⟨k,Z,rfl,U,i⟩:=hrel;obtain⟨T,P⟩:=Yx wr;subst P;have I:base<=T.heap.size:=by have:=i.out.size;have:=J.out.size;have:=B.out.size;omega
    by_cases R:k<N
    .have a:=Ya (Zni U.out I (by rw[Yd,Yd,Zeb,f.out];omega) (4+(k:Int)) (11+(at_:Int)+(k:Int)))
     go_wp2_with fail
     refine a.out.mono ?_;rintro e w4 ⟨rfl,h3,C⟩;go_wp2_with fail
     go_roundw
     case rel=>exact⟨k+1,by omega,by go_num,Ya (by rw[bArgs,<- Yp];exact h3),Ya (i.out.trans C)⟩
     case measure=>simp[intOf];omega
    .have hkN:N=k:=by omega
     subst hkN;have q:=Ya (i.out.keep w.heap.size _ _ _ m.out (by decide) (by decide));have q2:T.cell? ⟨w.heap.size,2,none⟩=some (.string nm):=by rw[Yc q.out];rfl
     have Hj:=Ya (Zq4 U.out I (by rw[Yd,Yd,Zeb,f.out];omega) 31 nm);go_wp2_with fail
     refine Hj.out.mono ?_;rintro e w5 ⟨rfl,h5,h6⟩;go_wp2_with fail
     have K:=Ya (Zeb at_ N);generalize bArgs at_ N=ar at *;go_loopw [41] (λ s wr=>∃k:Nat,k<=at_/\s=.int .i64 k/\Hid (CAt base p h (xs++st++ar++[bJ 31 nm]++bLoads h.fr L k) lab wr)/\Hid (CK base w5 wr)) (λ s _=>at_-(intOf s).toNat)
     case atStart=>exact⟨0,by omega,rfl,Ya (by simpa[bLoads] using h5),Ya (CK.refl _ _)⟩
     case round =>
      obtain⟨k,Z,rfl,v,x⟩:=hrel;obtain⟨a5,V⟩:=Yx wr;subst V;have M:base<=a5.heap.size:=by have:=x.out.size;have:=h6.size;omega
      have j:(xs++st++ar++[bJ 31 nm]++bLoads h.fr L k).length=xs.length+at_+N+1+k:=by simp only[Yd,K.out,f.out,Zgz,Yj,Yab]
      by_cases R:k<at_
      .have a:=Ya (g.out _ _ v.out k (by omega))
       have u:=Ya (G.out _ _ v.out M (by rw[j];omega) (11+(k:Int)) (1+L+(k:Int)) (by omega));clear j;go_wp2_with fail
       refine a.out.mono ?_;rintro e w3 ⟨rfl,rfl⟩;go_wp2_with fail
       refine u.out.mono ?_;rintro e w4 ⟨rfl,h3,C⟩;go_wp2_with fail
       go_roundw
       case rel=>exact⟨k+1,by omega,by go_num,Ya (by rw[bLoads,<- Yp];exact h3),Ya (x.out.trans C)⟩
       case measure=>simp[intOf];omega
      .have hkN:at_=k:=by omega
       subst hkN;have a:=Ya (Zni v.out M (by rw[j];omega) (11+(at_:Int)) 4);clear j;go_wp2_with fail
       refine a.out.mono ?_;rintro e w4 ⟨rfl,h3,C⟩;go_wp2_with fail
       go_end0
       refine⟨rfl,?_,B.out.trans (J.out.trans (i.out.trans (h6.trans (x.out.trans C))))⟩;rw[Y.out]
       simpa[Yp] using h3
