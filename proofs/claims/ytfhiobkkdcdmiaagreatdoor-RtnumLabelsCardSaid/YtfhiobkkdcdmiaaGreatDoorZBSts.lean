/- Parts. -/
import Derived.Test.YtfhiobkkdcdmiaaGreatDoorZBShp
set_option linter.all false
set_option maxHeartbeats 4000000
open Go.Lib renaming hid->Ya,cell_of_heap->Yc
open Nat renaming le_refl->Yb,le_trans->Y1,lt_of_lt_of_le->Y6
open Go.RowKit.Below renaming refl->Yh
namespace Go.Proofs.YtfhiobkkdcdmiaaGreatDoor
set_option maxRecDepth 100000
open Go.RowKit
theorem Ziz {L:Int}{d:Nat}:∀ {l:List S.BS} {k:Nat} {s:S.BS},S.chkSs L (l.take k) d=0->l[k]?=some s->S.chkS L s d≠0->S.chkSs L l d=S.chkS L s d
 | [],k,s,_,h,_=>by simp at h
 | x::r,0,s,_,h,h2=>by
  simp only [List.getElem?_cons_zero,Option.some.injEq] at h;subst h;rw [S.chkSs,if_pos h2]
 | x::r,k+1,s,h0,h,h2=>by
  rw [List.take_succ_cons,S.chkSs] at h0;have hx:S.chkS L x d=0:=by
   by_cases c:S.chkS L x d≠0
   ·rw [if_pos c] at h0;exact absurd h0 c
   ·simpa using c
  rw [if_neg (by simp [hx])] at h0;rw [S.chkSs,if_neg (by simp [hx])];exact Ziz h0 (by simpa using h) h2
theorem Zkr {L:Int}{d:Nat}{s:S.BS}:∀ {l:List S.BS},S.chkSs L l d=0->S.chkS L s d=0->S.chkSs L (l++[s]) d=0
 | [],_,h=>by rw [List.nil_append,S.chkSs,if_neg (by simp [h]),S.chkSs]
 | x::r,h0,h=>by
  rw [S.chkSs] at h0;have hx:S.chkS L x d=0:=by
   by_cases c:S.chkS L x d≠0
   ·rw [if_pos c] at h0;exact absurd h0 c
   ·simpa using c
  rw [if_neg (by simp [hx])] at h0;rw [List.cons_append,S.chkSs,if_neg (by simp [hx])];exact Zkr h0 h
theorem Zub (L:Int)(s:S.BS)(d:Nat):S.chkS L s d=if (!(S.shapedS L s.op s.n s.name s.exprs.length s.regs s.body.length s.els.length && S.formedEs L s.exprs))=true then 4
 else if 200<=d\/14<S.needEs s.exprs 0 then 5 else if S.chkSs L s.body (d+1)≠0 then S.chkSs L s.body (d+1) else S.chkSs L s.els (d+1):=by
 obtain ⟨op,n,name,exprs,regs,body,els⟩:=s;rw [S.chkS];rfl
theorem Zds:∀ l:List S.BS,l.length<=Zh4 l
 | []=>by simp
 | e::r=>by
  rw [Zh4,List.length_cons];have:=Zds r;have:=Zit e;omega
def Zg3 (L:Int)(l:List S.BS)(d:Nat)(w:World)(x:Ending)(w':World):Prop:=x=.returned (.int .i64 (S.chkSs L l d))/\Below w.heap.size w w'
def Sts (rn:ByteArray)(P L:Int)(bh:Bool)(Ab:Option Addr)(nb cb n:Nat):Prop:=∀ (l:List S.BS) (A:Option Addr) (c d:Nat) (w:World),Zh4 l<=n->d<=200->SList w w.heap.size A l ->
 Calls Tryz.prog 210 #[.agg #[.string rn,.int .i64 P,.int .i64 L,.bool bh,.slice Ab nb cb],.slice A l.length c,.int .i64 (d:Int)] w (Zg3 L l d w)
theorem Zx1 {rn:ByteArray}{P L:Int}{bh:Bool}{Ab:Option Addr}{nb cb n:Nat}(hF:Fmd rn P L bh Ab nb cb n)(g:Nat)(w:World)(hr:w.heap[g]?=some (.cells #[.string rn,.int .i64 P,.int .i64 L,.bool bh,.slice Ab nb cb] 178))(hg:g<w.heap.size)(l:List S.BE)(hl:∀ e∈l,szE e<=n) :
 Zxv w.heap.size 227 #[.pointer (some ⟨g,0,none⟩)] (fun e=>!S.formedE L e) l w:=by
 intro W e v hb he hv;have HF:=Ya hF;have hre:=(hb.block g hg).trans hr;have hgW:g<W.heap.size:=Y6 hg hb.size;have hle:=hl e he;obtain ⟨A,c,rfl,h1,h2,h3⟩:=hv;have hbX:Below W.heap.size W (W.alloc (.cells #[.int .i64 e.op,.int .i64 e.n,.string e.name,.slice A e.kids.length c] 111)):=(Yh _ _).alloc (Yb _) _;have hrX:=heap_alloc_new W (.cells #[.int .i64 e.op,.int .i64 e.n,.string e.name,.slice A e.kids.length c] 111);have hzX:W.heap.size<(W.alloc (.cells #[.int .i64 e.op,.int .i64 e.n,.string e.name,.slice A e.kids.length c] 111)).heap.size:=by simp
 have hcall:=hF e (.agg #[.int .i64 e.op,.int .i64 e.n,.string e.name,.slice A e.kids.length c]) (W.alloc (.cells #[.int .i64 e.op,.int .i64 e.n,.string e.name,.slice A e.kids.length c] 111)) hle ⟨A,c,rfl,h1,h2,(h3.below hbX).more hbX.size⟩;have hrY:=(hbX.block g hgW).trans hre;unfold Zpi at hcall
 show Calls Tryz.prog 227 #[.agg #[.int .i64 e.op,.int .i64 e.n,.string e.name,.slice A e.kids.length c],.pointer (some ⟨g,0,none⟩)] W fun x w'=>x=.returned (.bool (!S.formedE L e))/\Below W.heap.size W w'
 generalize S.formedE L e=R at *;generalize e.op=op at *;generalize e.n=en at *;generalize e.name=nm at *;generalize e.kids.length=kl at *;have Hcall:=Ya hcall;have HbX:=Ya hbX;clear hcall hF HF hle hl he h1 h2 h3 hb hr hre;go_enter Tryz.func227,Tryz.ntmps227
 go_upto_region 1 with fail
 generalize W.alloc (.cells #[.int .i64 op,.int .i64 en,.string nm,.slice A kl c] 111)=w2 at *;have c0:w2.cell? ⟨g,0,none⟩=some (.string rn):=by rw [Yc hrY];rfl
 have c1:w2.cell? ⟨g,1,none⟩=some (.int .i64 P):=by rw [Yc hrY];rfl
 have c2:w2.cell? ⟨g,2,none⟩=some (.int .i64 L):=by rw [Yc hrY];rfl
 have c3:w2.cell? ⟨g,3,none⟩=some (.bool bh):=by rw [Yc hrY];rfl
 have c4:w2.cell? ⟨g,4,none⟩=some (.slice Ab nb cb):=by rw [Yc hrY];rfl
 have e0:w2.cell? ⟨W.heap.size,0,none⟩=some (.int .i64 op):=by rw [Yc hrX];rfl
 have e1:w2.cell? ⟨W.heap.size,1,none⟩=some (.int .i64 en):=by rw [Yc hrX];rfl
 have e2:w2.cell? ⟨W.heap.size,2,none⟩=some (.string nm):=by rw [Yc hrX];rfl
 have e3:w2.cell? ⟨W.heap.size,3,none⟩=some (.slice A kl c):=by rw [Yc hrX];rfl
 clear hrX hrY;go_wp2_with fail
 refine Hcall.out.mono ?_;rintro x w3 ⟨rfl,hb3⟩;go_wp2_with fail
 go_ret
 exact ⟨rfl,HbX.out.trans (hb3.mono HbX.out.size)⟩
structure Z67 (rn:ByteArray)(P L:Int)(bh:Bool)(Ab:Option Addr)(nb cb n:Nat)(s:S.BS)(d:Nat)(A1 A2 A3 A4:Option Addr)(c1 c2 c3 c4 g:Nat)(wr:World):Prop where
 shaped:∀ W,Below wr.heap.size wr W->Calls Tryz.prog 225 #[.agg #[.string rn,.int .i64 P,.int .i64 L,.bool bh,.slice Ab nb cb],.agg #[.int .i64 s.op,.int .i64 s.n,.string s.name,.slice A1 s.exprs.length c1,.slice A2 s.regs.length c2,.slice A3 s.body.length c3,.slice A4 s.els.length c4]] W
  fun x w'=>x=.returned (.bool (S.shapedS L s.op s.n s.name s.exprs.length s.regs s.body.length s.els.length))/\Below W.heap.size W w'
 formed:∀ W,Below wr.heap.size wr W->Calls Tryz.prog 226 #[.slice A1 s.exprs.length c1,.func (.func 227) #[] #[.pointer (some ⟨g,0,none⟩)]] W fun x w'=>x=.returned (.bool (!S.formedEs L s.exprs))/\Below W.heap.size W w'
 need:∀ W,Below wr.heap.size wr W->Calls Tryz.prog 229 #[.slice A1 s.exprs.length c1] W fun x w'=>x=.returned (.int .i64 (S.needEs s.exprs 0:Nat))/\Below W.heap.size W w'
 body:d<200->∀ W,Below wr.heap.size wr W->Calls Tryz.prog 210 #[.agg #[.string rn,.int .i64 P,.int .i64 L,.bool bh,.slice Ab nb cb],.slice A3 s.body.length c3,.int .i64 ((d:Int)+1)] W (Zg3 L s.body (d+1) W)
 els:d<200->∀ W,Below wr.heap.size wr W->Calls Tryz.prog 210 #[.agg #[.string rn,.int .i64 P,.int .i64 L,.bool bh,.slice Ab nb cb],.slice A4 s.els.length c4,.int .i64 ((d:Int)+1)] W (Zg3 L s.els (d+1) W)
theorem Z68 {rn:ByteArray}{P L:Int}{bh:Bool}{Ab:Option Addr}{nb cb n:Nat}(ih:Sts rn P L bh Ab nb cb n)(hn:n<1000000000){s:S.BS}{d:Nat}{A1 A2 A3 A4:Option Addr}{c1 c2 c3 c4 g:Nat}{wr:World}(hs:szS s<=n+1)
 (hr:wr.heap[g]?=some (.cells #[.string rn,.int .i64 P,.int .i64 L,.bool bh,.slice Ab nb cb] 178)) (hg:g<wr.heap.size) (hp:SPart wr wr.heap.size s A1 A2 A3 A4):Z67 rn P L bh Ab nb cb n s d A1 A2 A3 A4 c1 c2 c3 c4 g wr:=by
 have hz:=Zit s;have hle:=Zew s.exprs;refine ⟨fun W hb=>?_,fun W hb=>?_,fun W hb=>?_,fun hd W hb=>?_,fun hd W hb=>?_⟩
 ·have hpW:=(hp.below hb).more hb.size
  exact Zxx rn P L bh Ab nb cb s.op s.n s.name s.exprs.length s.body.length s.els.length s.regs A1 A2 A3 A4 c1 c2 c3 c4 W hp.name hpW.regs hp.l2
 ·have hpW:=(hp.below hb).more hb.size
  have hpr:=Zx1 (Zxw rn P L bh Ab nb cb n (by omega)) g W ((hb.block g hg).trans hr) (Y6 hg hb.size) s.exprs (fun e he=>by have:=Zlj he;omega);refine (Zfd W.heap.size _ _ (fun k=>!S.formedE L k) Zlm W (Yb _) A1 s.exprs c1 hpr hpW.exprs (by omega)).mono ?_;rintro x w' ⟨rfl,hb'⟩;exact ⟨by rw [Zeh];simp,hb'⟩
 ·have hpW:=(hp.below hb).more hb.size
  exact Z3f (Ze8 s.exprs) A1 c1 s.exprs W (Yb _) (by omega) hpW.exprs
 ·have hpW:=(hp.below hb).more hb.size
  have:=ih s.body A3 c3 (d+1) W (by omega) (by omega) hpW.body;exact this
 ·have hpW:=(hp.below hb).more hb.size
  have:=ih s.els A4 c4 (d+1) W (by omega) (by omega) hpW.els;exact this
theorem Z08 (rn:ByteArray)(P L:Int)(bh:Bool)(Ab:Option Addr)(nb cb:Nat):∀ n,n<=1000000000->Sts rn P L bh Ab nb cb n:=by
 intro n
 induction n with
 | zero =>
  intro _ l A c d w hs hd hA;have hl:l=[]:=by
   cases l with
   | nil=>rfl
   | cons e r=>rw [Zh4] at hs;have:=Zit e;omega
  subst hl;have hbX:Below w.heap.size w (w.alloc (.cells #[.string rn,.int .i64 P,.int .i64 L,.bool bh,.slice Ab nb cb] 178)):=(Yh _ _).alloc (Yb _) _;have HbX:=Ya hbX;clear hbX;go_enter Tryz.func210,Tryz.ntmps210
  go_upto_region 1 with fail
  generalize w.alloc (.cells #[.string rn,.int .i64 P,.int .i64 L,.bool bh,.slice Ab nb cb] 178)=w2 at *;go_wp2_with fail
  go_loopw [14] (fun v14 wr=>v14=.int .i64 0/\w2=wr) (fun _ _=>0)
  case atStart=>exact ⟨rfl,rfl⟩
  case round =>
   obtain ⟨rfl,rfl⟩:=hrel;go_wp2_with fail
   go_ret
   exact ⟨rfl,HbX.out⟩
 | succ n ih =>
  intro hn l A c d w hs hd hA;have hlen:=Zds l;obtain ⟨N,hN⟩:=Yx l.length;rw [<- hN] at hlen ⊢;have HN:=Ya hN;have HA:=Ya hA;have Hih:=Ya (ih (by omega));have hN9:N<=1000000000:=by omega
  have Hs:=Ya hs;have hbX:Below w.heap.size w (w.alloc (.cells #[.string rn,.int .i64 P,.int .i64 L,.bool bh,.slice Ab nb cb] 178)):=(Yh _ _).alloc (Yb _) _;have hrX:=heap_alloc_new w (.cells #[.string rn,.int .i64 P,.int .i64 L,.bool bh,.slice Ab nb cb] 178);have hzX:w.heap.size<(w.alloc (.cells #[.string rn,.int .i64 P,.int .i64 L,.bool bh,.slice Ab nb cb] 178)).heap.size:=by simp
  unfold Zg3;clear hN hA ih hs;go_enter Tryz.func210,Tryz.ntmps210
  go_upto_region 1 with fail
  generalize w.alloc (.cells #[.string rn,.int .i64 P,.int .i64 L,.bool bh,.slice Ab nb cb] 178)=w2 at *;have HbX:=Ya hbX;have HrX:=Ya hrX;clear hbX hrX;go_wp2_with fail
  go_loopw [14] (fun v14 wr=>∃ k:Nat,k<=N/\v14=.int .i64 k/\Hid (S.chkSs L (l.take k) d=0)/\Hid (Below w2.heap.size w2 wr)) (fun v14 _=>N-(intOf v14).toNat)
  case atStart=>exact ⟨0,by omega,rfl,Ya (by rw [List.take_zero,S.chkSs]),Ya (Yh _ _)⟩
  case round =>
   obtain ⟨k,hk,rfl,HC,HB⟩:=hrel;obtain ⟨wo,hwo⟩:=Yx wr;subst hwo;by_cases hlt:k<N
   ·obtain ⟨s,hs⟩:∃ s,l[k]?=some s:=⟨_,List.getElem?_eq_getElem (by rw [<- HN.out];exact hlt)⟩
    have hbr0:=HbX.out.trans (HB.out.mono HbX.out.size);obtain ⟨b,off,A1,c1,A2,c2,A3,c3,A4,c4,rfl,hbB,q0,q1,q2,q3,q4,q5,q6,hpt⟩:=(HA.out.below hbr0).at_ hs;have hzr:=HB.out.size;have hbr:b<wo.heap.size:=by have:=HbX.out.size;omega
    have hgr:w.heap.size<wo.heap.size:=by omega
    have hsz:=Zpc (List.mem_of_getElem? hs);have hO:=Z68 (d:=d) (c1:=c1) (c2:=c2) (c3:=c3) (c4:=c4) (g:=w.heap.size) Hih.out (by omega) (by have:=Hs.out;omega) ((HB.out.block _ hzX).trans HrX.out) hgr (hpt.more (by have:=hbr0.size;omega));have Hsnoc:=Ya (fun h:S.chkS L s d=0=>(show S.chkSs L (l.take (k+1)) d=0 from by rw [Zdq l hs];exact Zkr HC.out h));have Hfirst:=Ya (fun h:S.chkS L s d≠0=>Ziz HC.out hs h);have heq:=Zub L s d;obtain ⟨o1,o2,o3,o4,o5⟩:=hO;unfold Zg3 at o4 o5;generalize S.shapedS L s.op s.n s.name s.exprs.length s.regs s.body.length s.els.length=σ at *;generalize S.formedEs L s.exprs=φ at *;generalize S.needEs s.exprs 0=ν at *;generalize S.chkSs L s.body (d+1)=β at *;generalize S.chkSs L s.els (d+1)=ε at *;generalize s.op=op at *;generalize s.n=n' at *;generalize s.name=nm at *;generalize s.exprs.length=N1 at *;generalize s.regs.length=N2 at *;generalize s.body.length=N3 at *;generalize s.els.length=N4 at *;generalize S.chkS L s d=χ at *;have Heq:=Ya heq;have H1:=Ya o1;have H2:=Ya o2;have H3:=Ya o3;have H4:=Ya o4;have H5:=Ya o5;clear heq o1 o2 o3 o4 o5 hs hpt hsz hbr0 HC;have hbY:Below wo.heap.size wo (wo.alloc (.cells #[.int .i64 op,.int .i64 n',.string nm,.slice A1 N1 c1,.slice A2 N2 c2,.slice A3 N3 c3,.slice A4 N4 c4] 115)):=(Yh _ _).alloc (Yb _) _;have hrY:=heap_alloc_new wo (.cells #[.int .i64 op,.int .i64 n',.string nm,.slice A1 N1 c1,.slice A2 N2 c2,.slice A3 N3 c3,.slice A4 N4 c4] 115);have hzY:wo.heap.size<(wo.alloc (.cells #[.int .i64 op,.int .i64 n',.string nm,.slice A1 N1 c1,.slice A2 N2 c2,.slice A3 N3 c3,.slice A4 N4 c4] 115)).heap.size:=by simp
    go_upto_region 4 with fail
    generalize wo.alloc (.cells #[.int .i64 op,.int .i64 n',.string nm,.slice A1 N1 c1,.slice A2 N2 c2,.slice A3 N3 c3,.slice A4 N4 c4] 115)=wx at *;have Hc:=Ya (fun (W:World) (hb:Below wx.heap.size wx W)=>(show (W.cell? ⟨w.heap.size,0,none⟩=some (.string rn)/\W.cell? ⟨w.heap.size,1,none⟩=some (.int .i64 P)/\W.cell? ⟨w.heap.size,2,none⟩=some (.int .i64 L)/\W.cell? ⟨w.heap.size,3,none⟩=some (.bool bh)/\W.cell? ⟨w.heap.size,4,none⟩=some (.slice Ab nb cb)) /\
     W.cell? ⟨wo.heap.size,0,none⟩=some (.int .i64 op)/\W.cell? ⟨wo.heap.size,1,none⟩=some (.int .i64 n')/\W.cell? ⟨wo.heap.size,2,none⟩=some (.string nm)/\W.cell? ⟨wo.heap.size,3,none⟩=some (.slice A1 N1 c1)/\W.cell? ⟨wo.heap.size,4,none⟩=some (.slice A2 N2 c2)/\W.cell? ⟨wo.heap.size,5,none⟩=some (.slice A3 N3 c3)/\W.cell? ⟨wo.heap.size,6,none⟩=some (.slice A4 N4 c4) from by
     have e1:W.heap[w.heap.size]?=some (.cells #[.string rn,.int .i64 P,.int .i64 L,.bool bh,.slice Ab nb cb] 178):=(hb.block _ (by omega)).trans ((hbY.block _ hgr).trans ((HB.out.block _ hzX).trans HrX.out));have e2:W.heap[wo.heap.size]?=some (.cells #[.int .i64 op,.int .i64 n',.string nm,.slice A1 N1 c1,.slice A2 N2 c2,.slice A3 N3 c3,.slice A4 N4 c4] 115):=(hb.block _ hzY).trans hrY;refine ⟨⟨?_,?_,?_,?_,?_⟩,?_,?_,?_,?_,?_,?_,?_⟩
     all_goals first | (rw [Yc e1];rfl) | (rw [Yc e2];rfl)))
    have HbY:=Ya hbY;have hgx:w.heap.size<wx.heap.size:=by omega
    clear hbY hrY q0 q1 q2 q3 q4 q5 q6;obtain ⟨⟨r0,r1,r2,r3,r4⟩,s0,s1,s2,s3,s4,s5,s6⟩:=Hc.out wx (Yh _ _);go_wp2_with fail
    refine (H1.out wx HbY.out).mono ?_;rintro e4 w4 ⟨rfl,hb4⟩;have hz4:=hb4.size;have Hb4:=Ya hb4;clear r0 r1 r2 r3 r4 s0 s1 s2 s3 s4 s5 s6 hb4;obtain ⟨⟨r0,r1,r2,r3,r4⟩,s0,s1,s2,s3,s4,s5,s6⟩:=Hc.out w4 Hb4.out
    cases σ with
    | false =>
     have Hf:=Ya (show S.chkSs L l d=4 from by
      have hχ:χ=4:=by rw [Heq.out];simp
      rw [Hfirst.out (by rw [hχ];decide),hχ])
     go_wp2_with fail
     go_ret
     exact ⟨Z3 Hf.out.symm,HbX.out.trans ((HB.out.trans (HbY.out.mono hzr)).trans (Hb4.out.mono (Y1 hzr HbY.out.size)) |>.mono HbX.out.size)⟩
    | true =>
     have Hb4':=Ya (HbY.out.trans (Hb4.out.mono HbY.out.size));go_wp2_with fail
     refine (H2.out w4 Hb4'.out).mono ?_;rintro e5 w5 ⟨rfl,hb5⟩;have Hb5:=Ya (Hb4.out.trans (hb5.mono Hb4.out.size));have hz5:=hb5.size;clear r0 r1 r2 r3 r4 s0 s1 s2 s3 s4 s5 s6 hb5;obtain ⟨⟨r0,r1,r2,r3,r4⟩,s0,s1,s2,s3,s4,s5,s6⟩:=Hc.out w5 Hb5.out;have Hbl:=Ya (fun (W:World) (hb:Below wx.heap.size wx W)=>(show Below w.heap.size w W from HbX.out.trans ((HB.out.trans (HbY.out.mono hzr)).trans (hb.mono (Y1 hzr HbY.out.size)) |>.mono HbX.out.size)))
     cases φ with
     | false =>
      have Hf:=Ya (show S.chkSs L l d=4 from by
       have hχ:χ=4:=by rw [Heq.out];simp
       rw [Hfirst.out (by rw [hχ];decide),hχ])
      go_wp2_with fail
      go_ret
      exact ⟨Z3 Hf.out.symm,Hbl.out _ Hb5.out⟩
     | true =>
      have Hχ:=Ya (show χ=if 200<=d\/14<ν then 5 else if β≠0 then β else ε from by rw [Heq.out];simp);by_cases hd2:200<=d
      ·have Hf:=Ya (show S.chkSs L l d=5 from by
        have hχ:χ=5:=by rw [Hχ.out,if_pos (.inl hd2)]
        rw [Hfirst.out (by rw [hχ];decide),hχ])
       go_wp2_with fail
       go_ret
       exact ⟨Z3 Hf.out.symm,Hbl.out _ Hb5.out⟩
      ·have Hb5':=Ya (HbY.out.trans (Hb5.out.mono HbY.out.size))
       have hd3:d<200:=by omega
       go_wp2_with fail
       refine (H3.out w5 Hb5'.out).mono ?_;rintro e6 w6 ⟨rfl,hb6⟩;have Hb6:=Ya (Hb5.out.trans (hb6.mono Hb5.out.size));have hz6:=hb6.size;clear r0 r1 r2 r3 r4 s0 s1 s2 s3 s4 s5 s6 hb6;obtain ⟨⟨r0,r1,r2,r3,r4⟩,s0,s1,s2,s3,s4,s5,s6⟩:=Hc.out w6 Hb6.out;by_cases hν:14<ν
       ·have Hf:=Ya (show S.chkSs L l d=5 from by
         have hχ:χ=5:=by rw [Hχ.out,if_pos (.inr hν)]
         rw [Hfirst.out (by rw [hχ];decide),hχ])
        have hν2:(14:Int)<(ν:Int):=by omega
        go_wp2_with fail
        go_ret
        exact ⟨Z3 Hf.out.symm,Hbl.out _ Hb6.out⟩
       ·have Hχ2:=Ya (show χ=if β≠0 then β else ε from by rw [Hχ.out,if_neg (by omega)])
        have hν2:¬ (14:Int)<(ν:Int):=by omega
        have hd200:(d:Int)<200:=by omega
        clear Hχ Heq;have hbZ:Below w6.heap.size w6 (w6.alloc (.cells #[.slice A3 N3 c3,.slice A4 N4 c4] 113)):=(Yh _ _).alloc (Yb _) _;have hrZ:=heap_alloc_new w6 (.cells #[.slice A3 N3 c3,.slice A4 N4 c4] 113);have hzZ:w6.heap.size<(w6.alloc (.cells #[.slice A3 N3 c3,.slice A4 N4 c4] 113)).heap.size:=by simp
        go_wp2_with fail
        generalize w6.alloc (.cells #[.slice A3 N3 c3,.slice A4 N4 c4] 113)=w7 at *;have Hb7:=Ya (Hb6.out.trans (hbZ.mono Hb6.out.size));have Hcz:=Ya (fun (W:World) (hb:Below w7.heap.size w7 W)=>(show W.cell? ⟨w6.heap.size,0,none⟩=some (.slice A3 N3 c3)/\W.cell? ⟨w6.heap.size,1,none⟩=some (.slice A4 N4 c4) from by
         have e1:W.heap[w6.heap.size]?=some (.cells #[.slice A3 N3 c3,.slice A4 N4 c4] 113):=(hb.block _ hzZ).trans hrZ
         constructor
         all_goals (rw [Yc e1];rfl)))
        have hz7:=Hb7.out.size;have Hlc:=Ya (fun (W:World) (hb:Below w7.heap.size w7 W)=>(show Below wo.heap.size wo W from HbY.out.trans ((Hb7.out.trans (hb.mono Hb7.out.size)).mono HbY.out.size)));clear hbZ hrZ r0 r1 r2 r3 r4 s0 s1 s2 s3 s4 s5 s6;go_loopw [42,10,11] (fun v42 _ _ wl=>∃ j:Nat,j<=2/\v42=.int .i64 j/\Hid (1<=j->β=0)/\Hid (2<=j->ε=0)/\Hid (Below w7.heap.size w7 wl)) (fun v42 _ _ _=>2-(intOf v42).toNat)
        case atStart=>exact ⟨0,by omega,rfl,Ya (fun h=>by omega),Ya (fun h=>by omega),Ya (Yh _ _)⟩
        case round =>
         obtain ⟨j,hj,rfl,HJ1,HJ2,HBl⟩:=hrel;obtain ⟨⟨r0,r1,r2,r3,r4⟩,s0,s1,s2,s3,s4,s5,s6⟩:=Hc.out wr (Hb7.out.trans (HBl.out.mono Hb7.out.size));obtain ⟨z0,z1⟩:=Hcz.out wr HBl.out;have hzl:=HBl.out.size;have hg6:w6.heap.size<wr.heap.size:=by omega
         rcases (show j=0\/j=1\/j=2 by omega) with rfl | rfl | rfl
         ·go_wp2_with fail
          refine (H4.out hd3 _ (Hlc.out wr HBl.out)).mono ?_;rintro e8 w8 ⟨rfl,hb8⟩;have Hb8:=Ya (HBl.out.trans (hb8.mono HBl.out.size));by_cases hβ:β=0
          ·have hb0:(β != 0)=false:=by simp [hβ]
           have Hβ:=Ya hβ;clear hβ;go_wp2_with fail
           go_roundw
           case rel=>exact ⟨1,by omega,by first | rfl | go_num,Ya (fun _=>Hβ.out),Ya (fun h=>by omega),Hb8⟩
           case measure=>simp [intOf]
          ·have hb0:(β != 0)=true:=by simp [hβ]
           have Hf:=Ya (show S.chkSs L l d=β from by
            have hχ:χ=β:=by rw [Hχ2.out,if_pos hβ]
            rw [Hfirst.out (by rw [hχ];exact hβ),hχ])
           clear hβ;go_wp2_with fail
           go_ret
           exact ⟨Z3 Hf.out.symm,Hbl.out _ (Hb7.out.trans (Hb8.out.mono Hb7.out.size))⟩
         ·go_wp2_with fail
          refine (H5.out hd3 _ (Hlc.out wr HBl.out)).mono ?_;rintro e8 w8 ⟨rfl,hb8⟩;have Hb8:=Ya (HBl.out.trans (hb8.mono HBl.out.size));have hβ:=HJ1.out (by omega);have Hχ3:=Ya (show χ=ε from by rw [Hχ2.out,if_neg (by simp [hβ])]);have Hβ:=Ya hβ;clear hβ;by_cases hε:ε=0
          ·have hb0:(ε != 0)=false:=by simp [hε]
           have Hε:=Ya hε;clear hε;go_wp2_with fail
           go_roundw
           case rel=>exact ⟨2,by omega,by first | rfl | go_num,Ya (fun _=>Hβ.out),Ya (fun _=>Hε.out),Hb8⟩
           case measure=>simp [intOf]
          ·have hb0:(ε != 0)=true:=by simp [hε]
           have Hf:=Ya (show S.chkSs L l d=ε from by
            rw [Hfirst.out (by rw [Hχ3.out];exact hε),Hχ3.out])
           clear hε;go_wp2_with fail
           go_ret
           exact ⟨Z3 Hf.out.symm,Hbl.out _ (Hb7.out.trans (Hb8.out.mono Hb7.out.size))⟩
         ·have Hz:=Ya (Hsnoc.out (show χ=0 from by rw [Hχ2.out,if_neg (by simp [HJ1.out (by omega)]),HJ2.out (by omega)]))
          go_wp2_with fail
          go_roundw
          case rel=>exact ⟨k+1,by omega,by go_num,Hz,Ya (HB.out.trans ((HbY.out.trans ((Hb7.out.trans (HBl.out.mono Hb7.out.size)).mono HbY.out.size)).mono HB.out.size))⟩
          case measure=>simp [intOf];omega
   ·have hkN:k=N:=by omega
    subst hkN;have Hf:=Ya (show S.chkSs L l d=0 from by have:=HC.out;rw [HN.out,List.take_length] at this;exact this);go_wp2_with fail
    go_ret
    exact ⟨Z3 Hf.out.symm,HbX.out.trans (HB.out.mono HbX.out.size)⟩
theorem Zi0 {r:S.BR}(h:S.chkB r=0):S.labB r.name=true/\0<=r.params/\r.params<=4/\r.params<=r.locals/\r.locals<=200/\S.chkSs r.locals r.body 0=0:=by
 unfold S.chkB at h
 split at h
 ·omega
 ·rename_i hc
  simp only [Bool.not_eq_true,Bool.or_eq_false_iff,Bool.not_eq_false',decide_eq_false_iff_not] at hc;obtain ⟨⟨⟨⟨h1,h2⟩,h3⟩,h4⟩,h5⟩:=hc;exact ⟨h1,by omega,by omega,by omega,by omega,h⟩
def Zxd (r:S.BR)(A:Option Addr)(c:Nat):Value:=.agg #[.string r.name,.int .i64 r.params,.int .i64 r.locals,.bool r.behind,.slice A r.body.length c]
structure RAt2 (w:World)(B:Nat)(r:S.BR)(A:Option Addr):Prop where
 name:r.name.size<=maxLen
 body:SList w B A r.body
 size:Zh4 r.body<=1000000000
theorem RAt2.below {w w':World}{B:Nat}{r:S.BR}{A:Option Addr}(h:RAt2 w B r A)(hb:Below B w w'):RAt2 w' B r A:=⟨h.name,h.body.below hb,h.size⟩
theorem RAt2.more {w:World}{B B':Nat}{r:S.BR}{A:Option Addr}(h:RAt2 w B r A)(hB:B<=B'):RAt2 w B' r A:=⟨h.name,h.body.more hB,h.size⟩
theorem Zpm (r:S.BR)(A:Option Addr)(c:Nat)(w:World)(h:RAt2 w w.heap.size r A):Calls Tryz.prog 184 #[Zxd r A c] w fun x w'=>x=.returned (.int .i64 (S.chkB r))/\Below w.heap.size w w':=by
 obtain ⟨nm,P,L,bh,body⟩:=r;obtain ⟨h1,h2,h3⟩:=h;unfold Zxd;simp only at h1 h2 h3 ⊢;have hz0:=Zds body;have Hst:=Ya (fun (W:World) (hb:Below w.heap.size w W)=>Z08 nm P L bh A body.length c (Zh4 body) h3 body A c 0 W (Yb _) (by omega) ((h2.below hb).more hb.size));have hck:S.chkB ⟨nm,P,L,bh,body⟩=if !S.labB nm || decide (P<0) || decide (4<P) || decide (L<P) || decide (200<L) then 2 else S.chkSs L body 0:=rfl
 have Hlab:=Ya (fun W=>Zpf nm W h1);obtain ⟨res,hres⟩:=Yx (S.chkB ⟨nm,P,L,bh,body⟩);rw [<- hres] at hck ⊢;have Hck:=Ya hck;unfold Zg3 at Hst;generalize S.labB nm=B at *;generalize S.chkSs L body 0=κ at *;generalize body.length=N at *;clear h1 h2 h3 hz0 hres hck;have hbX:Below w.heap.size w (w.alloc (.cells #[.string nm,.int .i64 P,.int .i64 L,.bool bh,.slice A N c] 178)):=(Yh _ _).alloc (Yb _) _;have hrX:=heap_alloc_new w (.cells #[.string nm,.int .i64 P,.int .i64 L,.bool bh,.slice A N c] 178);have hzX:w.heap.size<(w.alloc (.cells #[.string nm,.int .i64 P,.int .i64 L,.bool bh,.slice A N c] 178)).heap.size:=by simp
 go_enter Tryz.func184,Tryz.ntmps184
 go_upto_region 1 with fail
 generalize w.alloc (.cells #[.string nm,.int .i64 P,.int .i64 L,.bool bh,.slice A N c] 178)=w2 at *;have HbX:=Ya hbX;have c0:w2.cell? ⟨w.heap.size,0,none⟩=some (.string nm):=by rw [Yc hrX];rfl
 have c1:w2.cell? ⟨w.heap.size,1,none⟩=some (.int .i64 P):=by rw [Yc hrX];rfl
 have c2:w2.cell? ⟨w.heap.size,2,none⟩=some (.int .i64 L):=by rw [Yc hrX];rfl
 have c3:w2.cell? ⟨w.heap.size,3,none⟩=some (.bool bh):=by rw [Yc hrX];rfl
 have c4:w2.cell? ⟨w.heap.size,4,none⟩=some (.slice A N c):=by rw [Yc hrX];rfl
 clear hbX hrX
 cases B with
 | false =>
  have Hf:=Ya (show res=2 from by rw [Hck.out];simp);go_wp2_with fail
  refine (Hlab.out w2).mono ?_;rintro e4 w4 ⟨rfl,rfl⟩;go_wp2_with fail
  go_ret
  exact ⟨Z3 Hf.out.symm,HbX.out⟩
 | true =>
  by_cases p0:P<0
  ·have Hf:=Ya (show res=2 from by rw [Hck.out,decide_eq_true p0];simp)
   go_wp2_with fail
   refine (Hlab.out w2).mono ?_;rintro e4 w4 ⟨rfl,rfl⟩;go_wp2_with fail
   go_ret
   exact ⟨Z3 Hf.out.symm,HbX.out⟩
  by_cases p4:4<P
  ·have Hf:=Ya (show res=2 from by rw [Hck.out,decide_eq_true p4];simp)
   go_wp2_with fail
   refine (Hlab.out w2).mono ?_;rintro e4 w4 ⟨rfl,rfl⟩;go_wp2_with fail
   go_ret
   exact ⟨Z3 Hf.out.symm,HbX.out⟩
  by_cases pL:L<P
  ·have Hf:=Ya (show res=2 from by rw [Hck.out,decide_eq_true pL];simp)
   go_wp2_with fail
   refine (Hlab.out w2).mono ?_;rintro e4 w4 ⟨rfl,rfl⟩;go_wp2_with fail
   go_ret
   exact ⟨Z3 Hf.out.symm,HbX.out⟩
  by_cases pM:200<L
  ·have Hf:=Ya (show res=2 from by rw [Hck.out,decide_eq_true pM];simp)
   go_wp2_with fail
   refine (Hlab.out w2).mono ?_;rintro e4 w4 ⟨rfl,rfl⟩;go_wp2_with fail
   go_ret
   exact ⟨Z3 Hf.out.symm,HbX.out⟩
  have Hf:=Ya (show res=κ from by rw [Hck.out,decide_eq_false p0,decide_eq_false p4,decide_eq_false pL,decide_eq_false pM];simp);go_wp2_with fail
  refine (Hlab.out w2).mono ?_;rintro e4 w4 ⟨rfl,rfl⟩;go_wp2_with fail
  refine (Hst.out w2 HbX.out).mono ?_;rintro e5 w5 ⟨rfl,hb5⟩;go_wp2_with fail
  go_ret
  exact ⟨Z3 Hf.out.symm,HbX.out.trans (hb5.mono HbX.out.size)⟩
theorem Z09 (r:S.BR)(A:Option Addr)(c:Nat)(w:World)(h:RAt2 w w.heap.size r A):Calls Tryz.prog 185 #[Zxd r A c] w fun x w'=>x=.returned (.int .i64 (S.frameB r))/\Below w.heap.size w w':=by
 have Hc:=Ya (fun (W:World) (hb:Below w.heap.size w W)=>Zpm r A c W ((h.below hb).more hb.size));have hL:S.chkB r=0->-1000000<=r.locals/\r.locals<=200:=fun h0=>by obtain ⟨_,h1,_,h2,h3,_⟩:=Zi0 h0;omega
 obtain ⟨nm,P,L,bh,body⟩:=r;have hfr:S.frameB ⟨nm,P,L,bh,body⟩=if S.chkB ⟨nm,P,L,bh,body⟩≠0 then 0 else L+15:=rfl
 unfold Zxd at Hc ⊢;simp only at Hc hL ⊢;generalize S.frameB ⟨nm,P,L,bh,body⟩=res at *;generalize S.chkB ⟨nm,P,L,bh,body⟩=κ at *;generalize body.length=N at *;have Hfr:=Ya hfr;clear hfr h;have hbX:Below w.heap.size w (w.alloc (.cells #[.string nm,.int .i64 P,.int .i64 L,.bool bh,.slice A N c] 178)):=(Yh _ _).alloc (Yb _) _;have hrX:=heap_alloc_new w (.cells #[.string nm,.int .i64 P,.int .i64 L,.bool bh,.slice A N c] 178);have hzX:w.heap.size<(w.alloc (.cells #[.string nm,.int .i64 P,.int .i64 L,.bool bh,.slice A N c] 178)).heap.size:=by simp
 go_enter Tryz.func185,Tryz.ntmps185
 go_upto_region 1 with fail
 generalize w.alloc (.cells #[.string nm,.int .i64 P,.int .i64 L,.bool bh,.slice A N c] 178)=w2 at *;have HbX:=Ya hbX;have c0:w2.cell? ⟨w.heap.size,0,none⟩=some (.string nm):=by rw [Yc hrX];rfl
 have c1:w2.cell? ⟨w.heap.size,1,none⟩=some (.int .i64 P):=by rw [Yc hrX];rfl
 have c2:w2.cell? ⟨w.heap.size,2,none⟩=some (.int .i64 L):=by rw [Yc hrX];rfl
 have c3:w2.cell? ⟨w.heap.size,3,none⟩=some (.bool bh):=by rw [Yc hrX];rfl
 have c4:w2.cell? ⟨w.heap.size,4,none⟩=some (.slice A N c):=by rw [Yc hrX];rfl
 go_wp2_with fail
 refine (Hc.out w2 HbX.out).mono ?_;rintro e4 w4 ⟨rfl,hb4⟩;have c2':w4.cell? ⟨w.heap.size,2,none⟩=some (.int .i64 L):=(hb4.cell (p:=⟨w.heap.size,2,none⟩) hzX).trans c2;have Z4:=Ya (HbX.out.trans (hb4.mono HbX.out.size));have hz4:=hb4.size;clear c0 c1 c2 c3 c4 hbX hrX hb4;by_cases h0:κ=0
 ·obtain ⟨l0,l1⟩:=hL h0
  have hne:(κ != 0)=false:=by simp [h0]
  have Hf:=Ya (show res=L+1+14 from by rw [Hfr.out,if_neg (by simp [h0])];omega);clear h0 hL;go_wp2_with fail
  go_ret
  exact ⟨Z3 Hf.out.symm,Z4.out⟩
 ·have hne:(κ != 0)=true:=by simp [h0]
  have Hf:=Ya (show res=0 from by rw [Hfr.out,if_pos h0]);clear h0 hL;go_wp2_with fail
  go_ret
  exact ⟨Z3 Hf.out.symm,Z4.out⟩
end Go.Proofs.YtfhiobkkdcdmiaaGreatDoor
