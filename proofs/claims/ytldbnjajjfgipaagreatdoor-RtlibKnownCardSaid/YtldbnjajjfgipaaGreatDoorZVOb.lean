/- Parts. -/
import Derived.Test.YtldbnjajjfgipaaGreatDoorZKCc
set_option linter.all false
set_option maxHeartbeats 4000000
open Go.Lib renaming hid->Ya,cell_of_heap->Yb,frozen_of_heap->Yai
open Nat renaming le_refl->Yd,lt_of_lt_of_le->Yr,le_of_lt->Yay
namespace Go.Proofs.YtldbnjajjfgipaaGreatDoor
open S Go.Proofs.Tryz
set_option maxRecDepth 100000
open Go Go.RowKit Go.Proofs
namespace S
noncomputable def primA (xs:List AV):Option (AV×Tail):=match xs with
 | [.int .i64 op,.int .i64 loc,.row n body]=>match runFn prog orcN 400 20 255 [.int .i64 op] with
  | some (.int .i64 k,none)=>if -1000<=op/\op<=1000 then
   (match runFn prog orcN 400 20 92 [.str (kRt op),.int .i64 (if 0<k then k else 0),.int .i64 loc,.bool true,.row n body] with
   | some (.agg [.str s,.row q cs],none)=>some (.agg [.str s,.row q cs],none)
   | _=>none) else none
  | _=>none
 | _=>none
noncomputable def orcL (f:FuncId) (xs:List AV):Option (AV×Tail):=if f=211 then primA xs else orcN f xs
end S
theorem Zwt (a b:List UInt8):(⟨a.toArray⟩:ByteArray)++⟨b.toArray⟩=⟨(a++b).toArray⟩:=by
 apply ByteArray.ext
 simp
theorem Zzk {op loc k kk:Int}{n q:Nat}{body cs:List S.AV}{s:ByteArray}(hkk:kk=if 0<k then k else 0)(ho:-1000<=op/\op<=1000)(h1:S.runFn prog S.orcN 400 20 255 [.int .i64 op]=some (.int .i64 k,none))
 (h2:S.runFn prog S.orcN 400 20 92 [.str (S.kRt op),.int .i64 kk,.int .i64 loc,.bool true,.row n body]=some (.agg [.str s,.row q cs],none)) :
 AFn prog LVE 211 [.int .i64 op,.int .i64 loc,.row n body] (.agg [.str s,.row q cs]) none:=by
 intro H w vs hbnd hL hrep;rw[RepT] at hrep;obtain⟨v0,us,rfl,hv0,hrep⟩:=hrep;rw[RepT] at hrep;obtain⟨v1,us,rfl,hv1,hrep⟩:=hrep;rw[RepT] at hrep;obtain⟨v2,us,rfl,hv2,hrep⟩:=hrep;rw[RepT] at hrep;subst hrep;rw[RepV] at hv0 hv1;subst hv0 hv1;have HL:=Ya hL;have HV2:=Ya hv2;have HBn:=Ya hbnd;have h1':=Ziz h1;have h2':=Ziz h2;have H1:=Ya h1';have H2:=Ya h2';rw[RepV] at hv2;obtain⟨A,c,rfl,-⟩:=hv2;clear hL hbnd h1 h2 h1' h2';go_enter func211,ntmps211
 go_wp2_with fail
 have hb1:Below w.heap.size w (w.alloc (.cells #[.string ⟨#[]⟩,.slice none 0 0] 105)):=(Below.refl _ _).alloc (Yd _) _;have hx1:=heap_alloc_new w (.cells #[.string ⟨#[]⟩,.slice none 0 0] 105);have hz1:w.heap.size<(w.alloc (.cells #[.string ⟨#[]⟩,.slice none 0 0] 105)).heap.size:=by simp
 generalize w.alloc (.cells #[.string ⟨#[]⟩,.slice none 0 0] 105)=w1 at *;refine(Zrx op ⟨by omega,by omega⟩ w1 (HL.out.on hb1)).mono ?_;rintro e w2 ⟨rfl,hb2⟩;have hs:=Zwt [114,116] (S.itoa op);have hk:S.kRt op=⟨([114,116]++S.itoa op).toArray⟩:=rfl;have Hs:=Ya hs;have Hk:=Ya hk;have HX2:=Ya ((hb2.block _ hz1).trans hx1);have HB2:=Ya (hb1.trans (hb2.mono (Yay hz1)));have hz2:=Yr hz1 hb2.size;have hl:=Zoa op;clear hb1 hb2 hx1 hz1 hs hk;generalize S.itoa op=lf at *;go_wp2_with fail
 refine(H1.out (λ _=>none) w2 [.int .i64 op] (λ b k h=>by cases h) (HL.out.on HB2.out) (by rw[RepT];exact⟨_,_,rfl,by rw[RepV],by rw[RepT]⟩)).mono ?_;rintro e w3 ⟨v3,H3,rfl,hb3,-,-,hr3,-⟩;rw[RepV] at hr3;subst hr3;have HX3:=Ya ((hb3.block _ hz2).trans HX2.out);have HB3:=Ya (HB2.out.trans (hb3.mono (Yay hz2)));have hz3:=Yr hz2 hb3.size;clear hb3 HX2 HB2;go_wp2_with fail
 rw[show max 0 k=kk by rw[hkk];split <;> omega];rw[show(⟨#[114,116]⟩:ByteArray)++⟨lf.toArray⟩=S.kRt op from Hs.out.trans Hk.out.symm];have hst:Stay H w H w3:=λ b h e=>⟨h,e,Yd _,λ o _=>HB3.out.cell (p:=⟨b,o,none⟩) (HBn.out b h e).lt⟩
 refine(H2.out H w3 [.string (S.kRt op),.int .i64 kk,.int .i64 loc,.bool true,.slice A n c] (λ b k h=>(HBn.out b k h).of (HB3.out.block b (HBn.out b k h).lt)) (HL.out.on HB3.out) (by
  rw[RepT];refine⟨_,_,rfl,by rw[RepV],?_⟩;rw[RepT];refine⟨_,_,rfl,by rw[RepV],?_⟩;rw[RepT];refine⟨_,_,rfl,by rw[RepV],?_⟩;rw[RepT];refine⟨_,_,rfl,by rw[RepV],?_⟩;rw[RepT];exact⟨_,_,rfl,RepV.stay hst _ _ HV2.out,by rw[RepT]⟩)).mono ?_
 rintro e w4 ⟨v4,H4,rfl,hb4,hO4,hB4,hr4,-⟩;have HR4:=Ya hr4;rw[RepV] at hr4;obtain⟨vs4,rfl,hr4⟩:=hr4;rw[RepL] at hr4;obtain⟨x4,us,rfl,hcx,hrx,hr4⟩:=hr4;rw[RepL] at hr4;obtain⟨y4,us,rfl,hcy,hry,hr4⟩:=hr4;rw[RepL] at hr4;subst hr4;rw[RepV] at hrx;rw[RepV] at hry;subst hrx;obtain⟨A4,c4,rfl,-⟩:=hry;have hx4:=(hb4.block _ hz3).trans HX3.out;have HX4:=Ya hx4;have HB4:=Ya (HB3.out.trans (hb4.mono (Yay hz3)));have hz4:=Yr hz3 hb4.size;have HO4:=Ya hO4;have HBk4:=Ya hB4;have o0:w4.cell? ⟨w.heap.size,0,none⟩=some (.string ⟨#[]⟩):=by rw[Yb hx4];rfl
 have o1:w4.cell? ⟨w.heap.size,1,none⟩=some (.slice none 0 0):=by rw[Yb hx4];rfl
 have g0:w4.frozen? ⟨w.heap.size,0,none⟩=false:=Yai hx4 0;have g1:w4.frozen? ⟨w.heap.size,1,none⟩=false:=Yai hx4 1;clear hb4 hO4 hB4 hx4 hst HB3 HX3;go_wp2_with fail
 all_goals
  obtain⟨wf,hwf⟩:∃wf,wf=((w4.setCell { block:=w.heap.size,off:=0 } (Value.string s)).setCell { block:=w.heap.size,off:=1 } (Value.slice A4 q c4)):=⟨_,rfl⟩
  have hbf:wf.heap[w.heap.size]?=some (.cells #[.string s,.slice A4 q c4] 105 (0,0)):=by
   rw[hwf];have h1:=heap_setCell_same w4 w.heap.size 0 _ _ (.string s) HX4.out;exact heap_setCell_same _ w.heap.size 1 _ _ (.slice A4 q c4) h1
  have hbel:Below w.heap.size w wf:=by
   rw[hwf];exact(HB4.out.setCell (p:=⟨w.heap.size,0,none⟩) (Yd _) _).setCell (p:=⟨w.heap.size,1,none⟩) (Yd _) _
  have hoth:∀b,b≠w.heap.size->wf.heap[b]?=w4.heap[b]?:=λ b hb=>by
   rw[hwf,heap_setCell_other _ ⟨w.heap.size,1,none⟩ b _ hb,heap_setCell_other _ ⟨w.heap.size,0,none⟩ b _ hb]
  rw[<- hwf];have n0:wf.cell? ⟨w.heap.size,0,none⟩=some (.string s):=by rw[Yb hbf];rfl
  have n1:wf.cell? ⟨w.heap.size,1,none⟩=some (.slice A4 q c4):=by rw[Yb hbf];rfl
  have hnone:∀b k,H4 b=some k->b≠w.heap.size:=λ b k h e=>by
   subst e;rw[HO4.out _ hz3] at h;have:=(HBn.out _ _ h).lt;omega
  refine bodyPost_ret (v:=.agg #[.string s,.slice A4 q c4]) (by simp[results,results211,go_sem,n0,n1]) rfl ?_;refine⟨_,rfl,hbel,H4,λ b hb=>HO4.out b (by omega),λ b k h=>(HBk4.out b k h).of (hoth b (hnone b k h)),?_⟩;exact RepV.stay (λ b h e=>⟨h,e,Yd _,λ o _=>World.cell?_of_block (a:=⟨b,o,none⟩) (hoth b (hnone b h e))⟩) _ _ HR4.out
theorem Zqi {xs:List S.AV}{r:S.AV}{y:S.Tail}(h:S.primA xs=some (r,y)):AFn prog LVE 211 xs r y:=by
 unfold S.primA at h
 split at h
 .rename_i op loc n body
  split at h
  .rename_i k h1
   split at h
   .rename_i ho
    split at h
    .rename_i s q cs h2
     cases h
     exact Zzk rfl ho h1 h2
    .cases h
   .cases h
  .cases h
 .cases h
theorem Zqj (f:FuncId)(xs:List S.AV)(r:S.AV)(y:S.Tail)(h:S.orcL f xs=some (r,y)):AFn prog LVE f xs r y:=by
 unfold S.orcL at h
 split at h
 .rename_i hf
  subst hf;exact Zqi h
 .exact Ziy f xs r y h
theorem Zqk {cf n:Nat}{f:FuncId}{xs:List S.AV}{r:S.AV}{y:S.Tail}(h:S.runFn prog S.orcL cf n f xs=some (r,y)):AFn prog LVE f xs r y :=
 Zge (λ w w' hL hb=>hL.on hb) Zqj n f xs r y h
theorem Zmf:S.runFn prog S.orcL 400 20 73 []=some (.row 39 (ag objs28),some (105,2)):=by kernel_rfl
theorem Znq:AFn prog LVE 73 [] (.row 39 (ag objs28)) (some (105,2)):=Zqk Zmf
theorem Zwu:ay objs28=true:=by kernel_rfl
theorem Znr:ay [oMainV]=true:=by kernel_rfl
