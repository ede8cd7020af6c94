/- Parts. -/
import Derived.Test.YtcjhmiijbojgeaaGreatDoorZKGra
import Derived.Test.YtcjhmiijbojgeaaGreatDoorZKCc
set_option linter.all false
set_option maxHeartbeats 4000000
open Go.Lib renaming hid->Ya,cell_of_heap->Yb,frozen_of_heap->Yy
open Nat renaming le_refl->Yc,lt_of_lt_of_le->Ys,le_of_lt->Ya5
namespace Go.Proofs.YtcjhmiijbojgeaaGreatDoor
open S Go.Proofs.Tryz
set_option maxRecDepth 100000
open Go Go.RowKit Go.Proofs
namespace S
noncomputable def primA (xs:List AV):Option (AV×Tail):=match xs with
 | [.int .i64 op,.int .i64 loc,.row n body]=>match runFn prog orcN 400 20 186 [.int .i64 op] with
  | some (.int .i64 k,none)=>if -1000<=op/\op<=1000 then
   (match runFn prog orcN 400 20 66 [.str (kRt op),.int .i64 (if 0<k then k else 0),.int .i64 loc,.bool true,.row n body] with
   | some (.agg [.str s,.row q cs],none)=>some (.agg [.str s,.row q cs],none)
   | _=>none) else none
  | _=>none
 | _=>none
noncomputable def orcL (f:FuncId) (xs:List AV):Option (AV×Tail):=if f=138 then primA xs else orcN f xs
end S
theorem Zzm (a b:List UInt8):(⟨a.toArray⟩:ByteArray)++⟨b.toArray⟩=⟨(a++b).toArray⟩:=by
 apply ByteArray.ext
 simp
theorem Z27 {op I k kk:Int}{n q:Nat}{body cs:List S.AV}{s:ByteArray}(a4:kk=if 0<k then k else 0)(ho:-1000<=op/\op<=1000)(h1:S.runFn prog S.orcN 400 20 186 [.int .i64 op]=some (.int .i64 k,none))
 (h2:S.runFn prog S.orcN 400 20 66 [.str (S.kRt op),.int .i64 kk,.int .i64 I,.bool true,.row n body]=some (.agg [.str s,.row q cs],none)) :
 AFn prog LVE 138 [.int .i64 op,.int .i64 I,.row n body] (.agg [.str s,.row q cs]) none:=by
 intro H w vs z hL d;rw[RepT] at d;obtain⟨v0,us,rfl,N,d⟩:=d;rw[RepT] at d;obtain⟨v1,us,rfl,K,d⟩:=d;rw[RepT] at d;obtain⟨v2,us,rfl,D,d⟩:=d;rw[RepT] at d;subst d;rw[RepV] at N K;subst N K;have HL:=Ya hL;have a3:=Ya D;have r:=Ya z;have P:=Zj7 h1;have J:=Zj7 h2;have H1:=Ya P;have H2:=Ya J;rw[RepV] at D;obtain⟨A,c,rfl,-⟩:=D;clear hL z h1 h2 P J;go_enter func138,ntmps138
 go_wp2_with fail
 have G:Below w.heap.size w (w.alloc (.cells #[.string ⟨#[]⟩,.slice none 0 0] 82)):=(Below.refl _ _).alloc (Yc _) _;have W:=heap_alloc_new w (.cells #[.string ⟨#[]⟩,.slice none 0 0] 82);have t:w.heap.size<(w.alloc (.cells #[.string ⟨#[]⟩,.slice none 0 0] 82)).heap.size:=by simp
 generalize w.alloc (.cells #[.string ⟨#[]⟩,.slice none 0 0] 82)=w1 at *;refine(Ztr op ⟨by omega,by omega⟩ w1 (HL.out.on G)).mono ?_;rintro e w2 ⟨rfl,m⟩;have hs:=Zzm [114,116] (S.itoa op);have hk:S.kRt op=⟨([114,116]++S.itoa op).toArray⟩:=rfl;have Hs:=Ya hs;have Hk:=Ya hk;have V:=Ya ((m.block _ t).trans W);have E:=Ya (G.trans (m.mono (Ya5 t)));have F:=Ys t m.size;have hl:=Zpx op;clear G m W t hs hk;generalize S.itoa op=lf at *;go_wp2_with fail
 refine(H1.out (λ _=>none) w2 [.int .i64 op] (λ b k h=>by cases h) (HL.out.on E.out) (by rw[RepT];exact⟨_,_,rfl,by rw[RepV],by rw[RepT]⟩)).mono ?_;rintro e w3 ⟨v3,H3,rfl,x,-,-,M,-⟩;rw[RepV] at M;subst M;have T:=Ya ((x.block _ F).trans V.out);have j:=Ya (E.out.trans (x.mono (Ya5 F)));have y:=Ys F x.size;clear x V E;go_wp2_with fail
 rw[show max 0 k=kk by rw[a4];split <;> omega];rw[show(⟨#[114,116]⟩:ByteArray)++⟨lf.toArray⟩=S.kRt op from Hs.out.trans Hk.out.symm];have a1:Stay H w H w3:=λ b h e=>⟨h,e,Yc _,λ o _=>j.out.cell (p:=⟨b,o,none⟩) (r.out b h e).lt⟩
 refine(H2.out H w3 [.string (S.kRt op),.int .i64 kk,.int .i64 I,.bool true,.slice A n c] (λ b k h=>(r.out b k h).of (j.out.block b (r.out b k h).lt)) (HL.out.on j.out) (by
  rw[RepT];refine⟨_,_,rfl,by rw[RepV],?_⟩;rw[RepT];refine⟨_,_,rfl,by rw[RepV],?_⟩;rw[RepT];refine⟨_,_,rfl,by rw[RepV],?_⟩;rw[RepT];refine⟨_,_,rfl,by rw[RepV],?_⟩;rw[RepT];exact⟨_,_,rfl,RepV.stay a1 _ _ a3.out,by rw[RepT]⟩)).mono ?_
 rintro e C ⟨v4,H4,rfl,u,L,a0,f,-⟩;have a2:=Ya f;rw[RepV] at f;obtain⟨a8,rfl,f⟩:=f;rw[RepL] at f;obtain⟨x4,us,rfl,b0,Q,f⟩:=f;rw[RepL] at f;obtain⟨y4,us,rfl,a7,O,f⟩:=f;rw[RepL] at f;subst f;rw[RepV] at Q;rw[RepV] at O;subst Q;obtain⟨X,c4,rfl,-⟩:=O;have g:=(u.block _ y).trans T.out;have a6:=Ya g;have a5:=Ya (j.out.trans (u.mono (Ya5 y)));have a9:=Ys y u.size;have Z:=Ya L;have Y:=Ya a0;have o0:C.cell? ⟨w.heap.size,0,none⟩=some (.string ⟨#[]⟩):=by rw[Yb g];rfl
 have o1:C.cell? ⟨w.heap.size,1,none⟩=some (.slice none 0 0):=by rw[Yb g];rfl
 have g0:C.frozen? ⟨w.heap.size,0,none⟩=false:=Yy g 0;have g1:C.frozen? ⟨w.heap.size,1,none⟩=false:=Yy g 1;clear u L a0 g a1 j T;go_wp2_with fail
 all_goals
  obtain⟨wf,l⟩:∃wf,wf=((C.setCell { block:=w.heap.size,off:=0 } (Value.string s)).setCell { block:=w.heap.size,off:=1 } (Value.slice X q c4)):=⟨_,rfl⟩
  have R:wf.heap[w.heap.size]?=some (.cells #[.string s,.slice X q c4] 82 (0,0)):=by
   rw[l];have h1:=heap_setCell_same C w.heap.size 0 _ _ (.string s) a6.out;exact heap_setCell_same _ w.heap.size 1 _ _ (.slice X q c4) h1
  have U:Below w.heap.size w wf:=by
   rw[l];exact(a5.out.setCell (p:=⟨w.heap.size,0,none⟩) (Yc _) _).setCell (p:=⟨w.heap.size,1,none⟩) (Yc _) _
  have B:∀b,b≠w.heap.size->wf.heap[b]?=C.heap[b]?:=λ b hb=>by
   rw[l,heap_setCell_other _ ⟨w.heap.size,1,none⟩ b _ hb,heap_setCell_other _ ⟨w.heap.size,0,none⟩ b _ hb]
  rw[<- l];have n0:wf.cell? ⟨w.heap.size,0,none⟩=some (.string s):=by rw[Yb R];rfl
  have n1:wf.cell? ⟨w.heap.size,1,none⟩=some (.slice X q c4):=by rw[Yb R];rfl
  have i:∀b k,H4 b=some k->b≠w.heap.size:=λ b k h e=>by
   subst e;rw[Z.out _ y] at h;have:=(r.out _ _ h).lt;omega
  refine bodyPost_ret (v:=.agg #[.string s,.slice X q c4]) (by simp[results,results138,go_sem,n0,n1]) rfl ?_;refine⟨_,rfl,U,H4,λ b hb=>Z.out b (by omega),λ b k h=>(Y.out b k h).of (B b (i b k h)),?_⟩;exact RepV.stay (λ b h e=>⟨h,e,Yc _,λ o _=>World.cell?_of_block (a:=⟨b,o,none⟩) (B b (i b h e))⟩) _ _ a2.out
theorem Zst {xs:List S.AV}{r:S.AV}{y:S.Tail}(h:S.primA xs=some (r,y)):AFn prog LVE 138 xs r y:=by
 unfold S.primA at h
 split at h
 .rename_i op loc n body
  split at h
  .rename_i k h1
   split at h
   .rename_i ho
    split at h
    .rename_i s q cs h2
     cases h
     exact Z27 rfl ho h1 h2
    .cases h
   .cases h
  .cases h
 .cases h
theorem Zsu (f:FuncId)(xs:List S.AV)(r:S.AV)(y:S.Tail)(h:S.orcL f xs=some (r,y)):AFn prog LVE f xs r y:=by
 unfold S.orcL at h
 split at h
 .rename_i hf
  subst hf;exact Zst h
 .exact Zj6 f xs r y h
theorem Zsv {a n:Nat}{f:FuncId}{xs:List S.AV}{r:S.AV}{y:S.Tail}(h:S.runFn prog S.orcL a n f xs=some (r,y)):AFn prog LVE f xs r y :=
 Zhj (λ w w' c b=>c.on b) Zsu n f xs r y h
theorem Zny:S.runFn prog S.orcL 400 20 39 []=some (.row 39 (ac objs28),some (82,2)):=by kernel_rfl
theorem Zpj:AFn prog LVE 39 [] (.row 39 (ac objs28)) (some (82,2)):=Zsv Zny
theorem Zzn:aw objs28=true:=by kernel_rfl
theorem Zpk:aw [oMainV]=true:=by kernel_rfl
