/- Parts. -/
import Derived.Test.YtfhiobkkdcdmiaaGreatDoorZAsmTab
import Derived.Deep.LoopGhost
set_option linter.all false
set_option maxHeartbeats 8000000
open Go.Lib renaming hid->Ya
open Nat renaming le_refl->Yb
open List renaming getD_eq_getElem?_getD->Ye,getElem?_eq_getElem->Yf,getElem?_eq_some_iff->Yg,replicate->Ys
open Go.AllReady renaming cons->Yj,nil->Yp
namespace Go.Proofs.YtfhiobkkdcdmiaaGreatDoor
open Go.RowKit
set_option maxRecDepth 100000
def Zfb (w:World)(A:Option Addr)(c:Nat)(xs:List S.Item)(base:Int)(e:Ending)(w':World):Prop :=
 Below w.heap.size w w'/\((∃r,r≠0/\e=.returned (.tuple #[.pointer none,.int .i64 r])/\S.FormsRes xs base r []) \/
  (∃(g gF gA m n:Nat)(F:List Int),n<=1048576/\e=.returned (.tuple #[.pointer (some ⟨g,0,none⟩),.int .i64 0])/\S.FormsRes xs base 0 F /\
   Work w' w.heap.size g gF gA m n A c xs base F (Zfq xs F base (xs.length+1)) (Ze5 xs)))
theorem Zjt (w:World){A:Option Addr}{c:Nat}{xs:List S.Item}{base:Int}(hi:Items w w.heap.size A xs)(hb0:0<=base)(hb1:base<=67108864)(hl:xs.length<=1048576)
 (hlab:∀(k:Nat)(x:S.Item),xs[k]?=some x->x.label.size<=maxLen) (hw:∀x∈xs,0<=x.word/\x.word<=4294967295) :
 Calls Tryz.prog 160 #[.slice A xs.length c,.int .i64 base] w (Zfb w A c xs base):=by
 have Hlab:=Ya hlab;have Hw:=Ya hw;clear hlab hw;go_enter Tryz.func160,Tryz.ntmps160
 go_wp2_with fail
 go_step3
 go_upto_region 3 with fail
 go_cut [6] from 25 to 36 (λ s6 wc=>∃g gF gA m,s6=.pointer (some ⟨g,0,none⟩)/\Work wc w.heap.size g gF gA m 0 A c xs base (Ys xs.length 0) (Ys (xs.length+1) 0) (λ _=>none)/\Below w.heap.size w wc)
 case first JJ KK hJJ hKK =>
  refine wp_region_any (by kernel_rfl) ?_;change wpAny _ _ _ _ _ _ _ (World.drew _);have hwr:IntKind.i64.wrap ((xs.length:Int)+1)=(xs.length:Int)+1:=by rw[IntWalk.i64_in _ (by omega)]
  refine wpAny_take (i:=0) (v:=.slice A xs.length c) rfl (by kernel_rfl) (by kernel_rfl) (by kernel_rfl) (λ _ _ _ h=>h) (Or.inl ⟨by rfl,λ w=>rfl⟩) ?_;refine wpAny_take (i:=1) (v:=.int .i64 base) rfl (by kernel_rfl) (by kernel_rfl) (by kernel_rfl) (λ _ _ _ h=>h) (Or.inl ⟨by rfl,λ w=>rfl⟩) ?_;refine wpAny_take (i:=2) (v:=.slice A xs.length c) rfl (by kernel_rfl) (by kernel_rfl) (by kernel_rfl) (λ _ _ _ h=>h) (Or.inl ⟨by rfl,λ w=>rfl⟩) ?_;refine wpAny_take (i:=3) (v:=.int .i64 xs.length) rfl (by kernel_rfl) (by kernel_rfl) (by kernel_rfl) (λ _ _ _ h=>h) (Or.inl ⟨by rfl,λ w=>by go_simp⟩) ?_;refine wpAny_take (i:=5) (v:=.slice A xs.length c) rfl (by kernel_rfl) (by kernel_rfl) (by kernel_rfl) (λ _ _ _ h=>h) (Or.inl ⟨by rfl,λ w=>rfl⟩) ?_;refine wpAny_take (i:=6) (v:=.int .i64 xs.length) rfl (by kernel_rfl) (by kernel_rfl) (by kernel_rfl) (λ _ _ _ h=>h) (Or.inl ⟨by rfl,λ w=>by go_simp⟩) ?_;refine wpAny_take (i:=7) (v:=.int .i64 ((xs.length:Int)+1)) rfl (by kernel_rfl) (by kernel_rfl) (by kernel_rfl) (λ _ _ _ h=>h) (Or.inl ⟨by rfl,λ w=>by go_simp⟩) ?_;have h0:=AsSt.start w w.drew xs.length (Zhu w);clear hwr;refine Zcd ?_;intro a0 ha0;refine wpAny_ready (rs:=[4,8,9]) (by kernel_rfl) (by simp) ?_;refine Yj (o:=?oo04) ?p04 ?q04 ?r04
  case' p04=>rfl
  .intro K hK
   refine Zc0 h0 hl rfl (.tmp 28) rfl (by rw[ha0];kernel_rfl) (some 29) rfl (λ w04 h04=>hK _ _ ?_);clear hK K;refine wpAny_ready (rs:=[8,9]) (by kernel_rfl) (by simp) ?_;refine Yj (o:=?oo048) ?p048 ?q048 ?r048
   case' p048=>rfl
   .intro K hK
    refine Zc1 h04 hl rfl (.tmp 32) rfl (by rw[ha0];kernel_rfl) (some 33) rfl (λ w048 h048=>hK _ _ ?_);clear hK K;refine wpAny_ready (rs:=[9]) (by kernel_rfl) (by simp) ?_;refine Yj (o:=?oo0489) ?p0489 ?q0489 ?r0489
    case' p0489=>rfl
    .intro K hK
     refine Zc2 h048 rfl rfl (some 34) rfl (λ w0489 h0489=>hK _ _ ?_);clear hK K;obtain⟨gg,hgg,hWk,hBk⟩:=h0489.work (A:=A) (c:=c) (base:=base);refine Zcd ?_;intro a1 ha1;refine wpAny_ready (rs:=[10]) (by kernel_rfl) (by simp) ?_;refine Yj (o:=?oo0489x0) ?p0489x0 ?q0489x0 ?r0489x0
     case' p0489x0=>rfl
     case' r0489x0=>exact Yp
     intro K hK;refine Zaf rfl (some 35) rfl (v:=.agg #[.slice A xs.length c,.int .i64 base,.slice (some ⟨w.drew.heap.size,0,none⟩) xs.length xs.length,.slice (some ⟨w04.heap.size,0,none⟩) (xs.length+1) (xs.length+1),.map (some w048.heap.size)]) (w':=w0489) (by rw[ha1,ha0];kernel_rfl) (hK _ _ ?_);clear hK K;refine wpAny_ready (rs:=[11]) (by kernel_rfl) (by simp) ?_;refine Yj (o:=?oo0489x1) ?p0489x1 ?q0489x1 ?r0489x1
     case' p0489x1=>rfl
     case' r0489x1=>exact Yp
     intro K hK;refine Zaf rfl (some 36) rfl (v:=.pointer (some ⟨w0489.heap.size,0,none⟩)) (w':=w0489.alloc (.cells #[.slice A xs.length c,.int .i64 base,.slice (some ⟨w.drew.heap.size,0,none⟩) xs.length xs.length,.slice (some ⟨w04.heap.size,0,none⟩) (xs.length+1) (xs.length+1),.map (some w048.heap.size)] 185)) (by rw[ha1,ha0];kernel_rfl) (hK _ _ ?_);clear hK K;refine wpAny_ready (rs:=[12]) (by kernel_rfl) (by simp) ?_;refine Yj (o:=?oo0489x2) ?p0489x2 ?q0489x2 ?r0489x2
     case' p0489x2=>rfl
     case' r0489x2=>exact Yp
     intro K hK;refine Zaf rfl (some 6) rfl (v:=.pointer (some ⟨w0489.heap.size,0,none⟩)) (w':=w0489.alloc (.cells #[.slice A xs.length c,.int .i64 base,.slice (some ⟨w.drew.heap.size,0,none⟩) xs.length xs.length,.slice (some ⟨w04.heap.size,0,none⟩) (xs.length+1) (xs.length+1),.map (some w048.heap.size)] 185)) (by rw[ha1,ha0];kernel_rfl) (hK _ _ ?_);clear hK K;refine wpAny_done (by kernel_rfl) ?_ _;rw[ha1,ha0];refine hKK _ _ (Met.intro (hJJ _ _ ?_));exact⟨.pointer (some ⟨w0489.heap.size,0,none⟩),.slice A xs.length c,.int .i64 base,.slice A xs.length c,.int .i64 xs.length,.slice (some ⟨w.drew.heap.size,0,none⟩) xs.length xs.length,.slice A xs.length c,.int .i64 xs.length,.int .i64 ((xs.length:Int)+1),.slice (some ⟨w04.heap.size,0,none⟩) (xs.length+1) (xs.length+1),.map (some w048.heap.size),.agg #[.slice A xs.length c,.int .i64 base,.slice (some ⟨w.drew.heap.size,0,none⟩) xs.length xs.length,.slice (some ⟨w04.heap.size,0,none⟩) (xs.length+1) (xs.length+1),.map (some w048.heap.size)],.pointer (some ⟨w0489.heap.size,0,none⟩),⟨_,_,_,_,rfl,by rw[<- hgg] at hWk;exact hWk,hBk⟩,by kernel_rfl⟩
    exact Yp
   refine Yj (o:=?oo049) ?p049 ?q049 ?r049
   case' p049=>rfl
   .intro K hK
    refine Zc2 h04 rfl rfl (some 34) rfl (λ w049 h049=>hK _ _ ?_);clear hK K;refine wpAny_ready (rs:=[8]) (by kernel_rfl) (by simp) ?_;refine Yj (o:=?oo0498) ?p0498 ?q0498 ?r0498
    case' p0498=>rfl
    .intro K hK
     refine Zc1 h049 hl rfl (.tmp 32) rfl (by rw[ha0];kernel_rfl) (some 33) rfl (λ w0498 h0498=>hK _ _ ?_);clear hK K;obtain⟨gg,hgg,hWk,hBk⟩:=h0498.work (A:=A) (c:=c) (base:=base);refine Zcd ?_;intro a1 ha1;refine wpAny_ready (rs:=[10]) (by kernel_rfl) (by simp) ?_;refine Yj (o:=?oo0498x0) ?p0498x0 ?q0498x0 ?r0498x0
     case' p0498x0=>rfl
     case' r0498x0=>exact Yp
     intro K hK;refine Zaf rfl (some 35) rfl (v:=.agg #[.slice A xs.length c,.int .i64 base,.slice (some ⟨w.drew.heap.size,0,none⟩) xs.length xs.length,.slice (some ⟨w049.heap.size,0,none⟩) (xs.length+1) (xs.length+1),.map (some w04.heap.size)]) (w':=w0498) (by rw[ha1,ha0];kernel_rfl) (hK _ _ ?_);clear hK K;refine wpAny_ready (rs:=[11]) (by kernel_rfl) (by simp) ?_;refine Yj (o:=?oo0498x1) ?p0498x1 ?q0498x1 ?r0498x1
     case' p0498x1=>rfl
     case' r0498x1=>exact Yp
     intro K hK;refine Zaf rfl (some 36) rfl (v:=.pointer (some ⟨w0498.heap.size,0,none⟩)) (w':=w0498.alloc (.cells #[.slice A xs.length c,.int .i64 base,.slice (some ⟨w.drew.heap.size,0,none⟩) xs.length xs.length,.slice (some ⟨w049.heap.size,0,none⟩) (xs.length+1) (xs.length+1),.map (some w04.heap.size)] 185)) (by rw[ha1,ha0];kernel_rfl) (hK _ _ ?_);clear hK K;refine wpAny_ready (rs:=[12]) (by kernel_rfl) (by simp) ?_;refine Yj (o:=?oo0498x2) ?p0498x2 ?q0498x2 ?r0498x2
     case' p0498x2=>rfl
     case' r0498x2=>exact Yp
     intro K hK;refine Zaf rfl (some 6) rfl (v:=.pointer (some ⟨w0498.heap.size,0,none⟩)) (w':=w0498.alloc (.cells #[.slice A xs.length c,.int .i64 base,.slice (some ⟨w.drew.heap.size,0,none⟩) xs.length xs.length,.slice (some ⟨w049.heap.size,0,none⟩) (xs.length+1) (xs.length+1),.map (some w04.heap.size)] 185)) (by rw[ha1,ha0];kernel_rfl) (hK _ _ ?_);clear hK K;refine wpAny_done (by kernel_rfl) ?_ _;rw[ha1,ha0];refine hKK _ _ (Met.intro (hJJ _ _ ?_));exact⟨.pointer (some ⟨w0498.heap.size,0,none⟩),.slice A xs.length c,.int .i64 base,.slice A xs.length c,.int .i64 xs.length,.slice (some ⟨w.drew.heap.size,0,none⟩) xs.length xs.length,.slice A xs.length c,.int .i64 xs.length,.int .i64 ((xs.length:Int)+1),.slice (some ⟨w049.heap.size,0,none⟩) (xs.length+1) (xs.length+1),.map (some w04.heap.size),.agg #[.slice A xs.length c,.int .i64 base,.slice (some ⟨w.drew.heap.size,0,none⟩) xs.length xs.length,.slice (some ⟨w049.heap.size,0,none⟩) (xs.length+1) (xs.length+1),.map (some w04.heap.size)],.pointer (some ⟨w0498.heap.size,0,none⟩),⟨_,_,_,_,rfl,by rw[<- hgg] at hWk;exact hWk,hBk⟩,by kernel_rfl⟩
    exact Yp
   exact Yp
  refine Yj (o:=?oo08) ?p08 ?q08 ?r08
  case' p08=>rfl
  .intro K hK
   refine Zc1 h0 hl rfl (.tmp 32) rfl (by rw[ha0];kernel_rfl) (some 33) rfl (λ w08 h08=>hK _ _ ?_);clear hK K;refine wpAny_ready (rs:=[4,9]) (by kernel_rfl) (by simp) ?_;refine Yj (o:=?oo084) ?p084 ?q084 ?r084
   case' p084=>rfl
   .intro K hK
    refine Zc0 h08 hl rfl (.tmp 28) rfl (by rw[ha0];kernel_rfl) (some 29) rfl (λ w084 h084=>hK _ _ ?_);clear hK K;refine wpAny_ready (rs:=[9]) (by kernel_rfl) (by simp) ?_;refine Yj (o:=?oo0849) ?p0849 ?q0849 ?r0849
    case' p0849=>rfl
    .intro K hK
     refine Zc2 h084 rfl rfl (some 34) rfl (λ w0849 h0849=>hK _ _ ?_);clear hK K;obtain⟨gg,hgg,hWk,hBk⟩:=h0849.work (A:=A) (c:=c) (base:=base);refine Zcd ?_;intro a1 ha1;refine wpAny_ready (rs:=[10]) (by kernel_rfl) (by simp) ?_;refine Yj (o:=?oo0849x0) ?p0849x0 ?q0849x0 ?r0849x0
     case' p0849x0=>rfl
     case' r0849x0=>exact Yp
     intro K hK;refine Zaf rfl (some 35) rfl (v:=.agg #[.slice A xs.length c,.int .i64 base,.slice (some ⟨w08.heap.size,0,none⟩) xs.length xs.length,.slice (some ⟨w.drew.heap.size,0,none⟩) (xs.length+1) (xs.length+1),.map (some w084.heap.size)]) (w':=w0849) (by rw[ha1,ha0];kernel_rfl) (hK _ _ ?_);clear hK K;refine wpAny_ready (rs:=[11]) (by kernel_rfl) (by simp) ?_;refine Yj (o:=?oo0849x1) ?p0849x1 ?q0849x1 ?r0849x1
     case' p0849x1=>rfl
     case' r0849x1=>exact Yp
     intro K hK;refine Zaf rfl (some 36) rfl (v:=.pointer (some ⟨w0849.heap.size,0,none⟩)) (w':=w0849.alloc (.cells #[.slice A xs.length c,.int .i64 base,.slice (some ⟨w08.heap.size,0,none⟩) xs.length xs.length,.slice (some ⟨w.drew.heap.size,0,none⟩) (xs.length+1) (xs.length+1),.map (some w084.heap.size)] 185)) (by rw[ha1,ha0];kernel_rfl) (hK _ _ ?_);clear hK K;refine wpAny_ready (rs:=[12]) (by kernel_rfl) (by simp) ?_;refine Yj (o:=?oo0849x2) ?p0849x2 ?q0849x2 ?r0849x2
     case' p0849x2=>rfl
     case' r0849x2=>exact Yp
     intro K hK;refine Zaf rfl (some 6) rfl (v:=.pointer (some ⟨w0849.heap.size,0,none⟩)) (w':=w0849.alloc (.cells #[.slice A xs.length c,.int .i64 base,.slice (some ⟨w08.heap.size,0,none⟩) xs.length xs.length,.slice (some ⟨w.drew.heap.size,0,none⟩) (xs.length+1) (xs.length+1),.map (some w084.heap.size)] 185)) (by rw[ha1,ha0];kernel_rfl) (hK _ _ ?_);clear hK K;refine wpAny_done (by kernel_rfl) ?_ _;rw[ha1,ha0];refine hKK _ _ (Met.intro (hJJ _ _ ?_));exact⟨.pointer (some ⟨w0849.heap.size,0,none⟩),.slice A xs.length c,.int .i64 base,.slice A xs.length c,.int .i64 xs.length,.slice (some ⟨w08.heap.size,0,none⟩) xs.length xs.length,.slice A xs.length c,.int .i64 xs.length,.int .i64 ((xs.length:Int)+1),.slice (some ⟨w.drew.heap.size,0,none⟩) (xs.length+1) (xs.length+1),.map (some w084.heap.size),.agg #[.slice A xs.length c,.int .i64 base,.slice (some ⟨w08.heap.size,0,none⟩) xs.length xs.length,.slice (some ⟨w.drew.heap.size,0,none⟩) (xs.length+1) (xs.length+1),.map (some w084.heap.size)],.pointer (some ⟨w0849.heap.size,0,none⟩),⟨_,_,_,_,rfl,by rw[<- hgg] at hWk;exact hWk,hBk⟩,by kernel_rfl⟩
    exact Yp
   refine Yj (o:=?oo089) ?p089 ?q089 ?r089
   case' p089=>rfl
   .intro K hK
    refine Zc2 h08 rfl rfl (some 34) rfl (λ w089 h089=>hK _ _ ?_);clear hK K;refine wpAny_ready (rs:=[4]) (by kernel_rfl) (by simp) ?_;refine Yj (o:=?oo0894) ?p0894 ?q0894 ?r0894
    case' p0894=>rfl
    .intro K hK
     refine Zc0 h089 hl rfl (.tmp 28) rfl (by rw[ha0];kernel_rfl) (some 29) rfl (λ w0894 h0894=>hK _ _ ?_);clear hK K;obtain⟨gg,hgg,hWk,hBk⟩:=h0894.work (A:=A) (c:=c) (base:=base);refine Zcd ?_;intro a1 ha1;refine wpAny_ready (rs:=[10]) (by kernel_rfl) (by simp) ?_;refine Yj (o:=?oo0894x0) ?p0894x0 ?q0894x0 ?r0894x0
     case' p0894x0=>rfl
     case' r0894x0=>exact Yp
     intro K hK;refine Zaf rfl (some 35) rfl (v:=.agg #[.slice A xs.length c,.int .i64 base,.slice (some ⟨w089.heap.size,0,none⟩) xs.length xs.length,.slice (some ⟨w.drew.heap.size,0,none⟩) (xs.length+1) (xs.length+1),.map (some w08.heap.size)]) (w':=w0894) (by rw[ha1,ha0];kernel_rfl) (hK _ _ ?_);clear hK K;refine wpAny_ready (rs:=[11]) (by kernel_rfl) (by simp) ?_;refine Yj (o:=?oo0894x1) ?p0894x1 ?q0894x1 ?r0894x1
     case' p0894x1=>rfl
     case' r0894x1=>exact Yp
     intro K hK;refine Zaf rfl (some 36) rfl (v:=.pointer (some ⟨w0894.heap.size,0,none⟩)) (w':=w0894.alloc (.cells #[.slice A xs.length c,.int .i64 base,.slice (some ⟨w089.heap.size,0,none⟩) xs.length xs.length,.slice (some ⟨w.drew.heap.size,0,none⟩) (xs.length+1) (xs.length+1),.map (some w08.heap.size)] 185)) (by rw[ha1,ha0];kernel_rfl) (hK _ _ ?_);clear hK K;refine wpAny_ready (rs:=[12]) (by kernel_rfl) (by simp) ?_;refine Yj (o:=?oo0894x2) ?p0894x2 ?q0894x2 ?r0894x2
     case' p0894x2=>rfl
     case' r0894x2=>exact Yp
     intro K hK;refine Zaf rfl (some 6) rfl (v:=.pointer (some ⟨w0894.heap.size,0,none⟩)) (w':=w0894.alloc (.cells #[.slice A xs.length c,.int .i64 base,.slice (some ⟨w089.heap.size,0,none⟩) xs.length xs.length,.slice (some ⟨w.drew.heap.size,0,none⟩) (xs.length+1) (xs.length+1),.map (some w08.heap.size)] 185)) (by rw[ha1,ha0];kernel_rfl) (hK _ _ ?_);clear hK K;refine wpAny_done (by kernel_rfl) ?_ _;rw[ha1,ha0];refine hKK _ _ (Met.intro (hJJ _ _ ?_));exact⟨.pointer (some ⟨w0894.heap.size,0,none⟩),.slice A xs.length c,.int .i64 base,.slice A xs.length c,.int .i64 xs.length,.slice (some ⟨w089.heap.size,0,none⟩) xs.length xs.length,.slice A xs.length c,.int .i64 xs.length,.int .i64 ((xs.length:Int)+1),.slice (some ⟨w.drew.heap.size,0,none⟩) (xs.length+1) (xs.length+1),.map (some w08.heap.size),.agg #[.slice A xs.length c,.int .i64 base,.slice (some ⟨w089.heap.size,0,none⟩) xs.length xs.length,.slice (some ⟨w.drew.heap.size,0,none⟩) (xs.length+1) (xs.length+1),.map (some w08.heap.size)],.pointer (some ⟨w0894.heap.size,0,none⟩),⟨_,_,_,_,rfl,by rw[<- hgg] at hWk;exact hWk,hBk⟩,by kernel_rfl⟩
    exact Yp
   exact Yp
  refine Yj (o:=?oo09) ?p09 ?q09 ?r09
  case' p09=>rfl
  .intro K hK
   refine Zc2 h0 rfl rfl (some 34) rfl (λ w09 h09=>hK _ _ ?_);clear hK K;refine wpAny_ready (rs:=[4,8]) (by kernel_rfl) (by simp) ?_;refine Yj (o:=?oo094) ?p094 ?q094 ?r094
   case' p094=>rfl
   .intro K hK
    refine Zc0 h09 hl rfl (.tmp 28) rfl (by rw[ha0];kernel_rfl) (some 29) rfl (λ w094 h094=>hK _ _ ?_);clear hK K;refine wpAny_ready (rs:=[8]) (by kernel_rfl) (by simp) ?_;refine Yj (o:=?oo0948) ?p0948 ?q0948 ?r0948
    case' p0948=>rfl
    .intro K hK
     refine Zc1 h094 hl rfl (.tmp 32) rfl (by rw[ha0];kernel_rfl) (some 33) rfl (λ w0948 h0948=>hK _ _ ?_);clear hK K;obtain⟨gg,hgg,hWk,hBk⟩:=h0948.work (A:=A) (c:=c) (base:=base);refine Zcd ?_;intro a1 ha1;refine wpAny_ready (rs:=[10]) (by kernel_rfl) (by simp) ?_;refine Yj (o:=?oo0948x0) ?p0948x0 ?q0948x0 ?r0948x0
     case' p0948x0=>rfl
     case' r0948x0=>exact Yp
     intro K hK;refine Zaf rfl (some 35) rfl (v:=.agg #[.slice A xs.length c,.int .i64 base,.slice (some ⟨w09.heap.size,0,none⟩) xs.length xs.length,.slice (some ⟨w094.heap.size,0,none⟩) (xs.length+1) (xs.length+1),.map (some w.drew.heap.size)]) (w':=w0948) (by rw[ha1,ha0];kernel_rfl) (hK _ _ ?_);clear hK K;refine wpAny_ready (rs:=[11]) (by kernel_rfl) (by simp) ?_;refine Yj (o:=?oo0948x1) ?p0948x1 ?q0948x1 ?r0948x1
     case' p0948x1=>rfl
     case' r0948x1=>exact Yp
     intro K hK;refine Zaf rfl (some 36) rfl (v:=.pointer (some ⟨w0948.heap.size,0,none⟩)) (w':=w0948.alloc (.cells #[.slice A xs.length c,.int .i64 base,.slice (some ⟨w09.heap.size,0,none⟩) xs.length xs.length,.slice (some ⟨w094.heap.size,0,none⟩) (xs.length+1) (xs.length+1),.map (some w.drew.heap.size)] 185)) (by rw[ha1,ha0];kernel_rfl) (hK _ _ ?_);clear hK K;refine wpAny_ready (rs:=[12]) (by kernel_rfl) (by simp) ?_;refine Yj (o:=?oo0948x2) ?p0948x2 ?q0948x2 ?r0948x2
     case' p0948x2=>rfl
     case' r0948x2=>exact Yp
     intro K hK;refine Zaf rfl (some 6) rfl (v:=.pointer (some ⟨w0948.heap.size,0,none⟩)) (w':=w0948.alloc (.cells #[.slice A xs.length c,.int .i64 base,.slice (some ⟨w09.heap.size,0,none⟩) xs.length xs.length,.slice (some ⟨w094.heap.size,0,none⟩) (xs.length+1) (xs.length+1),.map (some w.drew.heap.size)] 185)) (by rw[ha1,ha0];kernel_rfl) (hK _ _ ?_);clear hK K;refine wpAny_done (by kernel_rfl) ?_ _;rw[ha1,ha0];refine hKK _ _ (Met.intro (hJJ _ _ ?_));exact⟨.pointer (some ⟨w0948.heap.size,0,none⟩),.slice A xs.length c,.int .i64 base,.slice A xs.length c,.int .i64 xs.length,.slice (some ⟨w09.heap.size,0,none⟩) xs.length xs.length,.slice A xs.length c,.int .i64 xs.length,.int .i64 ((xs.length:Int)+1),.slice (some ⟨w094.heap.size,0,none⟩) (xs.length+1) (xs.length+1),.map (some w.drew.heap.size),.agg #[.slice A xs.length c,.int .i64 base,.slice (some ⟨w09.heap.size,0,none⟩) xs.length xs.length,.slice (some ⟨w094.heap.size,0,none⟩) (xs.length+1) (xs.length+1),.map (some w.drew.heap.size)],.pointer (some ⟨w0948.heap.size,0,none⟩),⟨_,_,_,_,rfl,by rw[<- hgg] at hWk;exact hWk,hBk⟩,by kernel_rfl⟩
    exact Yp
   refine Yj (o:=?oo098) ?p098 ?q098 ?r098
   case' p098=>rfl
   .intro K hK
    refine Zc1 h09 hl rfl (.tmp 32) rfl (by rw[ha0];kernel_rfl) (some 33) rfl (λ w098 h098=>hK _ _ ?_);clear hK K;refine wpAny_ready (rs:=[4]) (by kernel_rfl) (by simp) ?_;refine Yj (o:=?oo0984) ?p0984 ?q0984 ?r0984
    case' p0984=>rfl
    .intro K hK
     refine Zc0 h098 hl rfl (.tmp 28) rfl (by rw[ha0];kernel_rfl) (some 29) rfl (λ w0984 h0984=>hK _ _ ?_);clear hK K;obtain⟨gg,hgg,hWk,hBk⟩:=h0984.work (A:=A) (c:=c) (base:=base);refine Zcd ?_;intro a1 ha1;refine wpAny_ready (rs:=[10]) (by kernel_rfl) (by simp) ?_;refine Yj (o:=?oo0984x0) ?p0984x0 ?q0984x0 ?r0984x0
     case' p0984x0=>rfl
     case' r0984x0=>exact Yp
     intro K hK;refine Zaf rfl (some 35) rfl (v:=.agg #[.slice A xs.length c,.int .i64 base,.slice (some ⟨w098.heap.size,0,none⟩) xs.length xs.length,.slice (some ⟨w09.heap.size,0,none⟩) (xs.length+1) (xs.length+1),.map (some w.drew.heap.size)]) (w':=w0984) (by rw[ha1,ha0];kernel_rfl) (hK _ _ ?_);clear hK K;refine wpAny_ready (rs:=[11]) (by kernel_rfl) (by simp) ?_;refine Yj (o:=?oo0984x1) ?p0984x1 ?q0984x1 ?r0984x1
     case' p0984x1=>rfl
     case' r0984x1=>exact Yp
     intro K hK;refine Zaf rfl (some 36) rfl (v:=.pointer (some ⟨w0984.heap.size,0,none⟩)) (w':=w0984.alloc (.cells #[.slice A xs.length c,.int .i64 base,.slice (some ⟨w098.heap.size,0,none⟩) xs.length xs.length,.slice (some ⟨w09.heap.size,0,none⟩) (xs.length+1) (xs.length+1),.map (some w.drew.heap.size)] 185)) (by rw[ha1,ha0];kernel_rfl) (hK _ _ ?_);clear hK K;refine wpAny_ready (rs:=[12]) (by kernel_rfl) (by simp) ?_;refine Yj (o:=?oo0984x2) ?p0984x2 ?q0984x2 ?r0984x2
     case' p0984x2=>rfl
     case' r0984x2=>exact Yp
     intro K hK;refine Zaf rfl (some 6) rfl (v:=.pointer (some ⟨w0984.heap.size,0,none⟩)) (w':=w0984.alloc (.cells #[.slice A xs.length c,.int .i64 base,.slice (some ⟨w098.heap.size,0,none⟩) xs.length xs.length,.slice (some ⟨w09.heap.size,0,none⟩) (xs.length+1) (xs.length+1),.map (some w.drew.heap.size)] 185)) (by rw[ha1,ha0];kernel_rfl) (hK _ _ ?_);clear hK K;refine wpAny_done (by kernel_rfl) ?_ _;rw[ha1,ha0];refine hKK _ _ (Met.intro (hJJ _ _ ?_));exact⟨.pointer (some ⟨w0984.heap.size,0,none⟩),.slice A xs.length c,.int .i64 base,.slice A xs.length c,.int .i64 xs.length,.slice (some ⟨w098.heap.size,0,none⟩) xs.length xs.length,.slice A xs.length c,.int .i64 xs.length,.int .i64 ((xs.length:Int)+1),.slice (some ⟨w09.heap.size,0,none⟩) (xs.length+1) (xs.length+1),.map (some w.drew.heap.size),.agg #[.slice A xs.length c,.int .i64 base,.slice (some ⟨w098.heap.size,0,none⟩) xs.length xs.length,.slice (some ⟨w09.heap.size,0,none⟩) (xs.length+1) (xs.length+1),.map (some w.drew.heap.size)],.pointer (some ⟨w0984.heap.size,0,none⟩),⟨_,_,_,_,rfl,by rw[<- hgg] at hWk;exact hWk,hBk⟩,by kernel_rfl⟩
    exact Yp
   exact Yp
  exact Yp
 case rest =>
  obtain⟨g,gF,gA,m,rfl,hW,hb⟩:=hcut;have Hb0:=Ya hb0;have Hb1:=Ya hb1;clear hb0 hb1;have hzc:=hb.size;go_wp2_with fail
  go_loopw [7,39] (λ tw i wr=>∃(k n:Nat)(t:Bool)(F:List Int)(f:ByteArray->Option Int),k<=xs.length/\n<=k/\i=.int .i64 k/\tw=.bool t/\Tab xs k f t/\S.firstErr xs=S.firstErr (xs.drop k) /\
   (∀(j:Nat)(x:S.Item),j<k->xs[j]?=some x->F.getD j 0=S.startForm x)/\(∀j,k<=j->F.getD j 0=0) /\
   Work wr w.heap.size g gF gA m n A c xs base F (Ys (xs.length+1) 0) f/\Below w.heap.size w wr) (λ _ i _=>xs.length-(intOf i).toNat)
  case atStart =>
   refine⟨0,0,false,_,_,by omega,by omega,rfl,rfl,Tab.start xs,by simp,λ j x hj=>by omega,λ j _=>?_,hW,hb⟩;by_cases hj:j<xs.length <;> simp[Ye,List.getElem?_replicate,hj]
  case round =>
   obtain⟨k,n,t,F,f,hk,hn,rfl,rfl,hT,hfe,hF1,hF2,hWr,hbk⟩:=hrel;have HT:=Ya hT;have Hfe:=Ya hfe;have HF1:=Ya hF1;have HF2:=Ya hF2;have hzr:=hbk.size;clear hT hfe hF1 hF2 hW hb;by_cases hlt:k<xs.length
   .obtain⟨b,off,x,rfl,hbA,hx,hc0,hc1,hc2,hc3,hc4,hc5,hc6,hc7,hw0,hw1⟩:=(hi.below hbk).at_ hlt
    have Hx:=Ya hx;have Hd:=Ya (Zk4 hx);have hls:=Hlab.out k x hx;have hbr:b<wr.heap.size:=by omega
    clear hx;obtain⟨kind,⟨op,d,a,b',imm⟩,lab,wd⟩:=x;simp only at hc0 hc1 hc2 hc3 hc4 hc5 hc6 hc7 hw0 hw1 hls;have hbX:Below wr.heap.size wr (wr.alloc (.cells #[.int .i64 kind,.int .i64 op,.int .i64 d,.int .i64 a,.int .i64 b',.int .i64 imm,.string lab,.int .u32 wd] 74)):=(Below.refl _ _).alloc (Yb _) _;by_cases he:S.chkItem ⟨kind,⟨op,d,a,b',imm⟩,lab,wd⟩=0
    .have hd:=Zvf he
     have He:=Ya he;clear he;go_wp2_with fail
     refine(Znw _ _ _ _ _ _ _ _ _).mono ?_;rintro e w1 ⟨rfl,hb1⟩;have hb01:Below wr.heap.size wr w1:=hbX.trans (hb1.mono (by simp));have hz1:wr.heap.size<w1.heap.size:=by have:=hb1.size;simp at this;omega
     have hX:∀(j:Nat)(v:Value),(#[Value.int .i64 kind,.int .i64 op,.int .i64 d,.int .i64 a,.int .i64 b',.int .i64 imm,.string lab,.int .u32 wd])[j]?=some v->w1.cell? ⟨wr.heap.size,j,none⟩=some v:=by
      intro j v hv;rw[hb1.cell (p:=⟨_,j,none⟩) (by simp),<- hv];exact Zau _ _ _ _
     have hX0:=hX 0 (.int .i64 kind) rfl;have hX6:=hX 6 (.string lab) rfl;have hW1:=hWr.below hb01;obtain⟨p0,p1,p2,p3,p4⟩:=hW1.cells;obtain⟨q1,q2⟩:=hW1.form hlt;obtain⟨r1,r2,r3,r4⟩:=hW1.lts;have hfe':Hid (S.firstErr xs=S.firstErr (xs.drop (k+1))):=Ya (by rw[Hfe.out,Hd.out,if_neg (by rw[He.out];simp)]);have hbB:Below w.heap.size w w1:=hbk.trans (hb01.mono hzr);clear hX Hd Hfe hbX;by_cases k34:kind=3\/kind=4
     .rcases k34 with rfl|rfl
      all_goals
       obtain⟨hW3,hb3⟩:=hW1.grown k 1 rfl;have hne:(⟨gF,k,none⟩:Addr)≠⟨wr.heap.size,0,none⟩:=by
        intro e
        injection e with e _ _
        have:=hWr.lts.2.1;omega
       have hX0':=(World.cell?_setCell_other (w:=w1) (v:=.int .i64 1) (h:=hne)).trans hX0;go_wp2_with fail
       go_roundw
       case rel =>
        refine⟨k+1,n,t,F.set k 1,f,by omega,by omega,by go_num,rfl,HT.out.other Hx.out (by simp),hfe'.out,λ j x hj hjx=>?_,λ j hj=>?_,hW3,hbB.trans hb3⟩
        .by_cases hjk:j=k
         .subst hjk
          rw[Hx.out] at hjx;cases hjx;rw[Zbq (by have:=hW1.forms.1;simp at this;omega)];simp[S.startForm]
         .rw[Zal (λ e=>hjk e.symm)]
          exact HF1.out j x (by omega) hjx
        .rw[Zal (by omega)]
         exact HF2.out j (by omega)
       case measure=>simp[intOf];omega
     .have hn3:=Zcm (a:=kind) (b:=3) (by omega)
      have hn4:=Zcm (a:=kind) (b:=4) (by omega);by_cases k2:kind=2
      .subst k2
       have hlk:∀u:Ext w1,(Instr.lookup 179 (.map (some m)) (.string lab) true).run Tryz.prog u.val=.ok (.tuple #[.int .i64 ((f lab).getD 0),.bool (f lab).isSome]) u.val:=λ u=>(hW1.labels.below u.property).lookOk hls
       have htab:=Ya (HT.out.label Hx.out rfl);generalize (f lab).isSome=ok at *;go_wp2_with fail
       refine Z9 (by kernel_rfl) (by kernel_rfl) ?_;have hE:=Zu w1
       repeat (first|go_big_quiet_step (fail))
       refine wpQuiet_nil ?_;intro w2 hx2;have hb2:=Zcy hx2;clear hE hx2;have hW2:=hW1.below hb2;have hz2:=hb2.size;have hX6':w2.cell? ⟨wr.heap.size,6,none⟩=some (.string lab):=by rw[hb2.cell (p:=⟨_,6,none⟩) (by simpa using hz1)];exact hX6
       clear p0 p1 p2 p3 p4 q1 q2;obtain⟨p0,p1,p2,p3,p4⟩:=hW2.cells;obtain⟨s1,s2,s3,s4⟩:=hW2.lts;have hz3:wr.heap.size<w2.heap.size:=by omega
       cases t
       all_goals
        go_wp2_with fail
        refine Zm 7 (by kernel_rfl) (by kernel_rfl) ?_;have hE:=Zu w2;simp only[List.take_succ_cons,List.take_zero,List.drop_succ_cons,List.drop_zero]
        repeat (first|go_big_quiet_step (fail))
        refine wpQuiet_nil ?_;intro w3 hx3;have hb3:=Zcy hx3;clear hE hx3;have hW3:=hW2.below hb3;refine Ze6 rfl rfl (.tmp 83) (.tmp 85) (.tmp 86) rfl m n _ rfl hW3.labels (by omega) lab k rfl rfl hls (Z6l (by omega)) ?_;intro w4 hm4 hg4;have hm4':=hm4.mono (n':=n+1) (by split <;> omega);obtain⟨hW4,hb4⟩:=hW3.told hm4' hg4;have hbE:Below w.heap.size w w4:=((hbB.trans (hb2.mono (by omega))).trans (hb3.mono (by omega))).trans hb4;go_wp2_with fail
        go_roundw
        case rel =>
         refine⟨k+1,n+1,_,F,_,by omega,by omega,by go_num,rfl,htab.out,hfe'.out,λ j x hj hjx=>?_,λ j hj=>HF2.out j (by omega),hW4,hbE⟩;by_cases hjk:j=k
         .subst hjk
          rw[Hx.out] at hjx;cases hjx;rw[HF2.out j (by omega)];simp[S.startForm]
         .exact HF1.out j x (by omega) hjx
        case measure=>simp[intOf];omega
      .have hn2:=Zcm k2
       go_wp2_with fail
       go_roundw
       case rel =>
        refine⟨k+1,n,t,F,f,by omega,by omega,by go_num,rfl,HT.out.other Hx.out k2,hfe'.out,λ j x hj hjx=>?_,λ j hj=>HF2.out j (by omega),hW1,hbB⟩;by_cases hjk:j=k
        .subst hjk
         rw[Hx.out] at hjx;cases hjx;rw[HF2.out j (by omega)];simp[S.startForm];omega
        .exact HF1.out j x (by omega) hjx
       case measure=>simp[intOf];omega
    .have hd:=Zcm he
     have He:=Ya he;clear he;go_wp2_with fail
     refine(Znw _ _ _ _ _ _ _ _ _).mono ?_;rintro e w1 ⟨rfl,hb1⟩;go_wp2_with fail
     rw[Exit.noGoto_ret]
     go_ret2
     refine⟨hbk.trans ((hbX.trans (hb1.mono (by simp))).mono hzr),.inl ⟨_,He.out,rfl,.inl ⟨He.out,.inr (.inl ⟨Hb0.out,Hb1.out,?_,?_⟩),rfl⟩⟩⟩
     .rw[Hfe.out,Hd.out,if_pos He.out];exact He.out
     .rw[Hfe.out,Hd.out,if_pos He.out]
   .have hkl:k=xs.length:=by omega
    subst hkl;have hfe0:Hid (S.firstErr xs=0):=Ya (by rw[Hfe.out,List.drop_length];rfl);have hFF:F=xs.map S.startForm:=by
     have hFl:F.length=xs.length:=by have:=hWr.forms.1;simpa using this
     refine Zfp (by simp[hFl]) λ j=>?_
     by_cases hj:j<xs.length
     .rw[HF1.out j _ hj (Yf hj)]
      simp[Ye,Yf hj]
     .rw[HF2.out j (by omega)]
      simp[Ye,hj]
    subst hFF;clear HF1 HF2 Hfe
    cases t
    .obtain⟨hfl,hnd⟩:=HT.out.done
     subst hfl;have Hnd:=Ya hnd;clear hnd;obtain⟨wA,hwA⟩:=Yx wr;subst hwA;go_wp2_with fail
     go_loopw [91] (λ i wr=>∃k:Nat,k<=xs.length/\i=.int .i64 k/\(∀(j:Nat)(x:S.Item),j<k->xs[j]?=some x->S.named x=true->0<=S.stands xs x.label)/\Below wA.heap.size wA wr) (λ i _=>xs.length-(intOf i).toNat)
     case atStart=>exact⟨0,by omega,rfl,λ j x hj=>by omega,Below.refl _ _⟩
     case round =>
      obtain⟨k,hk,rfl,hnm,hbk2⟩:=hrel;have Hnm:=Ya hnm;have hWr2:=hWr.below hbk2;have hzr2:=hbk2.size;have hbw:=hbk.trans (hbk2.mono hzr);clear hnm;by_cases hlt:k<xs.length
      .obtain⟨b,off,x,rfl,hbA,hx,hc0,hc1,hc2,hc3,hc4,hc5,hc6,hc7,hw0,hw1⟩:=(hi.below hbw).at_ hlt
       have Hx:=Ya hx;have hls:=Hlab.out k x hx;have hbr:b<wr.heap.size:=by omega
       clear hx;obtain⟨kind,⟨op,d,a,b',imm⟩,lab,wd⟩:=x;simp only at hc0 hc1 hc2 hc3 hc4 hc5 hc6 hc7 hw0 hw1 hls;have hbX:Below wr.heap.size wr (wr.alloc (.cells #[.int .i64 kind,.int .i64 op,.int .i64 d,.int .i64 a,.int .i64 b',.int .i64 imm,.string lab,.int .u32 wd] 74)):=(Below.refl _ _).alloc (Yb _) _;have hWX:=hWr2.below hbX;obtain⟨p0,p1,p2,p3,p4⟩:=hWX.cells;obtain⟨l1,l2,l3,l4⟩:=hWr2.lts;obtain⟨s1,s2,s3,s4⟩:=hWX.lts;have hX:∀(j:Nat)(v:Value),(#[Value.int .i64 kind,.int .i64 op,.int .i64 d,.int .i64 a,.int .i64 b',.int .i64 imm,.string lab,.int .u32 wd])[j]?=some v->(wr.alloc (.cells #[.int .i64 kind,.int .i64 op,.int .i64 d,.int .i64 a,.int .i64 b',.int .i64 imm,.string lab,.int .u32 wd] 74)).cell? ⟨wr.heap.size,j,none⟩=some v:=by
        intro j v hv;rw[<- hv];exact Zau _ _ _ _
       have hX0:=hX 0 (.int .i64 kind) rfl;have hX1:=hX 1 (.int .i64 op) rfl;have hX2:=hX 2 (.int .i64 d) rfl;have hX3:=hX 3 (.int .i64 a) rfl;have hX4:=hX 4 (.int .i64 b') rfl;have hX5:=hX 5 (.int .i64 imm) rfl;have hX6:=hX 6 (.string lab) rfl;have hX7:=hX 7 (.int .u32 wd) rfl;have hzX:wr.heap.size<(wr.alloc (.cells #[.int .i64 kind,.int .i64 op,.int .i64 d,.int .i64 a,.int .i64 b',.int .i64 imm,.string lab,.int .u32 wd] 74)).heap.size:=by simp
       clear hX;go_wp2_with fail
       generalize wr.alloc (.cells #[.int .i64 kind,.int .i64 op,.int .i64 d,.int .i64 a,.int .i64 b',.int .i64 imm,.string lab,.int .u32 wd] 74)=wX at *;have hlk:∀u:Ext wX,(Instr.lookup 179 (.map (some m)) (.string lab) true).run Tryz.prog u.val=.ok (.tuple #[.int .i64 ((Ze5 xs lab).getD 0),.bool (Ze5 xs lab).isSome]) u.val:=λ u=>(hWX.labels.below u.property).lookOk hls
       have hok:(Ze5 xs lab).isSome=decide (0<=S.stands xs lab):=by
        unfold Ze5;by_cases h:S.stands xs lab<0
        .rw[if_pos h];simp;omega
        .rw[if_neg h];simp;omega
       have Hok:=Ya hok;clear hok;generalize hokk:(Ze5 xs lab).isSome=ok at *;generalize (Ze5 xs lab).getD 0=q at *;clear hokk;refine Z9 (by kernel_rfl) (by kernel_rfl) ?_;have hE:=Zu wX
       repeat (first|go_big_quiet_step (fail))
       refine wpQuiet_nil ?_;intro w2 hx2;have hb2:=Zcy hx2;clear hE hx2 hlk;have hY:∀j:Nat,w2.cell? ⟨wr.heap.size,j,none⟩=wX.cell? ⟨wr.heap.size,j,none⟩:=λ j=>hb2.cell (p:=⟨_,j,none⟩) hzX
       rw[<- hY] at hX0 hX1 hX2 hX3 hX4 hX5 hX6 hX7;have hz2:=hb2.size;have hbw2:Below w.heap.size w w2:=hbw.trans ((hbX.trans (hb2.mono (by omega))).mono (by omega));have hbA2:Below wA.heap.size wA w2:=hbk2.trans ((hbX.trans (hb2.mono (by omega))).mono (by omega));have hz3:wr.heap.size<w2.heap.size:=by omega
       clear hY p0 p1 p2 p3 p4 hbX hb2 hWX;go_wp2_with fail
       refine(Znv _ _ _ _ _ _ _ _ _).mono ?_;rintro e w3 ⟨rfl,hb3⟩;have hbw3:=hbw2.trans (hb3.mono (by omega));have hbA3:=hbA2.trans (hb3.mono (by omega));generalize hnm:S.named ⟨kind,⟨op,d,a,b',imm⟩,lab,wd⟩=nm;have HN:=Ya hnm;clear hnm hX0 hX1 hX2 hX3 hX4 hX5 hX6 hX7
       cases nm
       .go_wp2_with fail
        go_roundw
        case rel =>
         refine⟨k+1,by omega,by go_num,λ j y hj hjy hn=>?_,hbA3⟩;by_cases hjk:j=k
         .subst hjk
          rw[Hx.out] at hjy;cases hjy;rw[HN.out] at hn;cases hn
         .exact Hnm.out j y (by omega) hjy hn
        case measure=>simp[intOf];omega
       .cases ok
        .go_wp2_with fail
         rw[Exit.noGoto_ret]
         go_ret2
         refine⟨hbw3,.inl ⟨_,by simp,rfl,.inl ⟨by simp,.inr (.inr (.inr (.inl ⟨Hb0.out,Hb1.out,hfe0.out,Hnd.out,⟨k,_,Hx.out,HN.out,?_⟩,rfl⟩))),rfl⟩⟩⟩;have:=Hok.out;simp at this;exact this
        .go_wp2_with fail
         go_roundw
         case rel =>
          refine⟨k+1,by omega,by go_num,λ j y hj hjy hn=>?_,hbA3⟩;by_cases hjk:j=k
          .subst hjk
           rw[Hx.out] at hjy;cases hjy;have:=Hok.out
           simpa using this
          .exact Hnm.out j y (by omega) hjy hn
         case measure=>simp[intOf];omega
      .have hkl:k=xs.length:=by omega
       subst hkl;have hmiss:¬S.Miss xs:=by
        rintro⟨j,y,hy,hn,hs⟩;have:=Hnm.out j y (Yg.1 hy).1 hy hn;omega
       have Hmiss:=Ya hmiss;have hchk:S.CheckRes xs base 0:=.inr (.inr (.inr (.inr ⟨Hb0.out,Hb1.out,hfe0.out,Hnd.out,hmiss,rfl⟩)));have Hchk:=Ya hchk;have HTs:=Ya HT.out;clear hmiss hchk Hnm HT hWr hbk;have hWs:=hWr2;have hI0:=Zrt xs base;have HI0:=Ya hI0;clear hWr2 hI0 hbk2;go_wp2_with fail
       go_step3
       go_wp2_with fail
       go_loopg [] (Zs9 (xs.map S.startForm)) (λ gk wr=>∃F T,Zs9 F<=gk/\S.Inv xs base F/\Work wr w.heap.size g gF gA m n A c xs base F T (Ze5 xs)/\Below w.heap.size w wr)
       case atStart=>exact⟨_,_,Yb _,HI0.out,hWs,hbw⟩
       case round =>
        obtain⟨F,T,hroom,hInv,hWk,hbk⟩:=hrel;have HInv:=Ya hInv;have hzk:=hbk.size;clear hInv hWs hbw HI0;obtain⟨wo,rfl⟩:∃wo:World,wo=wr:=⟨_,rfl⟩
        go_wp2_with fail
        refine(Zto _ hWk (hi.below hbk) hzk HInv.out.1 hl Hb0.out Hb1.out Hw.out Hlab.out (λ k x hx hk=>HTs.out.shut hx hk) (by omega)).mono ?_;rintro e w1 ⟨hb1,⟨rfl,htot,hW1⟩|⟨rfl,htot⟩⟩
        .have Htot:=Ya htot
         have hbA1:=hbk.trans hb1;have hzA1:=hbA1.size;clear htot hWk;go_wp2_with fail
         go_loopw [117,17] (λ i t wr=>∃(k:Nat)(mb:Bool)(F1:List Int),k<=xs.length/\i=.int .i64 k/\t=.bool mb/\S.Inv xs base F1/\(∀j,k<=j->F1.getD j 0=F.getD j 0) /\
          (mb=false->F1=F/\∀(j:Nat)(x:S.Item),j<k->xs[j]?=some x->S.fit xs F base j x=true)/\(mb=true->Zs9 F1<Zs9 F) /\
          Work wr w.heap.size g gF gA m n A c xs base F1 (Zfq xs F base (xs.length+1)) (Ze5 xs)/\Below w.heap.size w wr) (λ i _ _=>xs.length-(intOf i).toNat)
         case atStart=>exact⟨0,false,F,by omega,rfl,rfl,HInv.out,λ _ _=>rfl,λ _=>⟨rfl,λ j x hj=>by omega⟩,(λ h=>by cases h),hW1,hbA1⟩
         case round =>
          obtain⟨k,mb,F1,hk,rfl,rfl,hI1,hsame,hmf,hmt,hWi,hbi⟩:=hrel;have HI1:=Ya hI1;have Hsame:=Ya hsame;have Hmf:=Ya hmf;have Hmt:=Ya hmt;have hzi:=hbi.size;clear hI1 hsame hmf hmt hW1;by_cases hlt:k<xs.length
          .have hx:=Ya (Yf hlt)
           generalize xs[k]=x at hx;have hnmx:=Ya (λ(hn:S.named x=true)=>(Int.not_lt.1 λ hs=>Hmiss.out ⟨k,x,hx.out,hn,hs⟩:0<=S.stands xs x.label));have hltF:k<F1.length:=by rw[HI1.out.1.1];exact hlt
           go_wp2_with fail
           refine(Ztl _ hWi (hi.below hbi) hzi k x hx.out HInv.out.1 (Hsame.out k (Yb _)) hnmx.out (Hlab.out k x hx.out) hl Hb0.out Hb1.out Hw.out).mono ?_;rintro e w2 ⟨F',rfl,hF',hW2,hb2⟩;have hbi2:=hbi.trans hb2;generalize hft:S.fit xs F base k x=ft at *;have Hft:=Ya hft;clear hft hWi
           cases ft
           .rw[if_neg (by simp)] at hF'
            subst hF';have h2:=Zmj HInv.out.1 hx.out Hft.out;rw[<- Hsame.out k (Yb _)] at h2;have hr:=Zxr (F:=F1) hltF (by omega);have hI2:=Ya (Zxq HInv.out HI1.out Hw.out hx.out (Hsame.out k (Yb _)) Hft.out);have hr2:Hid (Zs9 (F1.set k (F1.getD k 0+1))<Zs9 F):=Ya (by
             cases mb
             .rw[(Hmf.out (by simp)).1] at hr⊢;exact hr
             .have:=Hmt.out (by simp);omega)
            clear h2 hr
            cases mb
            all_goals
             go_wp2_with fail
             go_roundw
             case rel =>
              refine⟨k+1,true,_,by omega,by go_num,rfl,hI2.out,λ j hj=>?_,(λ h=>by cases h),λ _=>hr2.out,hW2,hbi2⟩;rw[Zal (by omega)];exact Hsame.out j (by omega)
             case measure=>simp[intOf];omega
           .rw[if_pos rfl] at hF'
            subst hF'
            cases mb
            .go_wp2_with fail
             go_roundw
             case rel =>
              refine⟨k+1,false,_,by omega,by go_num,rfl,HI1.out,λ j hj=>Hsame.out j (by omega),λ _=>⟨(Hmf.out (by simp)).1,λ j y hj hy=>?_⟩,(λ h=>by cases h),hW2,hbi2⟩;by_cases hjk:j=k
              .subst hjk
               rw[hx.out] at hy;cases hy;exact Hft.out
              .exact(Hmf.out (by simp)).2 j y (by omega) hy
             case measure=>simp[intOf];omega
            .go_wp2_with fail
             go_roundw
             case rel=>exact⟨k+1,true,_,by omega,by go_num,rfl,HI1.out,λ j hj=>Hsame.out j (by omega),(λ h=>by cases h),λ _=>Hmt.out (by simp),hW2,hbi2⟩
             case measure=>simp[intOf];omega
          .have hkl:k=xs.length:=by omega
           subst hkl
           cases mb
           .obtain⟨rfl,hall⟩:=Hmf.out (by simp)
            have Hall:=Ya hall;clear hall;go_wp2_with fail
            try rw[Exit.noGoto_ret]
            go_ret2
            refine⟨hbi,.inr ⟨g,gF,gA,m,n,_,by omega,rfl,.inr (.inr ⟨Hchk.out,rfl,HInv.out,⟨HInv.out.1,λ i x hx=>Hall.out i x (Yg.1 hx).1 hx⟩,Htot.out⟩),hWi⟩⟩
           .have hr:=Hmt.out (by simp)
            go_wp2_with fail
            go_roundg (Zs9 F1)
            case rel=>exact⟨F1,_,Yb _,HI1.out,hWi,hbi⟩
            case measure=>omega
        .go_wp2_with fail
         rw[Exit.noGoto_ret]
         go_ret2
         exact⟨hbk.trans hb1,.inl ⟨_,by simp,rfl,.inr (.inl ⟨Hchk.out,rfl,rfl,F,HInv.out,htot⟩)⟩⟩
    .go_wp2_with fail
     rw[Exit.noGoto_ret]
     go_ret2
     exact⟨hbk,.inl ⟨_,by simp,rfl,.inl ⟨by simp,.inr (.inr (.inl ⟨Hb0.out,Hb1.out,hfe0.out,HT.out.twice,rfl⟩)),rfl⟩⟩⟩
