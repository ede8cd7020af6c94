/- Parts. -/
import Derived.Test.YtcjhmiijbojgeaaGreatDoorZUCd
import Derived.Test.YtcjhmiijbojgeaaGreatDoorZMachW
import Derived.Deep.LoopGhost
set_option linter.all false
set_option maxHeartbeats 8000000
open Go.Lib renaming hid->Ya
open Nat renaming le_refl->Yc
open List renaming getElem?_eq_getElem->Ye,getElem?_eq_some_iff->Yg,getD_eq_getElem?_getD->Yh,replicate->Y6
open Go.AllReady renaming cons->Yf,nil->Yi
namespace Go.Proofs.YtcjhmiijbojgeaaGreatDoor
open S Go.Proofs.Tryz Go.RowKit
set_option maxRecDepth 100000
def Zez (w:World)(A:Option Addr)(c:Nat)(xs:List S.Item)(base:Int)(e:Ending)(w':World):Prop :=
 Below w.heap.size w w'/\((∃r,r≠0/\e=.returned (.tuple #[.pointer none,.int .i64 r])/\FormsRes xs base r []) \/
  (∃(g gF gA m n:Nat)(F:List Int),n<=1048576/\e=.returned (.tuple #[.pointer (some ⟨g,0,none⟩),.int .i64 0])/\FormsRes xs base 0 F /\
   Work w' w.heap.size g gF gA m n A c xs base F (Zfe xs F base (xs.length+1)) (Zen xs)))
theorem Zjk (w:World){A:Option Addr}{c:Nat}{xs:List S.Item}{base:Int}(hi:Items w w.heap.size A xs)(i8:0<=base)(R:base<=67108864)(hl:xs.length<=1048576)
 (e4:∀(k:Nat)(x:S.Item),xs[k]?=some x->x.label.size<=maxLen) (hw:∀x∈xs,0<=x.word/\x.word<=4294967295) :
 Calls prog 171 #[.slice A xs.length c,.int .i64 base] w (Zez w A c xs base):=by
 have b8:=Ya e4;have Hw:=Ya hw;clear e4 hw;go_enter func171,ntmps171
 go_wp2_with fail
 go_step3
 go_upto_region 3 with fail
 go_cut [6] from 25 to 36 (λ s6 wc=>∃g gF gA m,s6=.pointer (some ⟨g,0,none⟩)/\Work wc w.heap.size g gF gA m 0 A c xs base (Y6 xs.length 0) (Y6 (xs.length+1) 0) (λ _=>none)/\Below w.heap.size w wc)
 case first JJ KK hJJ hKK =>
  refine wp_region_any (by kernel_rfl) ?_;change wpAny _ _ _ _ _ _ _ (World.drew _);have m1:IntKind.i64.wrap ((xs.length:Int)+1)=(xs.length:Int)+1:=by rw[IntWalk.i64_in _ (by omega)]
  refine wpAny_take (i:=0) (v:=.slice A xs.length c) rfl (by kernel_rfl) (by kernel_rfl) (by kernel_rfl) (λ _ _ _ h=>h) (Or.inl ⟨by rfl,λ w=>rfl⟩) ?_;refine wpAny_take (i:=1) (v:=.int .i64 base) rfl (by kernel_rfl) (by kernel_rfl) (by kernel_rfl) (λ _ _ _ h=>h) (Or.inl ⟨by rfl,λ w=>rfl⟩) ?_;refine wpAny_take (i:=2) (v:=.slice A xs.length c) rfl (by kernel_rfl) (by kernel_rfl) (by kernel_rfl) (λ _ _ _ h=>h) (Or.inl ⟨by rfl,λ w=>rfl⟩) ?_;refine wpAny_take (i:=3) (v:=.int .i64 xs.length) rfl (by kernel_rfl) (by kernel_rfl) (by kernel_rfl) (λ _ _ _ h=>h) (Or.inl ⟨by rfl,λ w=>by go_simp⟩) ?_;refine wpAny_take (i:=5) (v:=.slice A xs.length c) rfl (by kernel_rfl) (by kernel_rfl) (by kernel_rfl) (λ _ _ _ h=>h) (Or.inl ⟨by rfl,λ w=>rfl⟩) ?_;refine wpAny_take (i:=6) (v:=.int .i64 xs.length) rfl (by kernel_rfl) (by kernel_rfl) (by kernel_rfl) (λ _ _ _ h=>h) (Or.inl ⟨by rfl,λ w=>by go_simp⟩) ?_;refine wpAny_take (i:=7) (v:=.int .i64 ((xs.length:Int)+1)) rfl (by kernel_rfl) (by kernel_rfl) (by kernel_rfl) (λ _ _ _ h=>h) (Or.inl ⟨by rfl,λ w=>by go_simp⟩) ?_;have h0:=AsSt.start w w.drew xs.length (Zfh w);clear m1;refine Zcd ?_;intro a0 r;refine wpAny_ready (rs:=[4,8,9]) (by kernel_rfl) (by simp) ?_;refine Yf (o:=?oo04) ?p04 ?q04 ?r04
  case' p04=>rfl
  .intro K l
   refine Zc5 h0 hl rfl (.tmp 28) rfl (by rw[r];kernel_rfl) (some 29) rfl (λ V g9=>l _ _ ?_);clear l K;refine wpAny_ready (rs:=[8,9]) (by kernel_rfl) (by simp) ?_;refine Yf (o:=?oo048) ?p048 ?q048 ?r048
   case' p048=>rfl
   .intro K l
    refine Zc6 g9 hl rfl (.tmp 32) rfl (by rw[r];kernel_rfl) (some 33) rfl (λ a2 g1=>l _ _ ?_);clear l K;refine wpAny_ready (rs:=[9]) (by kernel_rfl) (by simp) ?_;refine Yf (o:=?oo0489) ?p0489 ?q0489 ?r0489
    case' p0489=>rfl
    .intro K l
     refine Zc7 g1 rfl rfl (some 34) rfl (λ E f5=>l _ _ ?_);clear l K;obtain⟨gg,U,z,O⟩:=f5.work (A:=A) (c:=c) (base:=base);refine Zcd ?_;intro a1 s;refine wpAny_ready (rs:=[10]) (by kernel_rfl) (by simp) ?_;refine Yf (o:=?oo0489x0) ?p0489x0 ?q0489x0 ?r0489x0
     case' p0489x0=>rfl
     case' r0489x0=>exact Yi
     intro K l;refine Z6 rfl (some 35) rfl (v:=.agg #[.slice A xs.length c,.int .i64 base,.slice (some ⟨w.drew.heap.size,0,none⟩) xs.length xs.length,.slice (some ⟨V.heap.size,0,none⟩) (xs.length+1) (xs.length+1),.map (some a2.heap.size)]) (w':=E) (by rw[s,r];kernel_rfl) (l _ _ ?_);clear l K;refine wpAny_ready (rs:=[11]) (by kernel_rfl) (by simp) ?_;refine Yf (o:=?oo0489x1) ?p0489x1 ?q0489x1 ?r0489x1
     case' p0489x1=>rfl
     case' r0489x1=>exact Yi
     intro K l;refine Z6 rfl (some 36) rfl (v:=.pointer (some ⟨E.heap.size,0,none⟩)) (w':=E.alloc (.cells #[.slice A xs.length c,.int .i64 base,.slice (some ⟨w.drew.heap.size,0,none⟩) xs.length xs.length,.slice (some ⟨V.heap.size,0,none⟩) (xs.length+1) (xs.length+1),.map (some a2.heap.size)] 206)) (by rw[s,r];kernel_rfl) (l _ _ ?_);clear l K;refine wpAny_ready (rs:=[12]) (by kernel_rfl) (by simp) ?_;refine Yf (o:=?oo0489x2) ?p0489x2 ?q0489x2 ?r0489x2
     case' p0489x2=>rfl
     case' r0489x2=>exact Yi
     intro K l;refine Z6 rfl (some 6) rfl (v:=.pointer (some ⟨E.heap.size,0,none⟩)) (w':=E.alloc (.cells #[.slice A xs.length c,.int .i64 base,.slice (some ⟨w.drew.heap.size,0,none⟩) xs.length xs.length,.slice (some ⟨V.heap.size,0,none⟩) (xs.length+1) (xs.length+1),.map (some a2.heap.size)] 206)) (by rw[s,r];kernel_rfl) (l _ _ ?_);clear l K;refine wpAny_done (by kernel_rfl) ?_ _;rw[s,r];refine hKK _ _ (Met.intro (hJJ _ _ ?_));exact⟨.pointer (some ⟨E.heap.size,0,none⟩),.slice A xs.length c,.int .i64 base,.slice A xs.length c,.int .i64 xs.length,.slice (some ⟨w.drew.heap.size,0,none⟩) xs.length xs.length,.slice A xs.length c,.int .i64 xs.length,.int .i64 ((xs.length:Int)+1),.slice (some ⟨V.heap.size,0,none⟩) (xs.length+1) (xs.length+1),.map (some a2.heap.size),.agg #[.slice A xs.length c,.int .i64 base,.slice (some ⟨w.drew.heap.size,0,none⟩) xs.length xs.length,.slice (some ⟨V.heap.size,0,none⟩) (xs.length+1) (xs.length+1),.map (some a2.heap.size)],.pointer (some ⟨E.heap.size,0,none⟩),⟨_,_,_,_,rfl,by rw[<- U] at z;exact z,O⟩,by kernel_rfl⟩
    exact Yi
   refine Yf (o:=?oo049) ?p049 ?q049 ?r049
   case' p049=>rfl
   .intro K l
    refine Zc7 g9 rfl rfl (some 34) rfl (λ a5 j8=>l _ _ ?_);clear l K;refine wpAny_ready (rs:=[8]) (by kernel_rfl) (by simp) ?_;refine Yf (o:=?oo0498) ?p0498 ?q0498 ?r0498
    case' p0498=>rfl
    .intro K l
     refine Zc6 j8 hl rfl (.tmp 32) rfl (by rw[r];kernel_rfl) (some 33) rfl (λ D f7=>l _ _ ?_);clear l K;obtain⟨gg,U,z,O⟩:=f7.work (A:=A) (c:=c) (base:=base);refine Zcd ?_;intro a1 s;refine wpAny_ready (rs:=[10]) (by kernel_rfl) (by simp) ?_;refine Yf (o:=?oo0498x0) ?p0498x0 ?q0498x0 ?r0498x0
     case' p0498x0=>rfl
     case' r0498x0=>exact Yi
     intro K l;refine Z6 rfl (some 35) rfl (v:=.agg #[.slice A xs.length c,.int .i64 base,.slice (some ⟨w.drew.heap.size,0,none⟩) xs.length xs.length,.slice (some ⟨a5.heap.size,0,none⟩) (xs.length+1) (xs.length+1),.map (some V.heap.size)]) (w':=D) (by rw[s,r];kernel_rfl) (l _ _ ?_);clear l K;refine wpAny_ready (rs:=[11]) (by kernel_rfl) (by simp) ?_;refine Yf (o:=?oo0498x1) ?p0498x1 ?q0498x1 ?r0498x1
     case' p0498x1=>rfl
     case' r0498x1=>exact Yi
     intro K l;refine Z6 rfl (some 36) rfl (v:=.pointer (some ⟨D.heap.size,0,none⟩)) (w':=D.alloc (.cells #[.slice A xs.length c,.int .i64 base,.slice (some ⟨w.drew.heap.size,0,none⟩) xs.length xs.length,.slice (some ⟨a5.heap.size,0,none⟩) (xs.length+1) (xs.length+1),.map (some V.heap.size)] 206)) (by rw[s,r];kernel_rfl) (l _ _ ?_);clear l K;refine wpAny_ready (rs:=[12]) (by kernel_rfl) (by simp) ?_;refine Yf (o:=?oo0498x2) ?p0498x2 ?q0498x2 ?r0498x2
     case' p0498x2=>rfl
     case' r0498x2=>exact Yi
     intro K l;refine Z6 rfl (some 6) rfl (v:=.pointer (some ⟨D.heap.size,0,none⟩)) (w':=D.alloc (.cells #[.slice A xs.length c,.int .i64 base,.slice (some ⟨w.drew.heap.size,0,none⟩) xs.length xs.length,.slice (some ⟨a5.heap.size,0,none⟩) (xs.length+1) (xs.length+1),.map (some V.heap.size)] 206)) (by rw[s,r];kernel_rfl) (l _ _ ?_);clear l K;refine wpAny_done (by kernel_rfl) ?_ _;rw[s,r];refine hKK _ _ (Met.intro (hJJ _ _ ?_));exact⟨.pointer (some ⟨D.heap.size,0,none⟩),.slice A xs.length c,.int .i64 base,.slice A xs.length c,.int .i64 xs.length,.slice (some ⟨w.drew.heap.size,0,none⟩) xs.length xs.length,.slice A xs.length c,.int .i64 xs.length,.int .i64 ((xs.length:Int)+1),.slice (some ⟨a5.heap.size,0,none⟩) (xs.length+1) (xs.length+1),.map (some V.heap.size),.agg #[.slice A xs.length c,.int .i64 base,.slice (some ⟨w.drew.heap.size,0,none⟩) xs.length xs.length,.slice (some ⟨a5.heap.size,0,none⟩) (xs.length+1) (xs.length+1),.map (some V.heap.size)],.pointer (some ⟨D.heap.size,0,none⟩),⟨_,_,_,_,rfl,by rw[<- U] at z;exact z,O⟩,by kernel_rfl⟩
    exact Yi
   exact Yi
  refine Yf (o:=?oo08) ?p08 ?q08 ?r08
  case' p08=>rfl
  .intro K l
   refine Zc6 h0 hl rfl (.tmp 32) rfl (by rw[r];kernel_rfl) (some 33) rfl (λ X g6=>l _ _ ?_);clear l K;refine wpAny_ready (rs:=[4,9]) (by kernel_rfl) (by simp) ?_;refine Yf (o:=?oo084) ?p084 ?q084 ?r084
   case' p084=>rfl
   .intro K l
    refine Zc5 g6 hl rfl (.tmp 28) rfl (by rw[r];kernel_rfl) (some 29) rfl (λ a6 j0=>l _ _ ?_);clear l K;refine wpAny_ready (rs:=[9]) (by kernel_rfl) (by simp) ?_;refine Yf (o:=?oo0849) ?p0849 ?q0849 ?r0849
    case' p0849=>rfl
    .intro K l
     refine Zc7 j0 rfl rfl (some 34) rfl (λ B f2=>l _ _ ?_);clear l K;obtain⟨gg,U,z,O⟩:=f2.work (A:=A) (c:=c) (base:=base);refine Zcd ?_;intro a1 s;refine wpAny_ready (rs:=[10]) (by kernel_rfl) (by simp) ?_;refine Yf (o:=?oo0849x0) ?p0849x0 ?q0849x0 ?r0849x0
     case' p0849x0=>rfl
     case' r0849x0=>exact Yi
     intro K l;refine Z6 rfl (some 35) rfl (v:=.agg #[.slice A xs.length c,.int .i64 base,.slice (some ⟨X.heap.size,0,none⟩) xs.length xs.length,.slice (some ⟨w.drew.heap.size,0,none⟩) (xs.length+1) (xs.length+1),.map (some a6.heap.size)]) (w':=B) (by rw[s,r];kernel_rfl) (l _ _ ?_);clear l K;refine wpAny_ready (rs:=[11]) (by kernel_rfl) (by simp) ?_;refine Yf (o:=?oo0849x1) ?p0849x1 ?q0849x1 ?r0849x1
     case' p0849x1=>rfl
     case' r0849x1=>exact Yi
     intro K l;refine Z6 rfl (some 36) rfl (v:=.pointer (some ⟨B.heap.size,0,none⟩)) (w':=B.alloc (.cells #[.slice A xs.length c,.int .i64 base,.slice (some ⟨X.heap.size,0,none⟩) xs.length xs.length,.slice (some ⟨w.drew.heap.size,0,none⟩) (xs.length+1) (xs.length+1),.map (some a6.heap.size)] 206)) (by rw[s,r];kernel_rfl) (l _ _ ?_);clear l K;refine wpAny_ready (rs:=[12]) (by kernel_rfl) (by simp) ?_;refine Yf (o:=?oo0849x2) ?p0849x2 ?q0849x2 ?r0849x2
     case' p0849x2=>rfl
     case' r0849x2=>exact Yi
     intro K l;refine Z6 rfl (some 6) rfl (v:=.pointer (some ⟨B.heap.size,0,none⟩)) (w':=B.alloc (.cells #[.slice A xs.length c,.int .i64 base,.slice (some ⟨X.heap.size,0,none⟩) xs.length xs.length,.slice (some ⟨w.drew.heap.size,0,none⟩) (xs.length+1) (xs.length+1),.map (some a6.heap.size)] 206)) (by rw[s,r];kernel_rfl) (l _ _ ?_);clear l K;refine wpAny_done (by kernel_rfl) ?_ _;rw[s,r];refine hKK _ _ (Met.intro (hJJ _ _ ?_));exact⟨.pointer (some ⟨B.heap.size,0,none⟩),.slice A xs.length c,.int .i64 base,.slice A xs.length c,.int .i64 xs.length,.slice (some ⟨X.heap.size,0,none⟩) xs.length xs.length,.slice A xs.length c,.int .i64 xs.length,.int .i64 ((xs.length:Int)+1),.slice (some ⟨w.drew.heap.size,0,none⟩) (xs.length+1) (xs.length+1),.map (some a6.heap.size),.agg #[.slice A xs.length c,.int .i64 base,.slice (some ⟨X.heap.size,0,none⟩) xs.length xs.length,.slice (some ⟨w.drew.heap.size,0,none⟩) (xs.length+1) (xs.length+1),.map (some a6.heap.size)],.pointer (some ⟨B.heap.size,0,none⟩),⟨_,_,_,_,rfl,by rw[<- U] at z;exact z,O⟩,by kernel_rfl⟩
    exact Yi
   refine Yf (o:=?oo089) ?p089 ?q089 ?r089
   case' p089=>rfl
   .intro K l
    refine Zc7 g6 rfl rfl (some 34) rfl (λ a4 j3=>l _ _ ?_);clear l K;refine wpAny_ready (rs:=[4]) (by kernel_rfl) (by simp) ?_;refine Yf (o:=?oo0894) ?p0894 ?q0894 ?r0894
    case' p0894=>rfl
    .intro K l
     refine Zc5 j3 hl rfl (.tmp 28) rfl (by rw[r];kernel_rfl) (some 29) rfl (λ C f1=>l _ _ ?_);clear l K;obtain⟨gg,U,z,O⟩:=f1.work (A:=A) (c:=c) (base:=base);refine Zcd ?_;intro a1 s;refine wpAny_ready (rs:=[10]) (by kernel_rfl) (by simp) ?_;refine Yf (o:=?oo0894x0) ?p0894x0 ?q0894x0 ?r0894x0
     case' p0894x0=>rfl
     case' r0894x0=>exact Yi
     intro K l;refine Z6 rfl (some 35) rfl (v:=.agg #[.slice A xs.length c,.int .i64 base,.slice (some ⟨a4.heap.size,0,none⟩) xs.length xs.length,.slice (some ⟨w.drew.heap.size,0,none⟩) (xs.length+1) (xs.length+1),.map (some X.heap.size)]) (w':=C) (by rw[s,r];kernel_rfl) (l _ _ ?_);clear l K;refine wpAny_ready (rs:=[11]) (by kernel_rfl) (by simp) ?_;refine Yf (o:=?oo0894x1) ?p0894x1 ?q0894x1 ?r0894x1
     case' p0894x1=>rfl
     case' r0894x1=>exact Yi
     intro K l;refine Z6 rfl (some 36) rfl (v:=.pointer (some ⟨C.heap.size,0,none⟩)) (w':=C.alloc (.cells #[.slice A xs.length c,.int .i64 base,.slice (some ⟨a4.heap.size,0,none⟩) xs.length xs.length,.slice (some ⟨w.drew.heap.size,0,none⟩) (xs.length+1) (xs.length+1),.map (some X.heap.size)] 206)) (by rw[s,r];kernel_rfl) (l _ _ ?_);clear l K;refine wpAny_ready (rs:=[12]) (by kernel_rfl) (by simp) ?_;refine Yf (o:=?oo0894x2) ?p0894x2 ?q0894x2 ?r0894x2
     case' p0894x2=>rfl
     case' r0894x2=>exact Yi
     intro K l;refine Z6 rfl (some 6) rfl (v:=.pointer (some ⟨C.heap.size,0,none⟩)) (w':=C.alloc (.cells #[.slice A xs.length c,.int .i64 base,.slice (some ⟨a4.heap.size,0,none⟩) xs.length xs.length,.slice (some ⟨w.drew.heap.size,0,none⟩) (xs.length+1) (xs.length+1),.map (some X.heap.size)] 206)) (by rw[s,r];kernel_rfl) (l _ _ ?_);clear l K;refine wpAny_done (by kernel_rfl) ?_ _;rw[s,r];refine hKK _ _ (Met.intro (hJJ _ _ ?_));exact⟨.pointer (some ⟨C.heap.size,0,none⟩),.slice A xs.length c,.int .i64 base,.slice A xs.length c,.int .i64 xs.length,.slice (some ⟨a4.heap.size,0,none⟩) xs.length xs.length,.slice A xs.length c,.int .i64 xs.length,.int .i64 ((xs.length:Int)+1),.slice (some ⟨w.drew.heap.size,0,none⟩) (xs.length+1) (xs.length+1),.map (some X.heap.size),.agg #[.slice A xs.length c,.int .i64 base,.slice (some ⟨a4.heap.size,0,none⟩) xs.length xs.length,.slice (some ⟨w.drew.heap.size,0,none⟩) (xs.length+1) (xs.length+1),.map (some X.heap.size)],.pointer (some ⟨C.heap.size,0,none⟩),⟨_,_,_,_,rfl,by rw[<- U] at z;exact z,O⟩,by kernel_rfl⟩
    exact Yi
   exact Yi
  refine Yf (o:=?oo09) ?p09 ?q09 ?r09
  case' p09=>rfl
  .intro K l
   refine Zc7 h0 rfl rfl (some 34) rfl (λ W h9=>l _ _ ?_);clear l K;refine wpAny_ready (rs:=[4,8]) (by kernel_rfl) (by simp) ?_;refine Yf (o:=?oo094) ?p094 ?q094 ?r094
   case' p094=>rfl
   .intro K l
    refine Zc5 h9 hl rfl (.tmp 28) rfl (by rw[r];kernel_rfl) (some 29) rfl (λ a8 h7=>l _ _ ?_);clear l K;refine wpAny_ready (rs:=[8]) (by kernel_rfl) (by simp) ?_;refine Yf (o:=?oo0948) ?p0948 ?q0948 ?r0948
    case' p0948=>rfl
    .intro K l
     refine Zc6 h7 hl rfl (.tmp 32) rfl (by rw[r];kernel_rfl) (some 33) rfl (λ G f0=>l _ _ ?_);clear l K;obtain⟨gg,U,z,O⟩:=f0.work (A:=A) (c:=c) (base:=base);refine Zcd ?_;intro a1 s;refine wpAny_ready (rs:=[10]) (by kernel_rfl) (by simp) ?_;refine Yf (o:=?oo0948x0) ?p0948x0 ?q0948x0 ?r0948x0
     case' p0948x0=>rfl
     case' r0948x0=>exact Yi
     intro K l;refine Z6 rfl (some 35) rfl (v:=.agg #[.slice A xs.length c,.int .i64 base,.slice (some ⟨W.heap.size,0,none⟩) xs.length xs.length,.slice (some ⟨a8.heap.size,0,none⟩) (xs.length+1) (xs.length+1),.map (some w.drew.heap.size)]) (w':=G) (by rw[s,r];kernel_rfl) (l _ _ ?_);clear l K;refine wpAny_ready (rs:=[11]) (by kernel_rfl) (by simp) ?_;refine Yf (o:=?oo0948x1) ?p0948x1 ?q0948x1 ?r0948x1
     case' p0948x1=>rfl
     case' r0948x1=>exact Yi
     intro K l;refine Z6 rfl (some 36) rfl (v:=.pointer (some ⟨G.heap.size,0,none⟩)) (w':=G.alloc (.cells #[.slice A xs.length c,.int .i64 base,.slice (some ⟨W.heap.size,0,none⟩) xs.length xs.length,.slice (some ⟨a8.heap.size,0,none⟩) (xs.length+1) (xs.length+1),.map (some w.drew.heap.size)] 206)) (by rw[s,r];kernel_rfl) (l _ _ ?_);clear l K;refine wpAny_ready (rs:=[12]) (by kernel_rfl) (by simp) ?_;refine Yf (o:=?oo0948x2) ?p0948x2 ?q0948x2 ?r0948x2
     case' p0948x2=>rfl
     case' r0948x2=>exact Yi
     intro K l;refine Z6 rfl (some 6) rfl (v:=.pointer (some ⟨G.heap.size,0,none⟩)) (w':=G.alloc (.cells #[.slice A xs.length c,.int .i64 base,.slice (some ⟨W.heap.size,0,none⟩) xs.length xs.length,.slice (some ⟨a8.heap.size,0,none⟩) (xs.length+1) (xs.length+1),.map (some w.drew.heap.size)] 206)) (by rw[s,r];kernel_rfl) (l _ _ ?_);clear l K;refine wpAny_done (by kernel_rfl) ?_ _;rw[s,r];refine hKK _ _ (Met.intro (hJJ _ _ ?_));exact⟨.pointer (some ⟨G.heap.size,0,none⟩),.slice A xs.length c,.int .i64 base,.slice A xs.length c,.int .i64 xs.length,.slice (some ⟨W.heap.size,0,none⟩) xs.length xs.length,.slice A xs.length c,.int .i64 xs.length,.int .i64 ((xs.length:Int)+1),.slice (some ⟨a8.heap.size,0,none⟩) (xs.length+1) (xs.length+1),.map (some w.drew.heap.size),.agg #[.slice A xs.length c,.int .i64 base,.slice (some ⟨W.heap.size,0,none⟩) xs.length xs.length,.slice (some ⟨a8.heap.size,0,none⟩) (xs.length+1) (xs.length+1),.map (some w.drew.heap.size)],.pointer (some ⟨G.heap.size,0,none⟩),⟨_,_,_,_,rfl,by rw[<- U] at z;exact z,O⟩,by kernel_rfl⟩
    exact Yi
   refine Yf (o:=?oo098) ?p098 ?q098 ?r098
   case' p098=>rfl
   .intro K l
    refine Zc6 h9 hl rfl (.tmp 32) rfl (by rw[r];kernel_rfl) (some 33) rfl (λ a9 g7=>l _ _ ?_);clear l K;refine wpAny_ready (rs:=[4]) (by kernel_rfl) (by simp) ?_;refine Yf (o:=?oo0984) ?p0984 ?q0984 ?r0984
    case' p0984=>rfl
    .intro K l
     refine Zc5 g7 hl rfl (.tmp 28) rfl (by rw[r];kernel_rfl) (some 29) rfl (λ H f4=>l _ _ ?_);clear l K;obtain⟨gg,U,z,O⟩:=f4.work (A:=A) (c:=c) (base:=base);refine Zcd ?_;intro a1 s;refine wpAny_ready (rs:=[10]) (by kernel_rfl) (by simp) ?_;refine Yf (o:=?oo0984x0) ?p0984x0 ?q0984x0 ?r0984x0
     case' p0984x0=>rfl
     case' r0984x0=>exact Yi
     intro K l;refine Z6 rfl (some 35) rfl (v:=.agg #[.slice A xs.length c,.int .i64 base,.slice (some ⟨a9.heap.size,0,none⟩) xs.length xs.length,.slice (some ⟨W.heap.size,0,none⟩) (xs.length+1) (xs.length+1),.map (some w.drew.heap.size)]) (w':=H) (by rw[s,r];kernel_rfl) (l _ _ ?_);clear l K;refine wpAny_ready (rs:=[11]) (by kernel_rfl) (by simp) ?_;refine Yf (o:=?oo0984x1) ?p0984x1 ?q0984x1 ?r0984x1
     case' p0984x1=>rfl
     case' r0984x1=>exact Yi
     intro K l;refine Z6 rfl (some 36) rfl (v:=.pointer (some ⟨H.heap.size,0,none⟩)) (w':=H.alloc (.cells #[.slice A xs.length c,.int .i64 base,.slice (some ⟨a9.heap.size,0,none⟩) xs.length xs.length,.slice (some ⟨W.heap.size,0,none⟩) (xs.length+1) (xs.length+1),.map (some w.drew.heap.size)] 206)) (by rw[s,r];kernel_rfl) (l _ _ ?_);clear l K;refine wpAny_ready (rs:=[12]) (by kernel_rfl) (by simp) ?_;refine Yf (o:=?oo0984x2) ?p0984x2 ?q0984x2 ?r0984x2
     case' p0984x2=>rfl
     case' r0984x2=>exact Yi
     intro K l;refine Z6 rfl (some 6) rfl (v:=.pointer (some ⟨H.heap.size,0,none⟩)) (w':=H.alloc (.cells #[.slice A xs.length c,.int .i64 base,.slice (some ⟨a9.heap.size,0,none⟩) xs.length xs.length,.slice (some ⟨W.heap.size,0,none⟩) (xs.length+1) (xs.length+1),.map (some w.drew.heap.size)] 206)) (by rw[s,r];kernel_rfl) (l _ _ ?_);clear l K;refine wpAny_done (by kernel_rfl) ?_ _;rw[s,r];refine hKK _ _ (Met.intro (hJJ _ _ ?_));exact⟨.pointer (some ⟨H.heap.size,0,none⟩),.slice A xs.length c,.int .i64 base,.slice A xs.length c,.int .i64 xs.length,.slice (some ⟨a9.heap.size,0,none⟩) xs.length xs.length,.slice A xs.length c,.int .i64 xs.length,.int .i64 ((xs.length:Int)+1),.slice (some ⟨W.heap.size,0,none⟩) (xs.length+1) (xs.length+1),.map (some w.drew.heap.size),.agg #[.slice A xs.length c,.int .i64 base,.slice (some ⟨a9.heap.size,0,none⟩) xs.length xs.length,.slice (some ⟨W.heap.size,0,none⟩) (xs.length+1) (xs.length+1),.map (some w.drew.heap.size)],.pointer (some ⟨H.heap.size,0,none⟩),⟨_,_,_,_,rfl,by rw[<- U] at z;exact z,O⟩,by kernel_rfl⟩
    exact Yi
   exact Yi
  exact Yi
 case rest =>
  obtain⟨g,gF,gA,m,rfl,hW,hb⟩:=hcut;have c0:=Ya i8;have c1:=Ya R;clear i8 R;have n2:=hb.size;go_wp2_with fail
  go_loopw [7,39] (λ tw i wr=>∃(k n:Nat)(t:Bool)(F:List Int)(f:ByteArray->Option Int),k<=xs.length/\n<=k/\i=.int .i64 k/\tw=.bool t/\Tab xs k f t/\firstErr xs=firstErr (xs.drop k) /\
   (∀(j:Nat)(x:S.Item),j<k->xs[j]?=some x->F.getD j 0=startForm x)/\(∀j,k<=j->F.getD j 0=0) /\
   Work wr w.heap.size g gF gA m n A c xs base F (Y6 (xs.length+1) 0) f/\Below w.heap.size w wr) (λ _ i _=>xs.length-(intOf i).toNat)
  case atStart =>
   refine⟨0,0,false,_,_,by omega,by omega,rfl,rfl,Tab.start xs,by simp,λ j x Z=>by omega,λ j _=>?_,hW,hb⟩;by_cases Z:j<xs.length <;> simp[Yh,List.getElem?_replicate,Z]
  case round =>
   obtain⟨k,n,t,F,f,hk,hn,rfl,rfl,hT,j2,j1,i2,c7,L⟩:=hrel;have HT:=Ya hT;have b9:=Ya j2;have d2:=Ya j1;have b1:=Ya i2;have e9:=L.size;clear hT j2 j1 i2 hW hb;by_cases b5:k<xs.length
   .obtain⟨b,off,x,rfl,hbA,Y,hc0,hc1,hc2,hc3,hc4,hc5,hc6,hc7,hw0,hw1⟩:=(hi.below L).at_ b5
    have Hx:=Ya Y;have Hd:=Ya (Zk0 Y);have c2:=b8.out k x Y;have l9:b<wr.heap.size:=by omega
    clear Y;obtain⟨kind,⟨op,d,a,b',imm⟩,lab,wd⟩:=x;simp only at hc0 hc1 hc2 hc3 hc4 hc5 hc6 hc7 hw0 hw1 c2;have a7:Below wr.heap.size wr (wr.alloc (.cells #[.int .i64 kind,.int .i64 op,.int .i64 d,.int .i64 a,.int .i64 b',.int .i64 imm,.string lab,.int .u32 wd] 79)):=(Below.refl _ _).alloc (Yc _) _;by_cases he:chkItem ⟨kind,⟨op,d,a,b',imm⟩,lab,wd⟩=0
    .have hd:=Zvf he
     have He:=Ya he;clear he;go_wp2_with fail
     refine(Zm1 _ _ _ _ _ _ _ _ _).mono ?_;rintro e w1 ⟨rfl,R⟩;have e6:Below wr.heap.size wr w1:=a7.trans (R.mono (by simp));have l6:wr.heap.size<w1.heap.size:=by have:=R.size;simp at this;omega
     have hX:∀(j:Nat)(v:Value),(#[Value.int .i64 kind,.int .i64 op,.int .i64 d,.int .i64 a,.int .i64 b',.int .i64 imm,.string lab,.int .u32 wd])[j]?=some v->w1.cell? ⟨wr.heap.size,j,none⟩=some v:=by
      intro j v hv;rw[R.cell (p:=⟨_,j,none⟩) (by simp),<- hv];exact Zac _ _ _ _
     have e0:=hX 0 (.int .i64 kind) rfl;have d7:=hX 6 (.string lab) rfl;have Q:=c7.below e6;obtain⟨p0,p1,p2,p3,p4⟩:=Q.cells;obtain⟨q1,q2⟩:=Q.form b5;obtain⟨r1,r2,r3,r4⟩:=Q.lts;have d0:Hid (firstErr xs=firstErr (xs.drop (k+1))):=Ya (by rw[b9.out,Hd.out,if_neg (by rw[He.out];simp)]);have f3:Below w.heap.size w w1:=L.trans (e6.mono e9);clear hX Hd b9 a7;by_cases m5:kind=3\/kind=4
     .rcases m5 with rfl|rfl
      all_goals
       obtain⟨d4,b4⟩:=Q.grown k 1 rfl;have l8:(⟨gF,k,none⟩:Addr)≠⟨wr.heap.size,0,none⟩:=by
        intro e
        injection e with e _ _
        have:=c7.lts.2.1;omega
       have m8:=(World.cell?_setCell_other (w:=w1) (v:=.int .i64 1) (h:=l8)).trans e0;go_wp2_with fail
       go_roundw
       case rel =>
        refine⟨k+1,n,t,F.set k 1,f,by omega,by omega,by go_num,rfl,HT.out.other Hx.out (by simp),d0.out,λ j x Z P=>?_,λ j Z=>?_,d4,f3.trans b4⟩
        .by_cases N:j=k
         .subst N
          rw[Hx.out] at P;cases P;rw[Za0 (by have:=Q.forms.1;simp at this;omega)];simp[startForm]
         .rw[Z9 (λ e=>N e.symm)]
          exact d2.out j x (by omega) P
        .rw[Z9 (by omega)]
         exact b1.out j (by omega)
       case measure=>simp[intOf];omega
     .have hn3:=Zb7 (a:=kind) (b:=3) (by omega)
      have n1:=Zb7 (a:=kind) (b:=4) (by omega);by_cases k2:kind=2
      .subst k2
       have j6:∀u:Ext w1,(Instr.lookup 199 (.map (some m)) (.string lab) true).run prog u.val=.ok (.tuple #[.int .i64 ((f lab).getD 0),.bool (f lab).isSome]) u.val:=λ u=>(Q.labels.below u.property).lookOk c2
       have h8:=Ya (HT.out.label Hx.out rfl);generalize (f lab).isSome=ok at *;go_wp2_with fail
       refine Zq (by kernel_rfl) (by kernel_rfl) ?_;have hE:=Zk w1
       repeat (first|go_big_quiet_step (fail))
       refine wpQuiet_nil ?_;intro w2 c8;have M:=Zcp c8;clear hE c8;have b2:=Q.below M;have l5:=M.size;have m9:w2.cell? ⟨wr.heap.size,6,none⟩=some (.string lab):=by rw[M.cell (p:=⟨_,6,none⟩) (by simpa using l6)];exact d7
       clear p0 p1 p2 p3 p4 q1 q2;obtain⟨p0,p1,p2,p3,p4⟩:=b2.cells;obtain⟨s1,s2,s3,s4⟩:=b2.lts;have m4:wr.heap.size<w2.heap.size:=by omega
       cases t
       all_goals
        go_wp2_with fail
        refine Zj 7 (by kernel_rfl) (by kernel_rfl) ?_;have hE:=Zk w2;simp only[List.take_succ_cons,List.take_zero,List.drop_succ_cons,List.drop_zero]
        repeat (first|go_big_quiet_step (fail))
        refine wpQuiet_nil ?_;intro w3 h5;have b4:=Zcp h5;clear hE h5;have d4:=b2.below b4;refine Zev rfl rfl (.tmp 83) (.tmp 85) (.tmp 86) rfl m n _ rfl d4.labels (by omega) lab k rfl rfl c2 (Z8t (by omega)) ?_;intro w4 k1 k7;have i4:=k1.mono (n':=n+1) (by split <;> omega);obtain⟨k6,l7⟩:=d4.told i4 k7;have k4:Below w.heap.size w w4:=((f3.trans (M.mono (by omega))).trans (b4.mono (by omega))).trans l7;go_wp2_with fail
        go_roundw
        case rel =>
         refine⟨k+1,n+1,_,F,_,by omega,by omega,by go_num,rfl,h8.out,d0.out,λ j x Z P=>?_,λ j Z=>b1.out j (by omega),k6,k4⟩;by_cases N:j=k
         .subst N
          rw[Hx.out] at P;cases P;rw[b1.out j (by omega)];simp[startForm]
         .exact d2.out j x (by omega) P
        case measure=>simp[intOf];omega
      .have hn2:=Zb7 k2
       go_wp2_with fail
       go_roundw
       case rel =>
        refine⟨k+1,n,t,F,f,by omega,by omega,by go_num,rfl,HT.out.other Hx.out k2,d0.out,λ j x Z P=>?_,λ j Z=>b1.out j (by omega),Q,f3⟩;by_cases N:j=k
        .subst N
         rw[Hx.out] at P;cases P;rw[b1.out j (by omega)];simp[startForm];omega
        .exact d2.out j x (by omega) P
       case measure=>simp[intOf];omega
    .have hd:=Zb7 he
     have He:=Ya he;clear he;go_wp2_with fail
     refine(Zm1 _ _ _ _ _ _ _ _ _).mono ?_;rintro e w1 ⟨rfl,R⟩;go_wp2_with fail
     rw[Exit.noGoto_ret]
     go_ret2
     refine⟨L.trans ((a7.trans (R.mono (by simp))).mono e9),.inl ⟨_,He.out,rfl,.inl ⟨He.out,.inr (.inl ⟨c0.out,c1.out,?_,?_⟩),rfl⟩⟩⟩
     .rw[b9.out,Hd.out,if_pos He.out];exact He.out
     .rw[b9.out,Hd.out,if_pos He.out]
   .have hkl:k=xs.length:=by omega
    subst hkl;have c6:Hid (firstErr xs=0):=Ya (by rw[b9.out,List.drop_length];rfl);have m0:F=xs.map startForm:=by
     have l0:F.length=xs.length:=by have:=c7.forms.1;simpa using this
     refine Zda (by simp[l0]) λ j=>?_
     by_cases Z:j<xs.length
     .rw[d2.out j _ Z (Ye Z)]
      simp[Yh,Ye Z]
     .rw[b1.out j (by omega)]
      simp[Yh,Z]
    subst m0;clear d2 b1 b9
    cases t
    .obtain⟨hfl,hnd⟩:=HT.out.done
     subst hfl;have i0:=Ya hnd;clear hnd;obtain⟨wA,m3⟩:=Yx wr;subst m3;go_wp2_with fail
     go_loopw [91] (λ i wr=>∃k:Nat,k<=xs.length/\i=.int .i64 k/\(∀(j:Nat)(x:S.Item),j<k->xs[j]?=some x->named x=true->0<=stands xs x.label)/\Below wA.heap.size wA wr) (λ i _=>xs.length-(intOf i).toNat)
     case atStart=>exact⟨0,by omega,rfl,λ j x Z=>by omega,Below.refl _ _⟩
     case round =>
      obtain⟨k,hk,rfl,c3,a3⟩:=hrel;have d5:=Ya c3;have b6:=c7.below a3;have m7:=a3.size;have e1:=L.trans (a3.mono e9);clear c3;by_cases b5:k<xs.length
      .obtain⟨b,off,x,rfl,hbA,Y,hc0,hc1,hc2,hc3,hc4,hc5,hc6,hc7,hw0,hw1⟩:=(hi.below e1).at_ b5
       have Hx:=Ya Y;have c2:=b8.out k x Y;have l9:b<wr.heap.size:=by omega
       clear Y;obtain⟨kind,⟨op,d,a,b',imm⟩,lab,wd⟩:=x;simp only at hc0 hc1 hc2 hc3 hc4 hc5 hc6 hc7 hw0 hw1 c2;have a7:Below wr.heap.size wr (wr.alloc (.cells #[.int .i64 kind,.int .i64 op,.int .i64 d,.int .i64 a,.int .i64 b',.int .i64 imm,.string lab,.int .u32 wd] 79)):=(Below.refl _ _).alloc (Yc _) _;have d6:=b6.below a7;obtain⟨p0,p1,p2,p3,p4⟩:=d6.cells;obtain⟨l1,l2,l3,l4⟩:=b6.lts;obtain⟨s1,s2,s3,s4⟩:=d6.lts;have hX:∀(j:Nat)(v:Value),(#[Value.int .i64 kind,.int .i64 op,.int .i64 d,.int .i64 a,.int .i64 b',.int .i64 imm,.string lab,.int .u32 wd])[j]?=some v->(wr.alloc (.cells #[.int .i64 kind,.int .i64 op,.int .i64 d,.int .i64 a,.int .i64 b',.int .i64 imm,.string lab,.int .u32 wd] 79)).cell? ⟨wr.heap.size,j,none⟩=some v:=by
        intro j v hv;rw[<- hv];exact Zac _ _ _ _
       have e0:=hX 0 (.int .i64 kind) rfl;have h6:=hX 1 (.int .i64 op) rfl;have h3:=hX 2 (.int .i64 d) rfl;have g4:=hX 3 (.int .i64 a) rfl;have j7:=hX 4 (.int .i64 b') rfl;have i9:=hX 5 (.int .i64 imm) rfl;have d7:=hX 6 (.string lab) rfl;have j9:=hX 7 (.int .u32 wd) rfl;have k8:wr.heap.size<(wr.alloc (.cells #[.int .i64 kind,.int .i64 op,.int .i64 d,.int .i64 a,.int .i64 b',.int .i64 imm,.string lab,.int .u32 wd] 79)).heap.size:=by simp
       clear hX;go_wp2_with fail
       generalize wr.alloc (.cells #[.int .i64 kind,.int .i64 op,.int .i64 d,.int .i64 a,.int .i64 b',.int .i64 imm,.string lab,.int .u32 wd] 79)=wX at *;have j6:∀u:Ext wX,(Instr.lookup 199 (.map (some m)) (.string lab) true).run prog u.val=.ok (.tuple #[.int .i64 ((Zen xs lab).getD 0),.bool (Zen xs lab).isSome]) u.val:=λ u=>(d6.labels.below u.property).lookOk c2
       have h4:(Zen xs lab).isSome=decide (0<=stands xs lab):=by
        unfold Zen;by_cases h:stands xs lab<0
        .rw[if_pos h];simp;omega
        .rw[if_neg h];simp;omega
       have g2:=Ya h4;clear h4;generalize hokk:(Zen xs lab).isSome=ok at *;generalize (Zen xs lab).getD 0=q at *;clear hokk;refine Zq (by kernel_rfl) (by kernel_rfl) ?_;have hE:=Zk wX
       repeat (first|go_big_quiet_step (fail))
       refine wpQuiet_nil ?_;intro w2 c8;have M:=Zcp c8;clear hE c8 j6;have hY:∀j:Nat,w2.cell? ⟨wr.heap.size,j,none⟩=wX.cell? ⟨wr.heap.size,j,none⟩:=λ j=>M.cell (p:=⟨_,j,none⟩) k8
       rw[<- hY] at e0 h6 h3 g4 j7 i9 d7 j9;have l5:=M.size;have i1:Below w.heap.size w w2:=e1.trans ((a7.trans (M.mono (by omega))).mono (by omega));have i7:Below wA.heap.size wA w2:=a3.trans ((a7.trans (M.mono (by omega))).mono (by omega));have m4:wr.heap.size<w2.heap.size:=by omega
       clear hY p0 p1 p2 p3 p4 a7 M d6;go_wp2_with fail
       refine(Zm0 _ _ _ _ _ _ _ _ _).mono ?_;rintro e w3 ⟨rfl,b4⟩;have g3:=i1.trans (b4.mono (by omega));have e5:=i7.trans (b4.mono (by omega));generalize c3:named ⟨kind,⟨op,d,a,b',imm⟩,lab,wd⟩=nm;have HN:=Ya c3;clear c3 e0 h6 h3 g4 j7 i9 d7 j9
       cases nm
       .go_wp2_with fail
        go_roundw
        case rel =>
         refine⟨k+1,by omega,by go_num,λ j y Z b0 hn=>?_,e5⟩;by_cases N:j=k
         .subst N
          rw[Hx.out] at b0;cases b0;rw[HN.out] at hn;cases hn
         .exact d5.out j y (by omega) b0 hn
        case measure=>simp[intOf];omega
       .cases ok
        .go_wp2_with fail
         rw[Exit.noGoto_ret]
         go_ret2
         refine⟨g3,.inl ⟨_,by simp,rfl,.inl ⟨by simp,.inr (.inr (.inr (.inl ⟨c0.out,c1.out,c6.out,i0.out,⟨k,_,Hx.out,HN.out,?_⟩,rfl⟩))),rfl⟩⟩⟩;have:=g2.out;simp at this;exact this
        .go_wp2_with fail
         go_roundw
         case rel =>
          refine⟨k+1,by omega,by go_num,λ j y Z b0 hn=>?_,e5⟩;by_cases N:j=k
          .subst N
           rw[Hx.out] at b0;cases b0;have:=g2.out
           simpa using this
          .exact d5.out j y (by omega) b0 hn
         case measure=>simp[intOf];omega
      .have hkl:k=xs.length:=by omega
       subst hkl;have b3:¬Miss xs:=by
        rintro⟨j,y,hy,hn,hs⟩;have:=d5.out j y (Yg.1 hy).1 hy hn;omega
       have f9:=Ya b3;have e3:CheckRes xs base 0:=.inr (.inr (.inr (.inr ⟨c0.out,c1.out,c6.out,i0.out,b3,rfl⟩)));have e8:=Ya e3;have m2:=Ya HT.out;clear b3 e3 d5 HT c7 L;have h1:=b6;have g8:=Zq5 xs base;have i6:=Ya g8;clear b6 g8 a3;go_wp2_with fail
       go_step3
       go_wp2_with fail
       go_loopg [] (Zs5 (xs.map startForm)) (λ gk wr=>∃F T,Zs5 F<=gk/\S.Inv xs base F/\Work wr w.heap.size g gF gA m n A c xs base F T (Zen xs)/\Below w.heap.size w wr)
       case atStart=>exact⟨_,_,Yc _,i6.out,h1,e1⟩
       case round =>
        obtain⟨F,T,k5,e2,z,L⟩:=hrel;have J:=Ya e2;have m6:=L.size;clear e2 h1 e1 i6;obtain⟨wo,rfl⟩:∃wo:World,wo=wr:=⟨_,rfl⟩
        go_wp2_with fail
        refine(Zwe _ z (hi.below L) m6 J.out.1 hl c0.out c1.out Hw.out b8.out (λ k x Y hk=>m2.out.shut Y hk) (by omega)).mono ?_;rintro e w1 ⟨R,⟨rfl,b7,Q⟩|⟨rfl,b7⟩⟩
        .have Htot:=Ya b7
         have e7:=L.trans R;have n0:=e7.size;clear b7 z;go_wp2_with fail
         go_loopw [117,17] (λ i t wr=>∃(k:Nat)(mb:Bool)(F1:List Int),k<=xs.length/\i=.int .i64 k/\t=.bool mb/\S.Inv xs base F1/\(∀j,k<=j->F1.getD j 0=F.getD j 0) /\
          (mb=false->F1=F/\∀(j:Nat)(x:S.Item),j<k->xs[j]?=some x->fit xs F base j x=true)/\(mb=true->Zs5 F1<Zs5 F) /\
          Work wr w.heap.size g gF gA m n A c xs base F1 (Zfe xs F base (xs.length+1)) (Zen xs)/\Below w.heap.size w wr) (λ i _ _=>xs.length-(intOf i).toNat)
         case atStart=>exact⟨0,false,F,by omega,rfl,rfl,J.out,λ _ _=>rfl,λ _=>⟨rfl,λ j x Z=>by omega⟩,(λ h=>by cases h),Q,e7⟩
         case round =>
          obtain⟨k,mb,F1,hk,rfl,rfl,j5,c9,i5,g5,d3,c5⟩:=hrel;have d1:=Ya j5;have I:=Ya c9;have d8:=Ya i5;have f8:=Ya g5;have k3:=c5.size;clear j5 c9 i5 g5 Q;by_cases b5:k<xs.length
          .have Y:=Ya (Ye b5)
           generalize xs[k]=x at Y;have g0:=Ya (λ(hn:named x=true)=>(Int.not_lt.1 λ hs=>f9.out ⟨k,x,Y.out,hn,hs⟩:0<=stands xs x.label));have j4:k<F1.length:=by rw[d1.out.1.1];exact b5
           go_wp2_with fail
           refine(Zwb _ d3 (hi.below c5) k3 k x Y.out J.out.1 (I.out k (Yc _)) g0.out (b8.out k x Y.out) hl c0.out c1.out Hw.out).mono ?_;rintro e w2 ⟨F',rfl,d9,b2,M⟩;have c4:=c5.trans M;generalize hft:fit xs F base k x=ft at *;have f6:=Ya hft;clear hft d3
           cases ft
           .rw[if_neg (by simp)] at d9
            subst d9;have h2:=Zl7 J.out.1 Y.out f6.out;rw[<- I.out k (Yc _)] at h2;have hr:=Zxm (F:=F1) j4 (by omega);have k9:=Ya (Zxl J.out d1.out Hw.out Y.out (I.out k (Yc _)) f6.out);have k0:Hid (Zs5 (F1.set k (F1.getD k 0+1))<Zs5 F):=Ya (by
             cases mb
             .rw[(d8.out (by simp)).1] at hr⊢;exact hr
             .have:=f8.out (by simp);omega)
            clear h2 hr
            cases mb
            all_goals
             go_wp2_with fail
             go_roundw
             case rel =>
              refine⟨k+1,true,_,by omega,by go_num,rfl,k9.out,λ j Z=>?_,(λ h=>by cases h),λ _=>k0.out,b2,c4⟩;rw[Z9 (by omega)];exact I.out j (by omega)
             case measure=>simp[intOf];omega
           .rw[if_pos rfl] at d9
            subst d9
            cases mb
            .go_wp2_with fail
             go_roundw
             case rel =>
              refine⟨k+1,false,_,by omega,by go_num,rfl,d1.out,λ j Z=>I.out j (by omega),λ _=>⟨(d8.out (by simp)).1,λ j y Z hy=>?_⟩,(λ h=>by cases h),b2,c4⟩;by_cases N:j=k
              .subst N
               rw[Y.out] at hy;cases hy;exact f6.out
              .exact(d8.out (by simp)).2 j y (by omega) hy
             case measure=>simp[intOf];omega
            .go_wp2_with fail
             go_roundw
             case rel=>exact⟨k+1,true,_,by omega,by go_num,rfl,d1.out,λ j Z=>I.out j (by omega),(λ h=>by cases h),λ _=>f8.out (by simp),b2,c4⟩
             case measure=>simp[intOf];omega
          .have hkl:k=xs.length:=by omega
           subst hkl
           cases mb
           .obtain⟨rfl,hall⟩:=d8.out (by simp)
            have i3:=Ya hall;clear hall;go_wp2_with fail
            try rw[Exit.noGoto_ret]
            go_ret2
            refine⟨c5,.inr ⟨g,gF,gA,m,n,_,by omega,rfl,.inr (.inr ⟨e8.out,rfl,J.out,⟨J.out.1,λ i x Y=>i3.out i x (Yg.1 Y).1 Y⟩,Htot.out⟩),d3⟩⟩
           .have hr:=f8.out (by simp)
            go_wp2_with fail
            go_roundg (Zs5 F1)
            case rel=>exact⟨F1,_,Yc _,d1.out,d3,c5⟩
            case measure=>omega
        .go_wp2_with fail
         rw[Exit.noGoto_ret]
         go_ret2
         exact⟨L.trans R,.inl ⟨_,by simp,rfl,.inr (.inl ⟨e8.out,rfl,rfl,F,J.out,b7⟩)⟩⟩
    .go_wp2_with fail
     rw[Exit.noGoto_ret]
     go_ret2
     exact⟨L,.inl ⟨_,by simp,rfl,.inl ⟨by simp,.inr (.inr (.inl ⟨c0.out,c1.out,c6.out,HT.out.twice,rfl⟩)),rfl⟩⟩⟩
