/- Parts. -/
import Derived.Test.YtldbnjajjfgipaaGreatDoorZQe
import Derived.Deep.LoopGhost
set_option linter.all false
set_option maxHeartbeats 8000000
open Go.Lib renaming hid->Ya
open Nat renaming le_refl->Yd
open List renaming getElem?_eq_getElem->Ye,getElem?_eq_some_iff->Yg,getD_eq_getElem?_getD->Yh,replicate->Y1
open Go.AllReady renaming cons->Yf,nil->Yi
namespace Go.Proofs.YtldbnjajjfgipaaGreatDoor
open S Go.Proofs.Tryz Go.RowKit
set_option maxRecDepth 100000
def Zea (w:World)(A:Option Addr)(c:Nat)(xs:List S.Item)(base:Int)(e:Ending)(w':World):Prop :=
 Below w.heap.size w w'/\((∃r,r≠0/\e=.returned (.tuple #[.pointer none,.int .i64 r])/\FormsRes xs base r []) \/
  (∃(g gF gA m n:Nat)(F:List Int),n<=1048576/\e=.returned (.tuple #[.pointer (some ⟨g,0,none⟩),.int .i64 0])/\FormsRes xs base 0 F /\
   Work w' w.heap.size g gF gA m n A c xs base F (Zek xs F base (xs.length+1)) (Zd4 xs)))
theorem Zid (w:World){A:Option Addr}{c:Nat}{xs:List S.Item}{base:Int}(hi:Items w w.heap.size A xs)(h9:0<=base)(Q:base<=67108864)(hl:xs.length<=1048576)
 (e2:∀(k:Nat)(x:S.Item),xs[k]?=some x->x.label.size<=maxLen) (hw:∀x∈xs,0<=x.word/\x.word<=4294967295) :
 Calls prog 189 #[.slice A xs.length c,.int .i64 base] w (Zea w A c xs base):=by
 have b6:=Ya e2;have Hw:=Ya hw;clear e2 hw;go_enter func189,ntmps189
 go_wp2_with fail
 go_step3
 go_upto_region 3 with fail
 go_cut [6] from 25 to 36 (λ s6 wc=>∃g gF gA m,s6=.pointer (some ⟨g,0,none⟩)/\Work wc w.heap.size g gF gA m 0 A c xs base (Y1 xs.length 0) (Y1 (xs.length+1) 0) (λ _=>none)/\Below w.heap.size w wc)
 case first JJ KK hJJ hKK =>
  refine wp_region_any (by kernel_rfl) ?_;change wpAny _ _ _ _ _ _ _ (World.drew _);have k4:IntKind.i64.wrap ((xs.length:Int)+1)=(xs.length:Int)+1:=by rw[IntWalk.i64_in _ (by omega)]
  refine wpAny_take (i:=0) (v:=.slice A xs.length c) rfl (by kernel_rfl) (by kernel_rfl) (by kernel_rfl) (λ _ _ _ h=>h) (Or.inl ⟨by rfl,λ w=>rfl⟩) ?_;refine wpAny_take (i:=1) (v:=.int .i64 base) rfl (by kernel_rfl) (by kernel_rfl) (by kernel_rfl) (λ _ _ _ h=>h) (Or.inl ⟨by rfl,λ w=>rfl⟩) ?_;refine wpAny_take (i:=2) (v:=.slice A xs.length c) rfl (by kernel_rfl) (by kernel_rfl) (by kernel_rfl) (λ _ _ _ h=>h) (Or.inl ⟨by rfl,λ w=>rfl⟩) ?_;refine wpAny_take (i:=3) (v:=.int .i64 xs.length) rfl (by kernel_rfl) (by kernel_rfl) (by kernel_rfl) (λ _ _ _ h=>h) (Or.inl ⟨by rfl,λ w=>by go_simp⟩) ?_;refine wpAny_take (i:=5) (v:=.slice A xs.length c) rfl (by kernel_rfl) (by kernel_rfl) (by kernel_rfl) (λ _ _ _ h=>h) (Or.inl ⟨by rfl,λ w=>rfl⟩) ?_;refine wpAny_take (i:=6) (v:=.int .i64 xs.length) rfl (by kernel_rfl) (by kernel_rfl) (by kernel_rfl) (λ _ _ _ h=>h) (Or.inl ⟨by rfl,λ w=>by go_simp⟩) ?_;refine wpAny_take (i:=7) (v:=.int .i64 ((xs.length:Int)+1)) rfl (by kernel_rfl) (by kernel_rfl) (by kernel_rfl) (λ _ _ _ h=>h) (Or.inl ⟨by rfl,λ w=>by go_simp⟩) ?_;have h0:=AsSt.start w w.drew xs.length (Zeg w);clear k4;refine Zbo ?_;intro a0 r;refine wpAny_ready (rs:=[4,8,9]) (by kernel_rfl) (by simp) ?_;refine Yf (o:=?oo04) ?p04 ?q04 ?r04
  case' p04=>rfl
  .intro K l
   refine Zca h0 hl rfl (.tmp 28) rfl (by rw[r];kernel_rfl) (some 29) rfl (λ Z h4=>l _ _ ?_);clear l K;refine wpAny_ready (rs:=[8,9]) (by kernel_rfl) (by simp) ?_;refine Yf (o:=?oo048) ?p048 ?q048 ?r048
   case' p048=>rfl
   .intro K l
    refine Zcb h4 hl rfl (.tmp 32) rfl (by rw[r];kernel_rfl) (some 33) rfl (λ a3 g5=>l _ _ ?_);clear l K;refine wpAny_ready (rs:=[9]) (by kernel_rfl) (by simp) ?_;refine Yf (o:=?oo0489) ?p0489 ?q0489 ?r0489
    case' p0489=>rfl
    .intro K l
     refine Zcc g5 rfl rfl (some 34) rfl (λ D f9=>l _ _ ?_);clear l K;obtain⟨gg,U,z,P⟩:=f9.work (A:=A) (c:=c) (base:=base);refine Zbo ?_;intro a1 s;refine wpAny_ready (rs:=[10]) (by kernel_rfl) (by simp) ?_;refine Yf (o:=?oo0489x0) ?p0489x0 ?q0489x0 ?r0489x0
     case' p0489x0=>rfl
     case' r0489x0=>exact Yi
     intro K l;refine Z3 rfl (some 35) rfl (v:=.agg #[.slice A xs.length c,.int .i64 base,.slice (some ⟨w.drew.heap.size,0,none⟩) xs.length xs.length,.slice (some ⟨Z.heap.size,0,none⟩) (xs.length+1) (xs.length+1),.map (some a3.heap.size)]) (w':=D) (by rw[s,r];kernel_rfl) (l _ _ ?_);clear l K;refine wpAny_ready (rs:=[11]) (by kernel_rfl) (by simp) ?_;refine Yf (o:=?oo0489x1) ?p0489x1 ?q0489x1 ?r0489x1
     case' p0489x1=>rfl
     case' r0489x1=>exact Yi
     intro K l;refine Z3 rfl (some 36) rfl (v:=.pointer (some ⟨D.heap.size,0,none⟩)) (w':=D.alloc (.cells #[.slice A xs.length c,.int .i64 base,.slice (some ⟨w.drew.heap.size,0,none⟩) xs.length xs.length,.slice (some ⟨Z.heap.size,0,none⟩) (xs.length+1) (xs.length+1),.map (some a3.heap.size)] 214)) (by rw[s,r];kernel_rfl) (l _ _ ?_);clear l K;refine wpAny_ready (rs:=[12]) (by kernel_rfl) (by simp) ?_;refine Yf (o:=?oo0489x2) ?p0489x2 ?q0489x2 ?r0489x2
     case' p0489x2=>rfl
     case' r0489x2=>exact Yi
     intro K l;refine Z3 rfl (some 6) rfl (v:=.pointer (some ⟨D.heap.size,0,none⟩)) (w':=D.alloc (.cells #[.slice A xs.length c,.int .i64 base,.slice (some ⟨w.drew.heap.size,0,none⟩) xs.length xs.length,.slice (some ⟨Z.heap.size,0,none⟩) (xs.length+1) (xs.length+1),.map (some a3.heap.size)] 214)) (by rw[s,r];kernel_rfl) (l _ _ ?_);clear l K;refine wpAny_done (by kernel_rfl) ?_ _;rw[s,r];refine hKK _ _ (Met.intro (hJJ _ _ ?_));exact⟨.pointer (some ⟨D.heap.size,0,none⟩),.slice A xs.length c,.int .i64 base,.slice A xs.length c,.int .i64 xs.length,.slice (some ⟨w.drew.heap.size,0,none⟩) xs.length xs.length,.slice A xs.length c,.int .i64 xs.length,.int .i64 ((xs.length:Int)+1),.slice (some ⟨Z.heap.size,0,none⟩) (xs.length+1) (xs.length+1),.map (some a3.heap.size),.agg #[.slice A xs.length c,.int .i64 base,.slice (some ⟨w.drew.heap.size,0,none⟩) xs.length xs.length,.slice (some ⟨Z.heap.size,0,none⟩) (xs.length+1) (xs.length+1),.map (some a3.heap.size)],.pointer (some ⟨D.heap.size,0,none⟩),⟨_,_,_,_,rfl,by rw[<- U] at z;exact z,P⟩,by kernel_rfl⟩
    exact Yi
   refine Yf (o:=?oo049) ?p049 ?q049 ?r049
   case' p049=>rfl
   .intro K l
    refine Zcc h4 rfl rfl (some 34) rfl (λ a8 i9=>l _ _ ?_);clear l K;refine wpAny_ready (rs:=[8]) (by kernel_rfl) (by simp) ?_;refine Yf (o:=?oo0498) ?p0498 ?q0498 ?r0498
    case' p0498=>rfl
    .intro K l
     refine Zcb i9 hl rfl (.tmp 32) rfl (by rw[r];kernel_rfl) (some 33) rfl (λ E f2=>l _ _ ?_);clear l K;obtain⟨gg,U,z,P⟩:=f2.work (A:=A) (c:=c) (base:=base);refine Zbo ?_;intro a1 s;refine wpAny_ready (rs:=[10]) (by kernel_rfl) (by simp) ?_;refine Yf (o:=?oo0498x0) ?p0498x0 ?q0498x0 ?r0498x0
     case' p0498x0=>rfl
     case' r0498x0=>exact Yi
     intro K l;refine Z3 rfl (some 35) rfl (v:=.agg #[.slice A xs.length c,.int .i64 base,.slice (some ⟨w.drew.heap.size,0,none⟩) xs.length xs.length,.slice (some ⟨a8.heap.size,0,none⟩) (xs.length+1) (xs.length+1),.map (some Z.heap.size)]) (w':=E) (by rw[s,r];kernel_rfl) (l _ _ ?_);clear l K;refine wpAny_ready (rs:=[11]) (by kernel_rfl) (by simp) ?_;refine Yf (o:=?oo0498x1) ?p0498x1 ?q0498x1 ?r0498x1
     case' p0498x1=>rfl
     case' r0498x1=>exact Yi
     intro K l;refine Z3 rfl (some 36) rfl (v:=.pointer (some ⟨E.heap.size,0,none⟩)) (w':=E.alloc (.cells #[.slice A xs.length c,.int .i64 base,.slice (some ⟨w.drew.heap.size,0,none⟩) xs.length xs.length,.slice (some ⟨a8.heap.size,0,none⟩) (xs.length+1) (xs.length+1),.map (some Z.heap.size)] 214)) (by rw[s,r];kernel_rfl) (l _ _ ?_);clear l K;refine wpAny_ready (rs:=[12]) (by kernel_rfl) (by simp) ?_;refine Yf (o:=?oo0498x2) ?p0498x2 ?q0498x2 ?r0498x2
     case' p0498x2=>rfl
     case' r0498x2=>exact Yi
     intro K l;refine Z3 rfl (some 6) rfl (v:=.pointer (some ⟨E.heap.size,0,none⟩)) (w':=E.alloc (.cells #[.slice A xs.length c,.int .i64 base,.slice (some ⟨w.drew.heap.size,0,none⟩) xs.length xs.length,.slice (some ⟨a8.heap.size,0,none⟩) (xs.length+1) (xs.length+1),.map (some Z.heap.size)] 214)) (by rw[s,r];kernel_rfl) (l _ _ ?_);clear l K;refine wpAny_done (by kernel_rfl) ?_ _;rw[s,r];refine hKK _ _ (Met.intro (hJJ _ _ ?_));exact⟨.pointer (some ⟨E.heap.size,0,none⟩),.slice A xs.length c,.int .i64 base,.slice A xs.length c,.int .i64 xs.length,.slice (some ⟨w.drew.heap.size,0,none⟩) xs.length xs.length,.slice A xs.length c,.int .i64 xs.length,.int .i64 ((xs.length:Int)+1),.slice (some ⟨a8.heap.size,0,none⟩) (xs.length+1) (xs.length+1),.map (some Z.heap.size),.agg #[.slice A xs.length c,.int .i64 base,.slice (some ⟨w.drew.heap.size,0,none⟩) xs.length xs.length,.slice (some ⟨a8.heap.size,0,none⟩) (xs.length+1) (xs.length+1),.map (some Z.heap.size)],.pointer (some ⟨E.heap.size,0,none⟩),⟨_,_,_,_,rfl,by rw[<- U] at z;exact z,P⟩,by kernel_rfl⟩
    exact Yi
   exact Yi
  refine Yf (o:=?oo08) ?p08 ?q08 ?r08
  case' p08=>rfl
  .intro K l
   refine Zcb h0 hl rfl (.tmp 32) rfl (by rw[r];kernel_rfl) (some 33) rfl (λ W i2=>l _ _ ?_);clear l K;refine wpAny_ready (rs:=[4,9]) (by kernel_rfl) (by simp) ?_;refine Yf (o:=?oo084) ?p084 ?q084 ?r084
   case' p084=>rfl
   .intro K l
    refine Zca i2 hl rfl (.tmp 28) rfl (by rw[r];kernel_rfl) (some 29) rfl (λ a2 h7=>l _ _ ?_);clear l K;refine wpAny_ready (rs:=[9]) (by kernel_rfl) (by simp) ?_;refine Yf (o:=?oo0849) ?p0849 ?q0849 ?r0849
    case' p0849=>rfl
    .intro K l
     refine Zcc h7 rfl rfl (some 34) rfl (λ C f3=>l _ _ ?_);clear l K;obtain⟨gg,U,z,P⟩:=f3.work (A:=A) (c:=c) (base:=base);refine Zbo ?_;intro a1 s;refine wpAny_ready (rs:=[10]) (by kernel_rfl) (by simp) ?_;refine Yf (o:=?oo0849x0) ?p0849x0 ?q0849x0 ?r0849x0
     case' p0849x0=>rfl
     case' r0849x0=>exact Yi
     intro K l;refine Z3 rfl (some 35) rfl (v:=.agg #[.slice A xs.length c,.int .i64 base,.slice (some ⟨W.heap.size,0,none⟩) xs.length xs.length,.slice (some ⟨w.drew.heap.size,0,none⟩) (xs.length+1) (xs.length+1),.map (some a2.heap.size)]) (w':=C) (by rw[s,r];kernel_rfl) (l _ _ ?_);clear l K;refine wpAny_ready (rs:=[11]) (by kernel_rfl) (by simp) ?_;refine Yf (o:=?oo0849x1) ?p0849x1 ?q0849x1 ?r0849x1
     case' p0849x1=>rfl
     case' r0849x1=>exact Yi
     intro K l;refine Z3 rfl (some 36) rfl (v:=.pointer (some ⟨C.heap.size,0,none⟩)) (w':=C.alloc (.cells #[.slice A xs.length c,.int .i64 base,.slice (some ⟨W.heap.size,0,none⟩) xs.length xs.length,.slice (some ⟨w.drew.heap.size,0,none⟩) (xs.length+1) (xs.length+1),.map (some a2.heap.size)] 214)) (by rw[s,r];kernel_rfl) (l _ _ ?_);clear l K;refine wpAny_ready (rs:=[12]) (by kernel_rfl) (by simp) ?_;refine Yf (o:=?oo0849x2) ?p0849x2 ?q0849x2 ?r0849x2
     case' p0849x2=>rfl
     case' r0849x2=>exact Yi
     intro K l;refine Z3 rfl (some 6) rfl (v:=.pointer (some ⟨C.heap.size,0,none⟩)) (w':=C.alloc (.cells #[.slice A xs.length c,.int .i64 base,.slice (some ⟨W.heap.size,0,none⟩) xs.length xs.length,.slice (some ⟨w.drew.heap.size,0,none⟩) (xs.length+1) (xs.length+1),.map (some a2.heap.size)] 214)) (by rw[s,r];kernel_rfl) (l _ _ ?_);clear l K;refine wpAny_done (by kernel_rfl) ?_ _;rw[s,r];refine hKK _ _ (Met.intro (hJJ _ _ ?_));exact⟨.pointer (some ⟨C.heap.size,0,none⟩),.slice A xs.length c,.int .i64 base,.slice A xs.length c,.int .i64 xs.length,.slice (some ⟨W.heap.size,0,none⟩) xs.length xs.length,.slice A xs.length c,.int .i64 xs.length,.int .i64 ((xs.length:Int)+1),.slice (some ⟨w.drew.heap.size,0,none⟩) (xs.length+1) (xs.length+1),.map (some a2.heap.size),.agg #[.slice A xs.length c,.int .i64 base,.slice (some ⟨W.heap.size,0,none⟩) xs.length xs.length,.slice (some ⟨w.drew.heap.size,0,none⟩) (xs.length+1) (xs.length+1),.map (some a2.heap.size)],.pointer (some ⟨C.heap.size,0,none⟩),⟨_,_,_,_,rfl,by rw[<- U] at z;exact z,P⟩,by kernel_rfl⟩
    exact Yi
   refine Yf (o:=?oo089) ?p089 ?q089 ?r089
   case' p089=>rfl
   .intro K l
    refine Zcc i2 rfl rfl (some 34) rfl (λ a5 j2=>l _ _ ?_);clear l K;refine wpAny_ready (rs:=[4]) (by kernel_rfl) (by simp) ?_;refine Yf (o:=?oo0894) ?p0894 ?q0894 ?r0894
    case' p0894=>rfl
    .intro K l
     refine Zca j2 hl rfl (.tmp 28) rfl (by rw[r];kernel_rfl) (some 29) rfl (λ H f4=>l _ _ ?_);clear l K;obtain⟨gg,U,z,P⟩:=f4.work (A:=A) (c:=c) (base:=base);refine Zbo ?_;intro a1 s;refine wpAny_ready (rs:=[10]) (by kernel_rfl) (by simp) ?_;refine Yf (o:=?oo0894x0) ?p0894x0 ?q0894x0 ?r0894x0
     case' p0894x0=>rfl
     case' r0894x0=>exact Yi
     intro K l;refine Z3 rfl (some 35) rfl (v:=.agg #[.slice A xs.length c,.int .i64 base,.slice (some ⟨a5.heap.size,0,none⟩) xs.length xs.length,.slice (some ⟨w.drew.heap.size,0,none⟩) (xs.length+1) (xs.length+1),.map (some W.heap.size)]) (w':=H) (by rw[s,r];kernel_rfl) (l _ _ ?_);clear l K;refine wpAny_ready (rs:=[11]) (by kernel_rfl) (by simp) ?_;refine Yf (o:=?oo0894x1) ?p0894x1 ?q0894x1 ?r0894x1
     case' p0894x1=>rfl
     case' r0894x1=>exact Yi
     intro K l;refine Z3 rfl (some 36) rfl (v:=.pointer (some ⟨H.heap.size,0,none⟩)) (w':=H.alloc (.cells #[.slice A xs.length c,.int .i64 base,.slice (some ⟨a5.heap.size,0,none⟩) xs.length xs.length,.slice (some ⟨w.drew.heap.size,0,none⟩) (xs.length+1) (xs.length+1),.map (some W.heap.size)] 214)) (by rw[s,r];kernel_rfl) (l _ _ ?_);clear l K;refine wpAny_ready (rs:=[12]) (by kernel_rfl) (by simp) ?_;refine Yf (o:=?oo0894x2) ?p0894x2 ?q0894x2 ?r0894x2
     case' p0894x2=>rfl
     case' r0894x2=>exact Yi
     intro K l;refine Z3 rfl (some 6) rfl (v:=.pointer (some ⟨H.heap.size,0,none⟩)) (w':=H.alloc (.cells #[.slice A xs.length c,.int .i64 base,.slice (some ⟨a5.heap.size,0,none⟩) xs.length xs.length,.slice (some ⟨w.drew.heap.size,0,none⟩) (xs.length+1) (xs.length+1),.map (some W.heap.size)] 214)) (by rw[s,r];kernel_rfl) (l _ _ ?_);clear l K;refine wpAny_done (by kernel_rfl) ?_ _;rw[s,r];refine hKK _ _ (Met.intro (hJJ _ _ ?_));exact⟨.pointer (some ⟨H.heap.size,0,none⟩),.slice A xs.length c,.int .i64 base,.slice A xs.length c,.int .i64 xs.length,.slice (some ⟨a5.heap.size,0,none⟩) xs.length xs.length,.slice A xs.length c,.int .i64 xs.length,.int .i64 ((xs.length:Int)+1),.slice (some ⟨w.drew.heap.size,0,none⟩) (xs.length+1) (xs.length+1),.map (some W.heap.size),.agg #[.slice A xs.length c,.int .i64 base,.slice (some ⟨a5.heap.size,0,none⟩) xs.length xs.length,.slice (some ⟨w.drew.heap.size,0,none⟩) (xs.length+1) (xs.length+1),.map (some W.heap.size)],.pointer (some ⟨H.heap.size,0,none⟩),⟨_,_,_,_,rfl,by rw[<- U] at z;exact z,P⟩,by kernel_rfl⟩
    exact Yi
   exact Yi
  refine Yf (o:=?oo09) ?p09 ?q09 ?r09
  case' p09=>rfl
  .intro K l
   refine Zcc h0 rfl rfl (some 34) rfl (λ Y j8=>l _ _ ?_);clear l K;refine wpAny_ready (rs:=[4,8]) (by kernel_rfl) (by simp) ?_;refine Yf (o:=?oo094) ?p094 ?q094 ?r094
   case' p094=>rfl
   .intro K l
    refine Zca j8 hl rfl (.tmp 28) rfl (by rw[r];kernel_rfl) (some 29) rfl (λ a7 j3=>l _ _ ?_);clear l K;refine wpAny_ready (rs:=[8]) (by kernel_rfl) (by simp) ?_;refine Yf (o:=?oo0948) ?p0948 ?q0948 ?r0948
    case' p0948=>rfl
    .intro K l
     refine Zcb j3 hl rfl (.tmp 32) rfl (by rw[r];kernel_rfl) (some 33) rfl (λ B f1=>l _ _ ?_);clear l K;obtain⟨gg,U,z,P⟩:=f1.work (A:=A) (c:=c) (base:=base);refine Zbo ?_;intro a1 s;refine wpAny_ready (rs:=[10]) (by kernel_rfl) (by simp) ?_;refine Yf (o:=?oo0948x0) ?p0948x0 ?q0948x0 ?r0948x0
     case' p0948x0=>rfl
     case' r0948x0=>exact Yi
     intro K l;refine Z3 rfl (some 35) rfl (v:=.agg #[.slice A xs.length c,.int .i64 base,.slice (some ⟨Y.heap.size,0,none⟩) xs.length xs.length,.slice (some ⟨a7.heap.size,0,none⟩) (xs.length+1) (xs.length+1),.map (some w.drew.heap.size)]) (w':=B) (by rw[s,r];kernel_rfl) (l _ _ ?_);clear l K;refine wpAny_ready (rs:=[11]) (by kernel_rfl) (by simp) ?_;refine Yf (o:=?oo0948x1) ?p0948x1 ?q0948x1 ?r0948x1
     case' p0948x1=>rfl
     case' r0948x1=>exact Yi
     intro K l;refine Z3 rfl (some 36) rfl (v:=.pointer (some ⟨B.heap.size,0,none⟩)) (w':=B.alloc (.cells #[.slice A xs.length c,.int .i64 base,.slice (some ⟨Y.heap.size,0,none⟩) xs.length xs.length,.slice (some ⟨a7.heap.size,0,none⟩) (xs.length+1) (xs.length+1),.map (some w.drew.heap.size)] 214)) (by rw[s,r];kernel_rfl) (l _ _ ?_);clear l K;refine wpAny_ready (rs:=[12]) (by kernel_rfl) (by simp) ?_;refine Yf (o:=?oo0948x2) ?p0948x2 ?q0948x2 ?r0948x2
     case' p0948x2=>rfl
     case' r0948x2=>exact Yi
     intro K l;refine Z3 rfl (some 6) rfl (v:=.pointer (some ⟨B.heap.size,0,none⟩)) (w':=B.alloc (.cells #[.slice A xs.length c,.int .i64 base,.slice (some ⟨Y.heap.size,0,none⟩) xs.length xs.length,.slice (some ⟨a7.heap.size,0,none⟩) (xs.length+1) (xs.length+1),.map (some w.drew.heap.size)] 214)) (by rw[s,r];kernel_rfl) (l _ _ ?_);clear l K;refine wpAny_done (by kernel_rfl) ?_ _;rw[s,r];refine hKK _ _ (Met.intro (hJJ _ _ ?_));exact⟨.pointer (some ⟨B.heap.size,0,none⟩),.slice A xs.length c,.int .i64 base,.slice A xs.length c,.int .i64 xs.length,.slice (some ⟨Y.heap.size,0,none⟩) xs.length xs.length,.slice A xs.length c,.int .i64 xs.length,.int .i64 ((xs.length:Int)+1),.slice (some ⟨a7.heap.size,0,none⟩) (xs.length+1) (xs.length+1),.map (some w.drew.heap.size),.agg #[.slice A xs.length c,.int .i64 base,.slice (some ⟨Y.heap.size,0,none⟩) xs.length xs.length,.slice (some ⟨a7.heap.size,0,none⟩) (xs.length+1) (xs.length+1),.map (some w.drew.heap.size)],.pointer (some ⟨B.heap.size,0,none⟩),⟨_,_,_,_,rfl,by rw[<- U] at z;exact z,P⟩,by kernel_rfl⟩
    exact Yi
   refine Yf (o:=?oo098) ?p098 ?q098 ?r098
   case' p098=>rfl
   .intro K l
    refine Zcb j8 hl rfl (.tmp 32) rfl (by rw[r];kernel_rfl) (some 33) rfl (λ a6 i1=>l _ _ ?_);clear l K;refine wpAny_ready (rs:=[4]) (by kernel_rfl) (by simp) ?_;refine Yf (o:=?oo0984) ?p0984 ?q0984 ?r0984
    case' p0984=>rfl
    .intro K l
     refine Zca i1 hl rfl (.tmp 28) rfl (by rw[r];kernel_rfl) (some 29) rfl (λ G f7=>l _ _ ?_);clear l K;obtain⟨gg,U,z,P⟩:=f7.work (A:=A) (c:=c) (base:=base);refine Zbo ?_;intro a1 s;refine wpAny_ready (rs:=[10]) (by kernel_rfl) (by simp) ?_;refine Yf (o:=?oo0984x0) ?p0984x0 ?q0984x0 ?r0984x0
     case' p0984x0=>rfl
     case' r0984x0=>exact Yi
     intro K l;refine Z3 rfl (some 35) rfl (v:=.agg #[.slice A xs.length c,.int .i64 base,.slice (some ⟨a6.heap.size,0,none⟩) xs.length xs.length,.slice (some ⟨Y.heap.size,0,none⟩) (xs.length+1) (xs.length+1),.map (some w.drew.heap.size)]) (w':=G) (by rw[s,r];kernel_rfl) (l _ _ ?_);clear l K;refine wpAny_ready (rs:=[11]) (by kernel_rfl) (by simp) ?_;refine Yf (o:=?oo0984x1) ?p0984x1 ?q0984x1 ?r0984x1
     case' p0984x1=>rfl
     case' r0984x1=>exact Yi
     intro K l;refine Z3 rfl (some 36) rfl (v:=.pointer (some ⟨G.heap.size,0,none⟩)) (w':=G.alloc (.cells #[.slice A xs.length c,.int .i64 base,.slice (some ⟨a6.heap.size,0,none⟩) xs.length xs.length,.slice (some ⟨Y.heap.size,0,none⟩) (xs.length+1) (xs.length+1),.map (some w.drew.heap.size)] 214)) (by rw[s,r];kernel_rfl) (l _ _ ?_);clear l K;refine wpAny_ready (rs:=[12]) (by kernel_rfl) (by simp) ?_;refine Yf (o:=?oo0984x2) ?p0984x2 ?q0984x2 ?r0984x2
     case' p0984x2=>rfl
     case' r0984x2=>exact Yi
     intro K l;refine Z3 rfl (some 6) rfl (v:=.pointer (some ⟨G.heap.size,0,none⟩)) (w':=G.alloc (.cells #[.slice A xs.length c,.int .i64 base,.slice (some ⟨a6.heap.size,0,none⟩) xs.length xs.length,.slice (some ⟨Y.heap.size,0,none⟩) (xs.length+1) (xs.length+1),.map (some w.drew.heap.size)] 214)) (by rw[s,r];kernel_rfl) (l _ _ ?_);clear l K;refine wpAny_done (by kernel_rfl) ?_ _;rw[s,r];refine hKK _ _ (Met.intro (hJJ _ _ ?_));exact⟨.pointer (some ⟨G.heap.size,0,none⟩),.slice A xs.length c,.int .i64 base,.slice A xs.length c,.int .i64 xs.length,.slice (some ⟨a6.heap.size,0,none⟩) xs.length xs.length,.slice A xs.length c,.int .i64 xs.length,.int .i64 ((xs.length:Int)+1),.slice (some ⟨Y.heap.size,0,none⟩) (xs.length+1) (xs.length+1),.map (some w.drew.heap.size),.agg #[.slice A xs.length c,.int .i64 base,.slice (some ⟨a6.heap.size,0,none⟩) xs.length xs.length,.slice (some ⟨Y.heap.size,0,none⟩) (xs.length+1) (xs.length+1),.map (some w.drew.heap.size)],.pointer (some ⟨G.heap.size,0,none⟩),⟨_,_,_,_,rfl,by rw[<- U] at z;exact z,P⟩,by kernel_rfl⟩
    exact Yi
   exact Yi
  exact Yi
 case rest =>
  obtain⟨g,gF,gA,m,rfl,hW,hb⟩:=hcut;have c0:=Ya h9;have b9:=Ya Q;clear h9 Q;have n2:=hb.size;go_wp2_with fail
  go_loopw [7,39] (λ tw i wr=>∃(k n:Nat)(t:Bool)(F:List Int)(f:ByteArray->Option Int),k<=xs.length/\n<=k/\i=.int .i64 k/\tw=.bool t/\Tab xs k f t/\firstErr xs=firstErr (xs.drop k) /\
   (∀(j:Nat)(x:S.Item),j<k->xs[j]?=some x->F.getD j 0=startForm x)/\(∀j,k<=j->F.getD j 0=0) /\
   Work wr w.heap.size g gF gA m n A c xs base F (Y1 (xs.length+1) 0) f/\Below w.heap.size w wr) (λ _ i _=>xs.length-(intOf i).toNat)
  case atStart =>
   refine⟨0,0,false,_,_,by omega,by omega,rfl,rfl,Tab.start xs,by simp,λ j x X=>by omega,λ j _=>?_,hW,hb⟩;by_cases X:j<xs.length <;> simp[Yh,List.getElem?_replicate,X]
  case round =>
   obtain⟨k,n,t,F,f,hk,hn,rfl,rfl,hT,g1,i3,g3,c5,N⟩:=hrel;have HT:=Ya hT;have c1:=Ya g1;have c6:=Ya i3;have b3:=Ya g3;have f6:=N.size;clear hT g1 i3 g3 hW hb;by_cases b1:k<xs.length
   .obtain⟨b,off,x,rfl,hbA,V,hc0,hc1,hc2,hc3,hc4,hc5,hc6,hc7,hw0,hw1⟩:=(hi.below N).at_ b1
    have Hx:=Ya V;have Hd:=Ya (Zjp V);have c2:=b6.out k x V;have m6:b<wr.heap.size:=by omega
    clear V;obtain⟨kind,⟨op,d,a,b',imm⟩,lab,wd⟩:=x;simp only at hc0 hc1 hc2 hc3 hc4 hc5 hc6 hc7 hw0 hw1 c2;have a4:Below wr.heap.size wr (wr.alloc (.cells #[.int .i64 kind,.int .i64 op,.int .i64 d,.int .i64 a,.int .i64 b',.int .i64 imm,.string lab,.int .u32 wd] 135)):=(Below.refl _ _).alloc (Yd _) _;by_cases he:chkItem ⟨kind,⟨op,d,a,b',imm⟩,lab,wd⟩=0
    .have hd:=Zsv he
     have He:=Ya he;clear he;go_wp2_with fail
     refine(Zkq _ _ _ _ _ _ _ _ _).mono ?_;rintro e w1 ⟨rfl,Q⟩;have e8:Below wr.heap.size wr w1:=a4.trans (Q.mono (by simp));have m2:wr.heap.size<w1.heap.size:=by have:=Q.size;simp at this;omega
     have hX:∀(j:Nat)(v:Value),(#[Value.int .i64 kind,.int .i64 op,.int .i64 d,.int .i64 a,.int .i64 b',.int .i64 imm,.string lab,.int .u32 wd])[j]?=some v->w1.cell? ⟨wr.heap.size,j,none⟩=some v:=by
      intro j v hv;rw[Q.cell (p:=⟨_,j,none⟩) (by simp),<- hv];exact Zaa _ _ _ _
     have d3:=hX 0 (.int .i64 kind) rfl;have d4:=hX 6 (.string lab) rfl;have O:=c5.below e8;obtain⟨p0,p1,p2,p3,p4⟩:=O.cells;obtain⟨q1,q2⟩:=O.form b1;obtain⟨r1,r2,r3,r4⟩:=O.lts;have c7:Hid (firstErr xs=firstErr (xs.drop (k+1))):=Ya (by rw[c1.out,Hd.out,if_neg (by rw[He.out];simp)]);have f5:Below w.heap.size w w1:=N.trans (e8.mono f6);clear hX Hd c1 a4;by_cases l6:kind=3\/kind=4
     .rcases l6 with rfl|rfl
      all_goals
       obtain⟨d6,b0⟩:=O.grown k 1 rfl;have m4:(⟨gF,k,none⟩:Addr)≠⟨wr.heap.size,0,none⟩:=by
        intro e
        injection e with e _ _
        have:=c5.lts.2.1;omega
       have m8:=(World.cell?_setCell_other (w:=w1) (v:=.int .i64 1) (h:=m4)).trans d3;go_wp2_with fail
       go_roundw
       case rel =>
        refine⟨k+1,n,t,F.set k 1,f,by omega,by omega,by go_num,rfl,HT.out.other Hx.out (by simp),c7.out,λ j x X R=>?_,λ j X=>?_,d6,f5.trans b0⟩
        .by_cases M:j=k
         .subst M
          rw[Hx.out] at R;cases R;rw[Zas (by have:=O.forms.1;simp at this;omega)];simp[startForm]
         .rw[Z6 (λ e=>M e.symm)]
          exact c6.out j x (by omega) R
        .rw[Z6 (by omega)]
         exact b3.out j (by omega)
       case measure=>simp[intOf];omega
     .have hn3:=Zbm (a:=kind) (b:=3) (by omega)
      have n1:=Zbm (a:=kind) (b:=4) (by omega);by_cases k2:kind=2
      .subst k2
       have g8:∀u:Ext w1,(Instr.lookup 207 (.map (some m)) (.string lab) true).run prog u.val=.ok (.tuple #[.int .i64 ((f lab).getD 0),.bool (f lab).isSome]) u.val:=λ u=>(O.labels.below u.property).lookOk c2
       have h8:=Ya (HT.out.label Hx.out rfl);generalize (f lab).isSome=ok at *;go_wp2_with fail
       refine Zp (by kernel_rfl) (by kernel_rfl) ?_;have hE:=Zo w1
       repeat (first|go_big_quiet_step (fail))
       refine wpQuiet_nil ?_;intro w2 c3;have L:=Zbx c3;clear hE c3;have b5:=O.below L;have k9:=L.size;have m7:w2.cell? ⟨wr.heap.size,6,none⟩=some (.string lab):=by rw[L.cell (p:=⟨_,6,none⟩) (by simpa using m2)];exact d4
       clear p0 p1 p2 p3 p4 q1 q2;obtain⟨p0,p1,p2,p3,p4⟩:=b5.cells;obtain⟨s1,s2,s3,s4⟩:=b5.lts;have l7:wr.heap.size<w2.heap.size:=by omega
       cases t
       all_goals
        go_wp2_with fail
        refine Zm 7 (by kernel_rfl) (by kernel_rfl) ?_;have hE:=Zo w2;simp only[List.take_succ_cons,List.take_zero,List.drop_succ_cons,List.drop_zero]
        repeat (first|go_big_quiet_step (fail))
        refine wpQuiet_nil ?_;intro w3 h3;have b0:=Zbx h3;clear hE h3;have d6:=b5.below b0;refine Zd6 rfl rfl (.tmp 83) (.tmp 85) (.tmp 86) rfl m n _ rfl d6.labels (by omega) lab k rfl rfl c2 (Z32 (by omega)) ?_;intro w4 k3 k6;have g7:=k3.mono (n':=n+1) (by split <;> omega);obtain⟨k1,k5⟩:=d6.told g7 k6;have m0:Below w.heap.size w w4:=((f5.trans (L.mono (by omega))).trans (b0.mono (by omega))).trans k5;go_wp2_with fail
        go_roundw
        case rel =>
         refine⟨k+1,n+1,_,F,_,by omega,by omega,by go_num,rfl,h8.out,c7.out,λ j x X R=>?_,λ j X=>b3.out j (by omega),k1,m0⟩;by_cases M:j=k
         .subst M
          rw[Hx.out] at R;cases R;rw[b3.out j (by omega)];simp[startForm]
         .exact c6.out j x (by omega) R
        case measure=>simp[intOf];omega
      .have hn2:=Zbm k2
       go_wp2_with fail
       go_roundw
       case rel =>
        refine⟨k+1,n,t,F,f,by omega,by omega,by go_num,rfl,HT.out.other Hx.out k2,c7.out,λ j x X R=>?_,λ j X=>b3.out j (by omega),O,f5⟩;by_cases M:j=k
        .subst M
         rw[Hx.out] at R;cases R;rw[b3.out j (by omega)];simp[startForm];omega
        .exact c6.out j x (by omega) R
       case measure=>simp[intOf];omega
    .have hd:=Zbm he
     have He:=Ya he;clear he;go_wp2_with fail
     refine(Zkq _ _ _ _ _ _ _ _ _).mono ?_;rintro e w1 ⟨rfl,Q⟩;go_wp2_with fail
     rw[Exit.noGoto_ret]
     go_ret2
     refine⟨N.trans ((a4.trans (Q.mono (by simp))).mono f6),.inl ⟨_,He.out,rfl,.inl ⟨He.out,.inr (.inl ⟨c0.out,b9.out,?_,?_⟩),rfl⟩⟩⟩
     .rw[c1.out,Hd.out,if_pos He.out];exact He.out
     .rw[c1.out,Hd.out,if_pos He.out]
   .have hkl:k=xs.length:=by omega
    subst hkl;have d2:Hid (firstErr xs=0):=Ya (by rw[c1.out,List.drop_length];rfl);have m3:F=xs.map startForm:=by
     have l8:F.length=xs.length:=by have:=c5.forms.1;simpa using this
     refine Zeh (by simp[l8]) λ j=>?_
     by_cases X:j<xs.length
     .rw[c6.out j _ X (Ye X)]
      simp[Yh,Ye X]
     .rw[b3.out j (by omega)]
      simp[Yh,X]
    subst m3;clear c6 b3 c1
    cases t
    .obtain⟨hfl,hnd⟩:=HT.out.done
     subst hfl;have j6:=Ya hnd;clear hnd;obtain⟨wA,l9⟩:=Yx wr;subst l9;go_wp2_with fail
     go_loopw [91] (λ i wr=>∃k:Nat,k<=xs.length/\i=.int .i64 k/\(∀(j:Nat)(x:S.Item),j<k->xs[j]?=some x->named x=true->0<=stands xs x.label)/\Below wA.heap.size wA wr) (λ i _=>xs.length-(intOf i).toNat)
     case atStart=>exact⟨0,by omega,rfl,λ j x X=>by omega,Below.refl _ _⟩
     case round =>
      obtain⟨k,hk,rfl,c4,a9⟩:=hrel;have d5:=Ya c4;have b8:=c5.below a9;have m9:=a9.size;have e1:=N.trans (a9.mono f6);clear c4;by_cases b1:k<xs.length
      .obtain⟨b,off,x,rfl,hbA,V,hc0,hc1,hc2,hc3,hc4,hc5,hc6,hc7,hw0,hw1⟩:=(hi.below e1).at_ b1
       have Hx:=Ya V;have c2:=b6.out k x V;have m6:b<wr.heap.size:=by omega
       clear V;obtain⟨kind,⟨op,d,a,b',imm⟩,lab,wd⟩:=x;simp only at hc0 hc1 hc2 hc3 hc4 hc5 hc6 hc7 hw0 hw1 c2;have a4:Below wr.heap.size wr (wr.alloc (.cells #[.int .i64 kind,.int .i64 op,.int .i64 d,.int .i64 a,.int .i64 b',.int .i64 imm,.string lab,.int .u32 wd] 135)):=(Below.refl _ _).alloc (Yd _) _;have d8:=b8.below a4;obtain⟨p0,p1,p2,p3,p4⟩:=d8.cells;obtain⟨l1,l2,l3,l4⟩:=b8.lts;obtain⟨s1,s2,s3,s4⟩:=d8.lts;have hX:∀(j:Nat)(v:Value),(#[Value.int .i64 kind,.int .i64 op,.int .i64 d,.int .i64 a,.int .i64 b',.int .i64 imm,.string lab,.int .u32 wd])[j]?=some v->(wr.alloc (.cells #[.int .i64 kind,.int .i64 op,.int .i64 d,.int .i64 a,.int .i64 b',.int .i64 imm,.string lab,.int .u32 wd] 135)).cell? ⟨wr.heap.size,j,none⟩=some v:=by
        intro j v hv;rw[<- hv];exact Zaa _ _ _ _
       have d3:=hX 0 (.int .i64 kind) rfl;have h5:=hX 1 (.int .i64 op) rfl;have j5:=hX 2 (.int .i64 d) rfl;have i5:=hX 3 (.int .i64 a) rfl;have i6:=hX 4 (.int .i64 b') rfl;have g6:=hX 5 (.int .i64 imm) rfl;have d4:=hX 6 (.string lab) rfl;have i7:=hX 7 (.int .u32 wd) rfl;have l0:wr.heap.size<(wr.alloc (.cells #[.int .i64 kind,.int .i64 op,.int .i64 d,.int .i64 a,.int .i64 b',.int .i64 imm,.string lab,.int .u32 wd] 135)).heap.size:=by simp
       clear hX;go_wp2_with fail
       generalize wr.alloc (.cells #[.int .i64 kind,.int .i64 op,.int .i64 d,.int .i64 a,.int .i64 b',.int .i64 imm,.string lab,.int .u32 wd] 135)=wX at *;have g8:∀u:Ext wX,(Instr.lookup 207 (.map (some m)) (.string lab) true).run prog u.val=.ok (.tuple #[.int .i64 ((Zd4 xs lab).getD 0),.bool (Zd4 xs lab).isSome]) u.val:=λ u=>(d8.labels.below u.property).lookOk c2
       have i4:(Zd4 xs lab).isSome=decide (0<=stands xs lab):=by
        unfold Zd4;by_cases h:stands xs lab<0
        .rw[if_pos h];simp;omega
        .rw[if_neg h];simp;omega
       have g4:=Ya i4;clear i4;generalize hokk:(Zd4 xs lab).isSome=ok at *;generalize (Zd4 xs lab).getD 0=q at *;clear hokk;refine Zp (by kernel_rfl) (by kernel_rfl) ?_;have hE:=Zo wX
       repeat (first|go_big_quiet_step (fail))
       refine wpQuiet_nil ?_;intro w2 c3;have L:=Zbx c3;clear hE c3 g8;have hY:∀j:Nat,w2.cell? ⟨wr.heap.size,j,none⟩=wX.cell? ⟨wr.heap.size,j,none⟩:=λ j=>L.cell (p:=⟨_,j,none⟩) l0
       rw[<- hY] at d3 h5 j5 i5 i6 g6 d4 i7;have k9:=L.size;have g0:Below w.heap.size w w2:=e1.trans ((a4.trans (L.mono (by omega))).mono (by omega));have g9:Below wA.heap.size wA w2:=a9.trans ((a4.trans (L.mono (by omega))).mono (by omega));have l7:wr.heap.size<w2.heap.size:=by omega
       clear hY p0 p1 p2 p3 p4 a4 L d8;go_wp2_with fail
       refine(Zkp _ _ _ _ _ _ _ _ _).mono ?_;rintro e w3 ⟨rfl,b0⟩;have j9:=g0.trans (b0.mono (by omega));have e4:=g9.trans (b0.mono (by omega));generalize c4:named ⟨kind,⟨op,d,a,b',imm⟩,lab,wd⟩=nm;have HN:=Ya c4;clear c4 d3 h5 j5 i5 i6 g6 d4 i7
       cases nm
       .go_wp2_with fail
        go_roundw
        case rel =>
         refine⟨k+1,by omega,by go_num,λ j y X b2 hn=>?_,e4⟩;by_cases M:j=k
         .subst M
          rw[Hx.out] at b2;cases b2;rw[HN.out] at hn;cases hn
         .exact d5.out j y (by omega) b2 hn
        case measure=>simp[intOf];omega
       .cases ok
        .go_wp2_with fail
         rw[Exit.noGoto_ret]
         go_ret2
         refine⟨j9,.inl ⟨_,by simp,rfl,.inl ⟨by simp,.inr (.inr (.inr (.inl ⟨c0.out,b9.out,d2.out,j6.out,⟨k,_,Hx.out,HN.out,?_⟩,rfl⟩))),rfl⟩⟩⟩;have:=g4.out;simp at this;exact this
        .go_wp2_with fail
         go_roundw
         case rel =>
          refine⟨k+1,by omega,by go_num,λ j y X b2 hn=>?_,e4⟩;by_cases M:j=k
          .subst M
           rw[Hx.out] at b2;cases b2;have:=g4.out
           simpa using this
          .exact d5.out j y (by omega) b2 hn
         case measure=>simp[intOf];omega
      .have hkl:k=xs.length:=by omega
       subst hkl;have b4:¬Miss xs:=by
        rintro⟨j,y,hy,hn,hs⟩;have:=d5.out j y (Yg.1 hy).1 hy hn;omega
       have e9:=Ya b4;have e7:CheckRes xs base 0:=.inr (.inr (.inr (.inr ⟨c0.out,b9.out,d2.out,j6.out,b4,rfl⟩)));have e5:=Ya e7;have l5:=Ya HT.out;clear b4 e7 d5 HT c5 N;have j4:=b8;have i0:=Zo6 xs base;have j0:=Ya i0;clear b8 i0 a9;go_wp2_with fail
       go_step3
       go_wp2_with fail
       go_loopg [] (Zqv (xs.map startForm)) (λ gk wr=>∃F T,Zqv F<=gk/\S.Inv xs base F/\Work wr w.heap.size g gF gA m n A c xs base F T (Zd4 xs)/\Below w.heap.size w wr)
       case atStart=>exact⟨_,_,Yd _,j0.out,j4,e1⟩
       case round =>
        obtain⟨F,T,m5,e6,z,N⟩:=hrel;have J:=Ya e6;have k0:=N.size;clear e6 j4 e1 j0;obtain⟨wo,rfl⟩:∃wo:World,wo=wr:=⟨_,rfl⟩
        go_wp2_with fail
        refine(Zs9 _ z (hi.below N) k0 J.out.1 hl c0.out b9.out Hw.out b6.out (λ k x V hk=>l5.out.shut V hk) (by omega)).mono ?_;rintro e w1 ⟨Q,⟨rfl,b7,O⟩|⟨rfl,b7⟩⟩
        .have Htot:=Ya b7
         have e3:=N.trans Q;have n0:=e3.size;clear b7 z;go_wp2_with fail
         go_loopw [117,17] (λ i t wr=>∃(k:Nat)(mb:Bool)(F1:List Int),k<=xs.length/\i=.int .i64 k/\t=.bool mb/\S.Inv xs base F1/\(∀j,k<=j->F1.getD j 0=F.getD j 0) /\
          (mb=false->F1=F/\∀(j:Nat)(x:S.Item),j<k->xs[j]?=some x->fit xs F base j x=true)/\(mb=true->Zqv F1<Zqv F) /\
          Work wr w.heap.size g gF gA m n A c xs base F1 (Zek xs F base (xs.length+1)) (Zd4 xs)/\Below w.heap.size w wr) (λ i _ _=>xs.length-(intOf i).toNat)
         case atStart=>exact⟨0,false,F,by omega,rfl,rfl,J.out,λ _ _=>rfl,λ _=>⟨rfl,λ j x X=>by omega⟩,(λ h=>by cases h),O,e3⟩
         case round =>
          obtain⟨k,mb,F1,hk,rfl,rfl,g2,c9,j1,j7,d7,c8⟩:=hrel;have d1:=Ya g2;have I:=Ya c9;have e0:=Ya j1;have f0:=Ya j7;have k8:=c8.size;clear g2 c9 j1 j7 O;by_cases b1:k<xs.length
          .have V:=Ya (Ye b1)
           generalize xs[k]=x at V;have h6:=Ya (λ(hn:named x=true)=>(Int.not_lt.1 λ hs=>e9.out ⟨k,x,V.out,hn,hs⟩:0<=stands xs x.label));have i8:k<F1.length:=by rw[d1.out.1.1];exact b1
           go_wp2_with fail
           refine(Zs0 _ d7 (hi.below c8) k8 k x V.out J.out.1 (I.out k (Yd _)) h6.out (b6.out k x V.out) hl c0.out b9.out Hw.out).mono ?_;rintro e w2 ⟨F',rfl,d9,b5,L⟩;have d0:=c8.trans L;generalize hft:fit xs F base k x=ft at *;have f8:=Ya hft;clear hft d7
           cases ft
           .rw[if_neg (by simp)] at d9
            subst d9;have h2:=Zkr J.out.1 V.out f8.out;rw[<- I.out k (Yd _)] at h2;have hr:=Zus (F:=F1) i8 (by omega);have k7:=Ya (Zur J.out d1.out Hw.out V.out (I.out k (Yd _)) f8.out);have m1:Hid (Zqv (F1.set k (F1.getD k 0+1))<Zqv F):=Ya (by
             cases mb
             .rw[(e0.out (by simp)).1] at hr⊢;exact hr
             .have:=f0.out (by simp);omega)
            clear h2 hr
            cases mb
            all_goals
             go_wp2_with fail
             go_roundw
             case rel =>
              refine⟨k+1,true,_,by omega,by go_num,rfl,k7.out,λ j X=>?_,(λ h=>by cases h),λ _=>m1.out,b5,d0⟩;rw[Z6 (by omega)];exact I.out j (by omega)
             case measure=>simp[intOf];omega
           .rw[if_pos rfl] at d9
            subst d9
            cases mb
            .go_wp2_with fail
             go_roundw
             case rel =>
              refine⟨k+1,false,_,by omega,by go_num,rfl,d1.out,λ j X=>I.out j (by omega),λ _=>⟨(e0.out (by simp)).1,λ j y X hy=>?_⟩,(λ h=>by cases h),b5,d0⟩;by_cases M:j=k
              .subst M
               rw[V.out] at hy;cases hy;exact f8.out
              .exact(e0.out (by simp)).2 j y (by omega) hy
             case measure=>simp[intOf];omega
            .go_wp2_with fail
             go_roundw
             case rel=>exact⟨k+1,true,_,by omega,by go_num,rfl,d1.out,λ j X=>I.out j (by omega),(λ h=>by cases h),λ _=>f0.out (by simp),b5,d0⟩
             case measure=>simp[intOf];omega
          .have hkl:k=xs.length:=by omega
           subst hkl
           cases mb
           .obtain⟨rfl,hall⟩:=e0.out (by simp)
            have h1:=Ya hall;clear hall;go_wp2_with fail
            try rw[Exit.noGoto_ret]
            go_ret2
            refine⟨c8,.inr ⟨g,gF,gA,m,n,_,by omega,rfl,.inr (.inr ⟨e5.out,rfl,J.out,⟨J.out.1,λ i x V=>h1.out i x (Yg.1 V).1 V⟩,Htot.out⟩),d7⟩⟩
           .have hr:=f0.out (by simp)
            go_wp2_with fail
            go_roundg (Zqv F1)
            case rel=>exact⟨F1,_,Yd _,d1.out,d7,c8⟩
            case measure=>omega
        .go_wp2_with fail
         rw[Exit.noGoto_ret]
         go_ret2
         exact⟨N.trans Q,.inl ⟨_,by simp,rfl,.inr (.inl ⟨e5.out,rfl,rfl,F,J.out,b7⟩)⟩⟩
    .go_wp2_with fail
     rw[Exit.noGoto_ret]
     go_ret2
     exact⟨N,.inl ⟨_,by simp,rfl,.inl ⟨by simp,.inr (.inr (.inl ⟨c0.out,b9.out,d2.out,HT.out.twice,rfl⟩)),rfl⟩⟩⟩
