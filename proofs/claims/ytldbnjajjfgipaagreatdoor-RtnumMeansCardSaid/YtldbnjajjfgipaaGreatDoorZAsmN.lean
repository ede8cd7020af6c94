/- Parts. -/
import Derived.Test.YtldbnjajjfgipaaGreatDoorZAsmTab
import Derived.Deep.LoopGhost
set_option linter.all false
set_option maxHeartbeats 8000000
open Go.Lib renaming hid->Ya
open Nat renaming le_refl->Yb
open List renaming getD_eq_getElem?_getD->Ye,getElem?_eq_getElem->Yf,getElem?_eq_some_iff->Yg,replicate->Yt
open Go.AllReady renaming cons->Yk,nil->Yq
namespace Go.Proofs.YtldbnjajjfgipaaGreatDoor
open S Go.Proofs.Tryz Go.RowKit
set_option maxRecDepth 100000
def Zfi (w:World)(A:Option Addr)(c:Nat)(xs:List S.Item)(base:Int)(e:Ending)(w':World):Prop :=
 Below w.heap.size w w'/\((∃r,r≠0/\e=.returned (.tuple #[.pointer none,.int .i64 r])/\FormsRes xs base r []) \/
  (∃(g gF gA m n:Nat)(F:List Int),n<=1048576/\e=.returned (.tuple #[.pointer (some ⟨g,0,none⟩),.int .i64 0])/\FormsRes xs base 0 F /\
   Work w' w.heap.size g gF gA m n A c xs base F (Zfw xs F base (xs.length+1)) (Zfc xs)))
theorem Zj9 (w:World){A:Option Addr}{c:Nat}{xs:List S.Item}{base:Int}(hi:Items w w.heap.size A xs)(g5:0<=base)(Q:base<=67108864)(hl:xs.length<=1048576)
 (e5:∀(k:Nat)(x:S.Item),xs[k]?=some x->x.label.size<=maxLen) (hw:∀x∈xs,0<=x.word/\x.word<=4294967295) :
 Calls prog 189 #[.slice A xs.length c,.int .i64 base] w (Zfi w A c xs base):=by
 have b7:=Ya e5;have Hw:=Ya hw;clear e5 hw;go_enter func189,ntmps189
 go_wp2_with fail
 go_step3
 go_upto_region 3 with fail
 go_cut [6] from 25 to 36 (λ s6 wc=>∃g gF gA m,s6=.pointer (some ⟨g,0,none⟩)/\Work wc w.heap.size g gF gA m 0 A c xs base (Yt xs.length 0) (Yt (xs.length+1) 0) (λ _=>none)/\Below w.heap.size w wc)
 case first JJ KK hJJ hKK =>
  refine wp_region_any (by kernel_rfl) ?_;change wpAny _ _ _ _ _ _ _ (World.drew _);have m5:IntKind.i64.wrap ((xs.length:Int)+1)=(xs.length:Int)+1:=by rw[IntWalk.i64_in _ (by omega)]
  refine wpAny_take (i:=0) (v:=.slice A xs.length c) rfl (by kernel_rfl) (by kernel_rfl) (by kernel_rfl) (λ _ _ _ h=>h) (Or.inl ⟨by rfl,λ w=>rfl⟩) ?_;refine wpAny_take (i:=1) (v:=.int .i64 base) rfl (by kernel_rfl) (by kernel_rfl) (by kernel_rfl) (λ _ _ _ h=>h) (Or.inl ⟨by rfl,λ w=>rfl⟩) ?_;refine wpAny_take (i:=2) (v:=.slice A xs.length c) rfl (by kernel_rfl) (by kernel_rfl) (by kernel_rfl) (λ _ _ _ h=>h) (Or.inl ⟨by rfl,λ w=>rfl⟩) ?_;refine wpAny_take (i:=3) (v:=.int .i64 xs.length) rfl (by kernel_rfl) (by kernel_rfl) (by kernel_rfl) (λ _ _ _ h=>h) (Or.inl ⟨by rfl,λ w=>by go_simp⟩) ?_;refine wpAny_take (i:=5) (v:=.slice A xs.length c) rfl (by kernel_rfl) (by kernel_rfl) (by kernel_rfl) (λ _ _ _ h=>h) (Or.inl ⟨by rfl,λ w=>rfl⟩) ?_;refine wpAny_take (i:=6) (v:=.int .i64 xs.length) rfl (by kernel_rfl) (by kernel_rfl) (by kernel_rfl) (λ _ _ _ h=>h) (Or.inl ⟨by rfl,λ w=>by go_simp⟩) ?_;refine wpAny_take (i:=7) (v:=.int .i64 ((xs.length:Int)+1)) rfl (by kernel_rfl) (by kernel_rfl) (by kernel_rfl) (λ _ _ _ h=>h) (Or.inl ⟨by rfl,λ w=>by go_simp⟩) ?_;have h0:=AsSt.start w w.drew xs.length (Zh6 w);clear m5;refine Zcf ?_;intro a0 r;refine wpAny_ready (rs:=[4,8,9]) (by kernel_rfl) (by simp) ?_;refine Yk (o:=?oo04) ?p04 ?q04 ?r04
  case' p04=>rfl
  .intro K l
   refine Zc0 h0 hl rfl (.tmp 28) rfl (by rw[r];kernel_rfl) (some 29) rfl (λ W h4=>l _ _ ?_);clear l K;refine wpAny_ready (rs:=[8,9]) (by kernel_rfl) (by simp) ?_;refine Yk (o:=?oo048) ?p048 ?q048 ?r048
   case' p048=>rfl
   .intro K l
    refine Zc1 h4 hl rfl (.tmp 32) rfl (by rw[r];kernel_rfl) (some 33) rfl (λ a3 i3=>l _ _ ?_);clear l K;refine wpAny_ready (rs:=[9]) (by kernel_rfl) (by simp) ?_;refine Yk (o:=?oo0489) ?p0489 ?q0489 ?r0489
    case' p0489=>rfl
    .intro K l
     refine Zc2 i3 rfl rfl (some 34) rfl (λ B f8=>l _ _ ?_);clear l K;obtain⟨gg,R,z,P⟩:=f8.work (A:=A) (c:=c) (base:=base);refine Zcf ?_;intro a1 s;refine wpAny_ready (rs:=[10]) (by kernel_rfl) (by simp) ?_;refine Yk (o:=?oo0489x0) ?p0489x0 ?q0489x0 ?r0489x0
     case' p0489x0=>rfl
     case' r0489x0=>exact Yq
     intro K l;refine Zae rfl (some 35) rfl (v:=.agg #[.slice A xs.length c,.int .i64 base,.slice (some ⟨w.drew.heap.size,0,none⟩) xs.length xs.length,.slice (some ⟨W.heap.size,0,none⟩) (xs.length+1) (xs.length+1),.map (some a3.heap.size)]) (w':=B) (by rw[s,r];kernel_rfl) (l _ _ ?_);clear l K;refine wpAny_ready (rs:=[11]) (by kernel_rfl) (by simp) ?_;refine Yk (o:=?oo0489x1) ?p0489x1 ?q0489x1 ?r0489x1
     case' p0489x1=>rfl
     case' r0489x1=>exact Yq
     intro K l;refine Zae rfl (some 36) rfl (v:=.pointer (some ⟨B.heap.size,0,none⟩)) (w':=B.alloc (.cells #[.slice A xs.length c,.int .i64 base,.slice (some ⟨w.drew.heap.size,0,none⟩) xs.length xs.length,.slice (some ⟨W.heap.size,0,none⟩) (xs.length+1) (xs.length+1),.map (some a3.heap.size)] 214)) (by rw[s,r];kernel_rfl) (l _ _ ?_);clear l K;refine wpAny_ready (rs:=[12]) (by kernel_rfl) (by simp) ?_;refine Yk (o:=?oo0489x2) ?p0489x2 ?q0489x2 ?r0489x2
     case' p0489x2=>rfl
     case' r0489x2=>exact Yq
     intro K l;refine Zae rfl (some 6) rfl (v:=.pointer (some ⟨B.heap.size,0,none⟩)) (w':=B.alloc (.cells #[.slice A xs.length c,.int .i64 base,.slice (some ⟨w.drew.heap.size,0,none⟩) xs.length xs.length,.slice (some ⟨W.heap.size,0,none⟩) (xs.length+1) (xs.length+1),.map (some a3.heap.size)] 214)) (by rw[s,r];kernel_rfl) (l _ _ ?_);clear l K;refine wpAny_done (by kernel_rfl) ?_ _;rw[s,r];refine hKK _ _ (Met.intro (hJJ _ _ ?_));exact⟨.pointer (some ⟨B.heap.size,0,none⟩),.slice A xs.length c,.int .i64 base,.slice A xs.length c,.int .i64 xs.length,.slice (some ⟨w.drew.heap.size,0,none⟩) xs.length xs.length,.slice A xs.length c,.int .i64 xs.length,.int .i64 ((xs.length:Int)+1),.slice (some ⟨W.heap.size,0,none⟩) (xs.length+1) (xs.length+1),.map (some a3.heap.size),.agg #[.slice A xs.length c,.int .i64 base,.slice (some ⟨w.drew.heap.size,0,none⟩) xs.length xs.length,.slice (some ⟨W.heap.size,0,none⟩) (xs.length+1) (xs.length+1),.map (some a3.heap.size)],.pointer (some ⟨B.heap.size,0,none⟩),⟨_,_,_,_,rfl,by rw[<- R] at z;exact z,P⟩,by kernel_rfl⟩
    exact Yq
   refine Yk (o:=?oo049) ?p049 ?q049 ?r049
   case' p049=>rfl
   .intro K l
    refine Zc2 h4 rfl rfl (some 34) rfl (λ a2 g2=>l _ _ ?_);clear l K;refine wpAny_ready (rs:=[8]) (by kernel_rfl) (by simp) ?_;refine Yk (o:=?oo0498) ?p0498 ?q0498 ?r0498
    case' p0498=>rfl
    .intro K l
     refine Zc1 g2 hl rfl (.tmp 32) rfl (by rw[r];kernel_rfl) (some 33) rfl (λ D f5=>l _ _ ?_);clear l K;obtain⟨gg,R,z,P⟩:=f5.work (A:=A) (c:=c) (base:=base);refine Zcf ?_;intro a1 s;refine wpAny_ready (rs:=[10]) (by kernel_rfl) (by simp) ?_;refine Yk (o:=?oo0498x0) ?p0498x0 ?q0498x0 ?r0498x0
     case' p0498x0=>rfl
     case' r0498x0=>exact Yq
     intro K l;refine Zae rfl (some 35) rfl (v:=.agg #[.slice A xs.length c,.int .i64 base,.slice (some ⟨w.drew.heap.size,0,none⟩) xs.length xs.length,.slice (some ⟨a2.heap.size,0,none⟩) (xs.length+1) (xs.length+1),.map (some W.heap.size)]) (w':=D) (by rw[s,r];kernel_rfl) (l _ _ ?_);clear l K;refine wpAny_ready (rs:=[11]) (by kernel_rfl) (by simp) ?_;refine Yk (o:=?oo0498x1) ?p0498x1 ?q0498x1 ?r0498x1
     case' p0498x1=>rfl
     case' r0498x1=>exact Yq
     intro K l;refine Zae rfl (some 36) rfl (v:=.pointer (some ⟨D.heap.size,0,none⟩)) (w':=D.alloc (.cells #[.slice A xs.length c,.int .i64 base,.slice (some ⟨w.drew.heap.size,0,none⟩) xs.length xs.length,.slice (some ⟨a2.heap.size,0,none⟩) (xs.length+1) (xs.length+1),.map (some W.heap.size)] 214)) (by rw[s,r];kernel_rfl) (l _ _ ?_);clear l K;refine wpAny_ready (rs:=[12]) (by kernel_rfl) (by simp) ?_;refine Yk (o:=?oo0498x2) ?p0498x2 ?q0498x2 ?r0498x2
     case' p0498x2=>rfl
     case' r0498x2=>exact Yq
     intro K l;refine Zae rfl (some 6) rfl (v:=.pointer (some ⟨D.heap.size,0,none⟩)) (w':=D.alloc (.cells #[.slice A xs.length c,.int .i64 base,.slice (some ⟨w.drew.heap.size,0,none⟩) xs.length xs.length,.slice (some ⟨a2.heap.size,0,none⟩) (xs.length+1) (xs.length+1),.map (some W.heap.size)] 214)) (by rw[s,r];kernel_rfl) (l _ _ ?_);clear l K;refine wpAny_done (by kernel_rfl) ?_ _;rw[s,r];refine hKK _ _ (Met.intro (hJJ _ _ ?_));exact⟨.pointer (some ⟨D.heap.size,0,none⟩),.slice A xs.length c,.int .i64 base,.slice A xs.length c,.int .i64 xs.length,.slice (some ⟨w.drew.heap.size,0,none⟩) xs.length xs.length,.slice A xs.length c,.int .i64 xs.length,.int .i64 ((xs.length:Int)+1),.slice (some ⟨a2.heap.size,0,none⟩) (xs.length+1) (xs.length+1),.map (some W.heap.size),.agg #[.slice A xs.length c,.int .i64 base,.slice (some ⟨w.drew.heap.size,0,none⟩) xs.length xs.length,.slice (some ⟨a2.heap.size,0,none⟩) (xs.length+1) (xs.length+1),.map (some W.heap.size)],.pointer (some ⟨D.heap.size,0,none⟩),⟨_,_,_,_,rfl,by rw[<- R] at z;exact z,P⟩,by kernel_rfl⟩
    exact Yq
   exact Yq
  refine Yk (o:=?oo08) ?p08 ?q08 ?r08
  case' p08=>rfl
  .intro K l
   refine Zc1 h0 hl rfl (.tmp 32) rfl (by rw[r];kernel_rfl) (some 33) rfl (λ Z j4=>l _ _ ?_);clear l K;refine wpAny_ready (rs:=[4,9]) (by kernel_rfl) (by simp) ?_;refine Yk (o:=?oo084) ?p084 ?q084 ?r084
   case' p084=>rfl
   .intro K l
    refine Zc0 j4 hl rfl (.tmp 28) rfl (by rw[r];kernel_rfl) (some 29) rfl (λ a6 g3=>l _ _ ?_);clear l K;refine wpAny_ready (rs:=[9]) (by kernel_rfl) (by simp) ?_;refine Yk (o:=?oo0849) ?p0849 ?q0849 ?r0849
    case' p0849=>rfl
    .intro K l
     refine Zc2 g3 rfl rfl (some 34) rfl (λ E f2=>l _ _ ?_);clear l K;obtain⟨gg,R,z,P⟩:=f2.work (A:=A) (c:=c) (base:=base);refine Zcf ?_;intro a1 s;refine wpAny_ready (rs:=[10]) (by kernel_rfl) (by simp) ?_;refine Yk (o:=?oo0849x0) ?p0849x0 ?q0849x0 ?r0849x0
     case' p0849x0=>rfl
     case' r0849x0=>exact Yq
     intro K l;refine Zae rfl (some 35) rfl (v:=.agg #[.slice A xs.length c,.int .i64 base,.slice (some ⟨Z.heap.size,0,none⟩) xs.length xs.length,.slice (some ⟨w.drew.heap.size,0,none⟩) (xs.length+1) (xs.length+1),.map (some a6.heap.size)]) (w':=E) (by rw[s,r];kernel_rfl) (l _ _ ?_);clear l K;refine wpAny_ready (rs:=[11]) (by kernel_rfl) (by simp) ?_;refine Yk (o:=?oo0849x1) ?p0849x1 ?q0849x1 ?r0849x1
     case' p0849x1=>rfl
     case' r0849x1=>exact Yq
     intro K l;refine Zae rfl (some 36) rfl (v:=.pointer (some ⟨E.heap.size,0,none⟩)) (w':=E.alloc (.cells #[.slice A xs.length c,.int .i64 base,.slice (some ⟨Z.heap.size,0,none⟩) xs.length xs.length,.slice (some ⟨w.drew.heap.size,0,none⟩) (xs.length+1) (xs.length+1),.map (some a6.heap.size)] 214)) (by rw[s,r];kernel_rfl) (l _ _ ?_);clear l K;refine wpAny_ready (rs:=[12]) (by kernel_rfl) (by simp) ?_;refine Yk (o:=?oo0849x2) ?p0849x2 ?q0849x2 ?r0849x2
     case' p0849x2=>rfl
     case' r0849x2=>exact Yq
     intro K l;refine Zae rfl (some 6) rfl (v:=.pointer (some ⟨E.heap.size,0,none⟩)) (w':=E.alloc (.cells #[.slice A xs.length c,.int .i64 base,.slice (some ⟨Z.heap.size,0,none⟩) xs.length xs.length,.slice (some ⟨w.drew.heap.size,0,none⟩) (xs.length+1) (xs.length+1),.map (some a6.heap.size)] 214)) (by rw[s,r];kernel_rfl) (l _ _ ?_);clear l K;refine wpAny_done (by kernel_rfl) ?_ _;rw[s,r];refine hKK _ _ (Met.intro (hJJ _ _ ?_));exact⟨.pointer (some ⟨E.heap.size,0,none⟩),.slice A xs.length c,.int .i64 base,.slice A xs.length c,.int .i64 xs.length,.slice (some ⟨Z.heap.size,0,none⟩) xs.length xs.length,.slice A xs.length c,.int .i64 xs.length,.int .i64 ((xs.length:Int)+1),.slice (some ⟨w.drew.heap.size,0,none⟩) (xs.length+1) (xs.length+1),.map (some a6.heap.size),.agg #[.slice A xs.length c,.int .i64 base,.slice (some ⟨Z.heap.size,0,none⟩) xs.length xs.length,.slice (some ⟨w.drew.heap.size,0,none⟩) (xs.length+1) (xs.length+1),.map (some a6.heap.size)],.pointer (some ⟨E.heap.size,0,none⟩),⟨_,_,_,_,rfl,by rw[<- R] at z;exact z,P⟩,by kernel_rfl⟩
    exact Yq
   refine Yk (o:=?oo089) ?p089 ?q089 ?r089
   case' p089=>rfl
   .intro K l
    refine Zc2 j4 rfl rfl (some 34) rfl (λ a8 g6=>l _ _ ?_);clear l K;refine wpAny_ready (rs:=[4]) (by kernel_rfl) (by simp) ?_;refine Yk (o:=?oo0894) ?p0894 ?q0894 ?r0894
    case' p0894=>rfl
    .intro K l
     refine Zc0 g6 hl rfl (.tmp 28) rfl (by rw[r];kernel_rfl) (some 29) rfl (λ G f1=>l _ _ ?_);clear l K;obtain⟨gg,R,z,P⟩:=f1.work (A:=A) (c:=c) (base:=base);refine Zcf ?_;intro a1 s;refine wpAny_ready (rs:=[10]) (by kernel_rfl) (by simp) ?_;refine Yk (o:=?oo0894x0) ?p0894x0 ?q0894x0 ?r0894x0
     case' p0894x0=>rfl
     case' r0894x0=>exact Yq
     intro K l;refine Zae rfl (some 35) rfl (v:=.agg #[.slice A xs.length c,.int .i64 base,.slice (some ⟨a8.heap.size,0,none⟩) xs.length xs.length,.slice (some ⟨w.drew.heap.size,0,none⟩) (xs.length+1) (xs.length+1),.map (some Z.heap.size)]) (w':=G) (by rw[s,r];kernel_rfl) (l _ _ ?_);clear l K;refine wpAny_ready (rs:=[11]) (by kernel_rfl) (by simp) ?_;refine Yk (o:=?oo0894x1) ?p0894x1 ?q0894x1 ?r0894x1
     case' p0894x1=>rfl
     case' r0894x1=>exact Yq
     intro K l;refine Zae rfl (some 36) rfl (v:=.pointer (some ⟨G.heap.size,0,none⟩)) (w':=G.alloc (.cells #[.slice A xs.length c,.int .i64 base,.slice (some ⟨a8.heap.size,0,none⟩) xs.length xs.length,.slice (some ⟨w.drew.heap.size,0,none⟩) (xs.length+1) (xs.length+1),.map (some Z.heap.size)] 214)) (by rw[s,r];kernel_rfl) (l _ _ ?_);clear l K;refine wpAny_ready (rs:=[12]) (by kernel_rfl) (by simp) ?_;refine Yk (o:=?oo0894x2) ?p0894x2 ?q0894x2 ?r0894x2
     case' p0894x2=>rfl
     case' r0894x2=>exact Yq
     intro K l;refine Zae rfl (some 6) rfl (v:=.pointer (some ⟨G.heap.size,0,none⟩)) (w':=G.alloc (.cells #[.slice A xs.length c,.int .i64 base,.slice (some ⟨a8.heap.size,0,none⟩) xs.length xs.length,.slice (some ⟨w.drew.heap.size,0,none⟩) (xs.length+1) (xs.length+1),.map (some Z.heap.size)] 214)) (by rw[s,r];kernel_rfl) (l _ _ ?_);clear l K;refine wpAny_done (by kernel_rfl) ?_ _;rw[s,r];refine hKK _ _ (Met.intro (hJJ _ _ ?_));exact⟨.pointer (some ⟨G.heap.size,0,none⟩),.slice A xs.length c,.int .i64 base,.slice A xs.length c,.int .i64 xs.length,.slice (some ⟨a8.heap.size,0,none⟩) xs.length xs.length,.slice A xs.length c,.int .i64 xs.length,.int .i64 ((xs.length:Int)+1),.slice (some ⟨w.drew.heap.size,0,none⟩) (xs.length+1) (xs.length+1),.map (some Z.heap.size),.agg #[.slice A xs.length c,.int .i64 base,.slice (some ⟨a8.heap.size,0,none⟩) xs.length xs.length,.slice (some ⟨w.drew.heap.size,0,none⟩) (xs.length+1) (xs.length+1),.map (some Z.heap.size)],.pointer (some ⟨G.heap.size,0,none⟩),⟨_,_,_,_,rfl,by rw[<- R] at z;exact z,P⟩,by kernel_rfl⟩
    exact Yq
   exact Yq
  refine Yk (o:=?oo09) ?p09 ?q09 ?r09
  case' p09=>rfl
  .intro K l
   refine Zc2 h0 rfl rfl (some 34) rfl (λ Y i5=>l _ _ ?_);clear l K;refine wpAny_ready (rs:=[4,8]) (by kernel_rfl) (by simp) ?_;refine Yk (o:=?oo094) ?p094 ?q094 ?r094
   case' p094=>rfl
   .intro K l
    refine Zc0 i5 hl rfl (.tmp 28) rfl (by rw[r];kernel_rfl) (some 29) rfl (λ a7 j7=>l _ _ ?_);clear l K;refine wpAny_ready (rs:=[8]) (by kernel_rfl) (by simp) ?_;refine Yk (o:=?oo0948) ?p0948 ?q0948 ?r0948
    case' p0948=>rfl
    .intro K l
     refine Zc1 j7 hl rfl (.tmp 32) rfl (by rw[r];kernel_rfl) (some 33) rfl (λ H f0=>l _ _ ?_);clear l K;obtain⟨gg,R,z,P⟩:=f0.work (A:=A) (c:=c) (base:=base);refine Zcf ?_;intro a1 s;refine wpAny_ready (rs:=[10]) (by kernel_rfl) (by simp) ?_;refine Yk (o:=?oo0948x0) ?p0948x0 ?q0948x0 ?r0948x0
     case' p0948x0=>rfl
     case' r0948x0=>exact Yq
     intro K l;refine Zae rfl (some 35) rfl (v:=.agg #[.slice A xs.length c,.int .i64 base,.slice (some ⟨Y.heap.size,0,none⟩) xs.length xs.length,.slice (some ⟨a7.heap.size,0,none⟩) (xs.length+1) (xs.length+1),.map (some w.drew.heap.size)]) (w':=H) (by rw[s,r];kernel_rfl) (l _ _ ?_);clear l K;refine wpAny_ready (rs:=[11]) (by kernel_rfl) (by simp) ?_;refine Yk (o:=?oo0948x1) ?p0948x1 ?q0948x1 ?r0948x1
     case' p0948x1=>rfl
     case' r0948x1=>exact Yq
     intro K l;refine Zae rfl (some 36) rfl (v:=.pointer (some ⟨H.heap.size,0,none⟩)) (w':=H.alloc (.cells #[.slice A xs.length c,.int .i64 base,.slice (some ⟨Y.heap.size,0,none⟩) xs.length xs.length,.slice (some ⟨a7.heap.size,0,none⟩) (xs.length+1) (xs.length+1),.map (some w.drew.heap.size)] 214)) (by rw[s,r];kernel_rfl) (l _ _ ?_);clear l K;refine wpAny_ready (rs:=[12]) (by kernel_rfl) (by simp) ?_;refine Yk (o:=?oo0948x2) ?p0948x2 ?q0948x2 ?r0948x2
     case' p0948x2=>rfl
     case' r0948x2=>exact Yq
     intro K l;refine Zae rfl (some 6) rfl (v:=.pointer (some ⟨H.heap.size,0,none⟩)) (w':=H.alloc (.cells #[.slice A xs.length c,.int .i64 base,.slice (some ⟨Y.heap.size,0,none⟩) xs.length xs.length,.slice (some ⟨a7.heap.size,0,none⟩) (xs.length+1) (xs.length+1),.map (some w.drew.heap.size)] 214)) (by rw[s,r];kernel_rfl) (l _ _ ?_);clear l K;refine wpAny_done (by kernel_rfl) ?_ _;rw[s,r];refine hKK _ _ (Met.intro (hJJ _ _ ?_));exact⟨.pointer (some ⟨H.heap.size,0,none⟩),.slice A xs.length c,.int .i64 base,.slice A xs.length c,.int .i64 xs.length,.slice (some ⟨Y.heap.size,0,none⟩) xs.length xs.length,.slice A xs.length c,.int .i64 xs.length,.int .i64 ((xs.length:Int)+1),.slice (some ⟨a7.heap.size,0,none⟩) (xs.length+1) (xs.length+1),.map (some w.drew.heap.size),.agg #[.slice A xs.length c,.int .i64 base,.slice (some ⟨Y.heap.size,0,none⟩) xs.length xs.length,.slice (some ⟨a7.heap.size,0,none⟩) (xs.length+1) (xs.length+1),.map (some w.drew.heap.size)],.pointer (some ⟨H.heap.size,0,none⟩),⟨_,_,_,_,rfl,by rw[<- R] at z;exact z,P⟩,by kernel_rfl⟩
    exact Yq
   refine Yk (o:=?oo098) ?p098 ?q098 ?r098
   case' p098=>rfl
   .intro K l
    refine Zc1 i5 hl rfl (.tmp 32) rfl (by rw[r];kernel_rfl) (some 33) rfl (λ a5 i8=>l _ _ ?_);clear l K;refine wpAny_ready (rs:=[4]) (by kernel_rfl) (by simp) ?_;refine Yk (o:=?oo0984) ?p0984 ?q0984 ?r0984
    case' p0984=>rfl
    .intro K l
     refine Zc0 i8 hl rfl (.tmp 28) rfl (by rw[r];kernel_rfl) (some 29) rfl (λ C f4=>l _ _ ?_);clear l K;obtain⟨gg,R,z,P⟩:=f4.work (A:=A) (c:=c) (base:=base);refine Zcf ?_;intro a1 s;refine wpAny_ready (rs:=[10]) (by kernel_rfl) (by simp) ?_;refine Yk (o:=?oo0984x0) ?p0984x0 ?q0984x0 ?r0984x0
     case' p0984x0=>rfl
     case' r0984x0=>exact Yq
     intro K l;refine Zae rfl (some 35) rfl (v:=.agg #[.slice A xs.length c,.int .i64 base,.slice (some ⟨a5.heap.size,0,none⟩) xs.length xs.length,.slice (some ⟨Y.heap.size,0,none⟩) (xs.length+1) (xs.length+1),.map (some w.drew.heap.size)]) (w':=C) (by rw[s,r];kernel_rfl) (l _ _ ?_);clear l K;refine wpAny_ready (rs:=[11]) (by kernel_rfl) (by simp) ?_;refine Yk (o:=?oo0984x1) ?p0984x1 ?q0984x1 ?r0984x1
     case' p0984x1=>rfl
     case' r0984x1=>exact Yq
     intro K l;refine Zae rfl (some 36) rfl (v:=.pointer (some ⟨C.heap.size,0,none⟩)) (w':=C.alloc (.cells #[.slice A xs.length c,.int .i64 base,.slice (some ⟨a5.heap.size,0,none⟩) xs.length xs.length,.slice (some ⟨Y.heap.size,0,none⟩) (xs.length+1) (xs.length+1),.map (some w.drew.heap.size)] 214)) (by rw[s,r];kernel_rfl) (l _ _ ?_);clear l K;refine wpAny_ready (rs:=[12]) (by kernel_rfl) (by simp) ?_;refine Yk (o:=?oo0984x2) ?p0984x2 ?q0984x2 ?r0984x2
     case' p0984x2=>rfl
     case' r0984x2=>exact Yq
     intro K l;refine Zae rfl (some 6) rfl (v:=.pointer (some ⟨C.heap.size,0,none⟩)) (w':=C.alloc (.cells #[.slice A xs.length c,.int .i64 base,.slice (some ⟨a5.heap.size,0,none⟩) xs.length xs.length,.slice (some ⟨Y.heap.size,0,none⟩) (xs.length+1) (xs.length+1),.map (some w.drew.heap.size)] 214)) (by rw[s,r];kernel_rfl) (l _ _ ?_);clear l K;refine wpAny_done (by kernel_rfl) ?_ _;rw[s,r];refine hKK _ _ (Met.intro (hJJ _ _ ?_));exact⟨.pointer (some ⟨C.heap.size,0,none⟩),.slice A xs.length c,.int .i64 base,.slice A xs.length c,.int .i64 xs.length,.slice (some ⟨a5.heap.size,0,none⟩) xs.length xs.length,.slice A xs.length c,.int .i64 xs.length,.int .i64 ((xs.length:Int)+1),.slice (some ⟨Y.heap.size,0,none⟩) (xs.length+1) (xs.length+1),.map (some w.drew.heap.size),.agg #[.slice A xs.length c,.int .i64 base,.slice (some ⟨a5.heap.size,0,none⟩) xs.length xs.length,.slice (some ⟨Y.heap.size,0,none⟩) (xs.length+1) (xs.length+1),.map (some w.drew.heap.size)],.pointer (some ⟨C.heap.size,0,none⟩),⟨_,_,_,_,rfl,by rw[<- R] at z;exact z,P⟩,by kernel_rfl⟩
    exact Yq
   exact Yq
  exact Yq
 case rest =>
  obtain⟨g,gF,gA,m,rfl,hW,hb⟩:=hcut;have c1:=Ya g5;have c2:=Ya Q;clear g5 Q;have n1:=hb.size;go_wp2_with fail
  go_loopw [7,39] (λ tw i wr=>∃(k n:Nat)(t:Bool)(F:List Int)(f:ByteArray->Option Int),k<=xs.length/\n<=k/\i=.int .i64 k/\tw=.bool t/\Tab xs k f t/\firstErr xs=firstErr (xs.drop k) /\
   (∀(j:Nat)(x:S.Item),j<k->xs[j]?=some x->F.getD j 0=startForm x)/\(∀j,k<=j->F.getD j 0=0) /\
   Work wr w.heap.size g gF gA m n A c xs base F (Yt (xs.length+1) 0) f/\Below w.heap.size w wr) (λ _ i _=>xs.length-(intOf i).toNat)
  case atStart =>
   refine⟨0,0,false,_,_,by omega,by omega,rfl,rfl,Tab.start xs,by simp,λ j x X=>by omega,λ j _=>?_,hW,hb⟩;by_cases X:j<xs.length <;> simp[Ye,List.getElem?_replicate,X]
  case round =>
   obtain⟨k,n,t,F,f,hk,hn,rfl,rfl,hT,j5,h6,j6,c3,L⟩:=hrel;have HT:=Ya hT;have b9:=Ya j5;have d2:=Ya h6;have b2:=Ya j6;have f9:=L.size;clear hT j5 h6 j6 hW hb;by_cases b5:k<xs.length
   .obtain⟨b,off,x,rfl,hbA,V,hc0,hc1,hc2,hc3,hc4,hc5,hc6,hc7,hw0,hw1⟩:=(hi.below L).at_ b5
    have Hx:=Ya V;have Hd:=Ya (Zlo V);have c0:=b7.out k x V;have l6:b<wr.heap.size:=by omega
    clear V;obtain⟨kind,⟨op,d,a,b',imm⟩,lab,wd⟩:=x;simp only at hc0 hc1 hc2 hc3 hc4 hc5 hc6 hc7 hw0 hw1 c0;have a9:Below wr.heap.size wr (wr.alloc (.cells #[.int .i64 kind,.int .i64 op,.int .i64 d,.int .i64 a,.int .i64 b',.int .i64 imm,.string lab,.int .u32 wd] 135)):=(Below.refl _ _).alloc (Yb _) _;by_cases he:chkItem ⟨kind,⟨op,d,a,b',imm⟩,lab,wd⟩=0
    .have hd:=Zvv he
     have He:=Ya he;clear he;go_wp2_with fail
     refine(Zoe _ _ _ _ _ _ _ _ _).mono ?_;rintro e w1 ⟨rfl,Q⟩;have e6:Below wr.heap.size wr w1:=a9.trans (Q.mono (by simp));have k8:wr.heap.size<w1.heap.size:=by have:=Q.size;simp at this;omega
     have hX:∀(j:Nat)(v:Value),(#[Value.int .i64 kind,.int .i64 op,.int .i64 d,.int .i64 a,.int .i64 b',.int .i64 imm,.string lab,.int .u32 wd])[j]?=some v->w1.cell? ⟨wr.heap.size,j,none⟩=some v:=by
      intro j v hv;rw[Q.cell (p:=⟨_,j,none⟩) (by simp),<- hv];exact Zas _ _ _ _
     have d8:=hX 0 (.int .i64 kind) rfl;have d6:=hX 6 (.string lab) rfl;have U:=c3.below e6;obtain⟨p0,p1,p2,p3,p4⟩:=U.cells;obtain⟨q1,q2⟩:=U.form b5;obtain⟨r1,r2,r3,r4⟩:=U.lts;have c6:Hid (firstErr xs=firstErr (xs.drop (k+1))):=Ya (by rw[b9.out,Hd.out,if_neg (by rw[He.out];simp)]);have f7:Below w.heap.size w w1:=L.trans (e6.mono f9);clear hX Hd b9 a9;by_cases l7:kind=3\/kind=4
     .rcases l7 with rfl|rfl
      all_goals
       obtain⟨d4,b0⟩:=U.grown k 1 rfl;have k5:(⟨gF,k,none⟩:Addr)≠⟨wr.heap.size,0,none⟩:=by
        intro e
        injection e with e _ _
        have:=c3.lts.2.1;omega
       have m7:=(World.cell?_setCell_other (w:=w1) (v:=.int .i64 1) (h:=k5)).trans d8;go_wp2_with fail
       go_roundw
       case rel =>
        refine⟨k+1,n,t,F.set k 1,f,by omega,by omega,by go_num,rfl,HT.out.other Hx.out (by simp),c6.out,λ j x X O=>?_,λ j X=>?_,d4,f7.trans b0⟩
        .by_cases M:j=k
         .subst M
          rw[Hx.out] at O;cases O;rw[Zbq (by have:=U.forms.1;simp at this;omega)];simp[startForm]
         .rw[Zai (λ e=>M e.symm)]
          exact d2.out j x (by omega) O
        .rw[Zai (by omega)]
         exact b2.out j (by omega)
       case measure=>simp[intOf];omega
     .have hn3:=Zcp (a:=kind) (b:=3) (by omega)
      have n2:=Zcp (a:=kind) (b:=4) (by omega);by_cases k2:kind=2
      .subst k2
       have g9:∀u:Ext w1,(Instr.lookup 207 (.map (some m)) (.string lab) true).run prog u.val=.ok (.tuple #[.int .i64 ((f lab).getD 0),.bool (f lab).isSome]) u.val:=λ u=>(U.labels.below u.property).lookOk c0
       have i6:=Ya (HT.out.label Hx.out rfl);generalize (f lab).isSome=ok at *;go_wp2_with fail
       refine Z1 (by kernel_rfl) (by kernel_rfl) ?_;have hE:=Zn w1
       repeat (first|go_big_quiet_step (fail))
       refine wpQuiet_nil ?_;intro w2 c8;have N:=Zcn c8;clear hE c8;have b3:=U.below N;have l5:=N.size;have m8:w2.cell? ⟨wr.heap.size,6,none⟩=some (.string lab):=by rw[N.cell (p:=⟨_,6,none⟩) (by simpa using k8)];exact d6
       clear p0 p1 p2 p3 p4 q1 q2;obtain⟨p0,p1,p2,p3,p4⟩:=b3.cells;obtain⟨s1,s2,s3,s4⟩:=b3.lts;have m4:wr.heap.size<w2.heap.size:=by omega
       cases t
       all_goals
        go_wp2_with fail
        refine Zi 7 (by kernel_rfl) (by kernel_rfl) ?_;have hE:=Zn w2;simp only[List.take_succ_cons,List.take_zero,List.drop_succ_cons,List.drop_zero]
        repeat (first|go_big_quiet_step (fail))
        refine wpQuiet_nil ?_;intro w3 h9;have b0:=Zcn h9;clear hE h9;have d4:=b3.below b0;refine Zfd rfl rfl (.tmp 83) (.tmp 85) (.tmp 86) rfl m n _ rfl d4.labels (by omega) lab k rfl rfl c0 (Z70 (by omega)) ?_;intro w4 k3 m3;have i4:=k3.mono (n':=n+1) (by split <;> omega);obtain⟨m1,m6⟩:=d4.told i4 m3;have k9:Below w.heap.size w w4:=((f7.trans (N.mono (by omega))).trans (b0.mono (by omega))).trans m6;go_wp2_with fail
        go_roundw
        case rel =>
         refine⟨k+1,n+1,_,F,_,by omega,by omega,by go_num,rfl,i6.out,c6.out,λ j x X O=>?_,λ j X=>b2.out j (by omega),m1,k9⟩;by_cases M:j=k
         .subst M
          rw[Hx.out] at O;cases O;rw[b2.out j (by omega)];simp[startForm]
         .exact d2.out j x (by omega) O
        case measure=>simp[intOf];omega
      .have hn2:=Zcp k2
       go_wp2_with fail
       go_roundw
       case rel =>
        refine⟨k+1,n,t,F,f,by omega,by omega,by go_num,rfl,HT.out.other Hx.out k2,c6.out,λ j x X O=>?_,λ j X=>b2.out j (by omega),U,f7⟩;by_cases M:j=k
        .subst M
         rw[Hx.out] at O;cases O;rw[b2.out j (by omega)];simp[startForm];omega
        .exact d2.out j x (by omega) O
       case measure=>simp[intOf];omega
    .have hd:=Zcp he
     have He:=Ya he;clear he;go_wp2_with fail
     refine(Zoe _ _ _ _ _ _ _ _ _).mono ?_;rintro e w1 ⟨rfl,Q⟩;go_wp2_with fail
     rw[Exit.noGoto_ret]
     go_ret2
     refine⟨L.trans ((a9.trans (Q.mono (by simp))).mono f9),.inl ⟨_,He.out,rfl,.inl ⟨He.out,.inr (.inl ⟨c1.out,c2.out,?_,?_⟩),rfl⟩⟩⟩
     .rw[b9.out,Hd.out,if_pos He.out];exact He.out
     .rw[b9.out,Hd.out,if_pos He.out]
   .have hkl:k=xs.length:=by omega
    subst hkl;have c7:Hid (firstErr xs=0):=Ya (by rw[b9.out,List.drop_length];rfl);have l9:F=xs.map startForm:=by
     have m2:F.length=xs.length:=by have:=c3.forms.1;simpa using this
     refine Zfv (by simp[m2]) λ j=>?_
     by_cases X:j<xs.length
     .rw[d2.out j _ X (Yf X)]
      simp[Ye,Yf X]
     .rw[b2.out j (by omega)]
      simp[Ye,X]
    subst l9;clear d2 b2 b9
    cases t
    .obtain⟨hfl,hnd⟩:=HT.out.done
     subst hfl;have j9:=Ya hnd;clear hnd;obtain⟨wA,k4⟩:=Yx wr;subst k4;go_wp2_with fail
     go_loopw [91] (λ i wr=>∃k:Nat,k<=xs.length/\i=.int .i64 k/\(∀(j:Nat)(x:S.Item),j<k->xs[j]?=some x->named x=true->0<=stands xs x.label)/\Below wA.heap.size wA wr) (λ i _=>xs.length-(intOf i).toNat)
     case atStart=>exact⟨0,by omega,rfl,λ j x X=>by omega,Below.refl _ _⟩
     case round =>
      obtain⟨k,hk,rfl,c5,a4⟩:=hrel;have d3:=Ya c5;have b6:=c3.below a4;have m9:=a4.size;have e0:=L.trans (a4.mono f9);clear c5;by_cases b5:k<xs.length
      .obtain⟨b,off,x,rfl,hbA,V,hc0,hc1,hc2,hc3,hc4,hc5,hc6,hc7,hw0,hw1⟩:=(hi.below e0).at_ b5
       have Hx:=Ya V;have c0:=b7.out k x V;have l6:b<wr.heap.size:=by omega
       clear V;obtain⟨kind,⟨op,d,a,b',imm⟩,lab,wd⟩:=x;simp only at hc0 hc1 hc2 hc3 hc4 hc5 hc6 hc7 hw0 hw1 c0;have a9:Below wr.heap.size wr (wr.alloc (.cells #[.int .i64 kind,.int .i64 op,.int .i64 d,.int .i64 a,.int .i64 b',.int .i64 imm,.string lab,.int .u32 wd] 135)):=(Below.refl _ _).alloc (Yb _) _;have d9:=b6.below a9;obtain⟨p0,p1,p2,p3,p4⟩:=d9.cells;obtain⟨l1,l2,l3,l4⟩:=b6.lts;obtain⟨s1,s2,s3,s4⟩:=d9.lts;have hX:∀(j:Nat)(v:Value),(#[Value.int .i64 kind,.int .i64 op,.int .i64 d,.int .i64 a,.int .i64 b',.int .i64 imm,.string lab,.int .u32 wd])[j]?=some v->(wr.alloc (.cells #[.int .i64 kind,.int .i64 op,.int .i64 d,.int .i64 a,.int .i64 b',.int .i64 imm,.string lab,.int .u32 wd] 135)).cell? ⟨wr.heap.size,j,none⟩=some v:=by
        intro j v hv;rw[<- hv];exact Zas _ _ _ _
       have d8:=hX 0 (.int .i64 kind) rfl;have i1:=hX 1 (.int .i64 op) rfl;have i9:=hX 2 (.int .i64 d) rfl;have j8:=hX 3 (.int .i64 a) rfl;have g7:=hX 4 (.int .i64 b') rfl;have h8:=hX 5 (.int .i64 imm) rfl;have d6:=hX 6 (.string lab) rfl;have h7:=hX 7 (.int .u32 wd) rfl;have k6:wr.heap.size<(wr.alloc (.cells #[.int .i64 kind,.int .i64 op,.int .i64 d,.int .i64 a,.int .i64 b',.int .i64 imm,.string lab,.int .u32 wd] 135)).heap.size:=by simp
       clear hX;go_wp2_with fail
       generalize wr.alloc (.cells #[.int .i64 kind,.int .i64 op,.int .i64 d,.int .i64 a,.int .i64 b',.int .i64 imm,.string lab,.int .u32 wd] 135)=wX at *;have g9:∀u:Ext wX,(Instr.lookup 207 (.map (some m)) (.string lab) true).run prog u.val=.ok (.tuple #[.int .i64 ((Zfc xs lab).getD 0),.bool (Zfc xs lab).isSome]) u.val:=λ u=>(d9.labels.below u.property).lookOk c0
       have i0:(Zfc xs lab).isSome=decide (0<=stands xs lab):=by
        unfold Zfc;by_cases h:stands xs lab<0
        .rw[if_pos h];simp;omega
        .rw[if_neg h];simp;omega
       have h3:=Ya i0;clear i0;generalize hokk:(Zfc xs lab).isSome=ok at *;generalize (Zfc xs lab).getD 0=q at *;clear hokk;refine Z1 (by kernel_rfl) (by kernel_rfl) ?_;have hE:=Zn wX
       repeat (first|go_big_quiet_step (fail))
       refine wpQuiet_nil ?_;intro w2 c8;have N:=Zcn c8;clear hE c8 g9;have hY:∀j:Nat,w2.cell? ⟨wr.heap.size,j,none⟩=wX.cell? ⟨wr.heap.size,j,none⟩:=λ j=>N.cell (p:=⟨_,j,none⟩) k6
       rw[<- hY] at d8 i1 i9 j8 g7 h8 d6 h7;have l5:=N.size;have g8:Below w.heap.size w w2:=e0.trans ((a9.trans (N.mono (by omega))).mono (by omega));have j2:Below wA.heap.size wA w2:=a4.trans ((a9.trans (N.mono (by omega))).mono (by omega));have m4:wr.heap.size<w2.heap.size:=by omega
       clear hY p0 p1 p2 p3 p4 a9 N d9;go_wp2_with fail
       refine(Zod _ _ _ _ _ _ _ _ _).mono ?_;rintro e w3 ⟨rfl,b0⟩;have j0:=g8.trans (b0.mono (by omega));have e3:=j2.trans (b0.mono (by omega));generalize c5:named ⟨kind,⟨op,d,a,b',imm⟩,lab,wd⟩=nm;have HN:=Ya c5;clear c5 d8 i1 i9 j8 g7 h8 d6 h7
       cases nm
       .go_wp2_with fail
        go_roundw
        case rel =>
         refine⟨k+1,by omega,by go_num,λ j y X b1 hn=>?_,e3⟩;by_cases M:j=k
         .subst M
          rw[Hx.out] at b1;cases b1;rw[HN.out] at hn;cases hn
         .exact d3.out j y (by omega) b1 hn
        case measure=>simp[intOf];omega
       .cases ok
        .go_wp2_with fail
         rw[Exit.noGoto_ret]
         go_ret2
         refine⟨j0,.inl ⟨_,by simp,rfl,.inl ⟨by simp,.inr (.inr (.inr (.inl ⟨c1.out,c2.out,c7.out,j9.out,⟨k,_,Hx.out,HN.out,?_⟩,rfl⟩))),rfl⟩⟩⟩;have:=h3.out;simp at this;exact this
        .go_wp2_with fail
         go_roundw
         case rel =>
          refine⟨k+1,by omega,by go_num,λ j y X b1 hn=>?_,e3⟩;by_cases M:j=k
          .subst M
           rw[Hx.out] at b1;cases b1;have:=h3.out
           simpa using this
          .exact d3.out j y (by omega) b1 hn
         case measure=>simp[intOf];omega
      .have hkl:k=xs.length:=by omega
       subst hkl;have b4:¬Miss xs:=by
        rintro⟨j,y,hy,hn,hs⟩;have:=d3.out j y (Yg.1 hy).1 hy hn;omega
       have e9:=Ya b4;have e2:CheckRes xs base 0:=.inr (.inr (.inr (.inr ⟨c1.out,c2.out,c7.out,j9.out,b4,rfl⟩)));have e8:=Ya e2;have k1:=Ya HT.out;clear b4 e2 d3 HT c3 L;have h1:=b6;have j3:=Zsh xs base;have h5:=Ya j3;clear b6 j3 a4;go_wp2_with fail
       go_step3
       go_wp2_with fail
       go_loopg [] (Zty (xs.map startForm)) (λ gk wr=>∃F T,Zty F<=gk/\S.Inv xs base F/\Work wr w.heap.size g gF gA m n A c xs base F T (Zfc xs)/\Below w.heap.size w wr)
       case atStart=>exact⟨_,_,Yb _,h5.out,h1,e0⟩
       case round =>
        obtain⟨F,T,k7,e7,z,L⟩:=hrel;have J:=Ya e7;have k0:=L.size;clear e7 h1 e0 h5;obtain⟨wo,rfl⟩:∃wo:World,wo=wr:=⟨_,rfl⟩
        go_wp2_with fail
        refine(Zuc _ z (hi.below L) k0 J.out.1 hl c1.out c2.out Hw.out b7.out (λ k x V hk=>k1.out.shut V hk) (by omega)).mono ?_;rintro e w1 ⟨Q,⟨rfl,b8,U⟩|⟨rfl,b8⟩⟩
        .have Htot:=Ya b8
         have e4:=L.trans Q;have n0:=e4.size;clear b8 z;go_wp2_with fail
         go_loopw [117,17] (λ i t wr=>∃(k:Nat)(mb:Bool)(F1:List Int),k<=xs.length/\i=.int .i64 k/\t=.bool mb/\S.Inv xs base F1/\(∀j,k<=j->F1.getD j 0=F.getD j 0) /\
          (mb=false->F1=F/\∀(j:Nat)(x:S.Item),j<k->xs[j]?=some x->fit xs F base j x=true)/\(mb=true->Zty F1<Zty F) /\
          Work wr w.heap.size g gF gA m n A c xs base F1 (Zfw xs F base (xs.length+1)) (Zfc xs)/\Below w.heap.size w wr) (λ i _ _=>xs.length-(intOf i).toNat)
         case atStart=>exact⟨0,false,F,by omega,rfl,rfl,J.out,λ _ _=>rfl,λ _=>⟨rfl,λ j x X=>by omega⟩,(λ h=>by cases h),U,e4⟩
         case round =>
          obtain⟨k,mb,F1,hk,rfl,rfl,i7,c4,g1,g4,e1,c9⟩:=hrel;have d0:=Ya i7;have I:=Ya c4;have d7:=Ya g1;have f3:=Ya g4;have l0:=c9.size;clear i7 c4 g1 g4 U;by_cases b5:k<xs.length
          .have V:=Ya (Yf b5)
           generalize xs[k]=x at V;have g0:=Ya (λ(hn:named x=true)=>(Int.not_lt.1 λ hs=>e9.out ⟨k,x,V.out,hn,hs⟩:0<=stands xs x.label));have j1:k<F1.length:=by rw[d0.out.1.1];exact b5
           go_wp2_with fail
           refine(Zt9 _ e1 (hi.below c9) l0 k x V.out J.out.1 (I.out k (Yb _)) g0.out (b7.out k x V.out) hl c1.out c2.out Hw.out).mono ?_;rintro e w2 ⟨F',rfl,d5,b3,N⟩;have d1:=c9.trans N;generalize hft:fit xs F base k x=ft at *;have f6:=Ya hft;clear hft e1
           cases ft
           .rw[if_neg (by simp)] at d5
            subst d5;have h2:=Znd J.out.1 V.out f6.out;rw[<- I.out k (Yb _)] at h2;have hr:=Zys (F:=F1) j1 (by omega);have l8:=Ya (Zyr J.out d0.out Hw.out V.out (I.out k (Yb _)) f6.out);have m0:Hid (Zty (F1.set k (F1.getD k 0+1))<Zty F):=Ya (by
             cases mb
             .rw[(d7.out (by simp)).1] at hr⊢;exact hr
             .have:=f3.out (by simp);omega)
            clear h2 hr
            cases mb
            all_goals
             go_wp2_with fail
             go_roundw
             case rel =>
              refine⟨k+1,true,_,by omega,by go_num,rfl,l8.out,λ j X=>?_,(λ h=>by cases h),λ _=>m0.out,b3,d1⟩;rw[Zai (by omega)];exact I.out j (by omega)
             case measure=>simp[intOf];omega
           .rw[if_pos rfl] at d5
            subst d5
            cases mb
            .go_wp2_with fail
             go_roundw
             case rel =>
              refine⟨k+1,false,_,by omega,by go_num,rfl,d0.out,λ j X=>I.out j (by omega),λ _=>⟨(d7.out (by simp)).1,λ j y X hy=>?_⟩,(λ h=>by cases h),b3,d1⟩;by_cases M:j=k
              .subst M
               rw[V.out] at hy;cases hy;exact f6.out
              .exact(d7.out (by simp)).2 j y (by omega) hy
             case measure=>simp[intOf];omega
            .go_wp2_with fail
             go_roundw
             case rel=>exact⟨k+1,true,_,by omega,by go_num,rfl,d0.out,λ j X=>I.out j (by omega),(λ h=>by cases h),λ _=>f3.out (by simp),b3,d1⟩
             case measure=>simp[intOf];omega
          .have hkl:k=xs.length:=by omega
           subst hkl
           cases mb
           .obtain⟨rfl,hall⟩:=d7.out (by simp)
            have i2:=Ya hall;clear hall;go_wp2_with fail
            try rw[Exit.noGoto_ret]
            go_ret2
            refine⟨c9,.inr ⟨g,gF,gA,m,n,_,by omega,rfl,.inr (.inr ⟨e8.out,rfl,J.out,⟨J.out.1,λ i x V=>i2.out i x (Yg.1 V).1 V⟩,Htot.out⟩),e1⟩⟩
           .have hr:=f3.out (by simp)
            go_wp2_with fail
            go_roundg (Zty F1)
            case rel=>exact⟨F1,_,Yb _,d0.out,e1,c9⟩
            case measure=>omega
        .go_wp2_with fail
         rw[Exit.noGoto_ret]
         go_ret2
         exact⟨L.trans Q,.inl ⟨_,by simp,rfl,.inr (.inl ⟨e8.out,rfl,rfl,F,J.out,b8⟩)⟩⟩
    .go_wp2_with fail
     rw[Exit.noGoto_ret]
     go_ret2
     exact⟨L,.inl ⟨_,by simp,rfl,.inl ⟨by simp,.inr (.inr (.inl ⟨c1.out,c2.out,c7.out,HT.out.twice,rfl⟩)),rfl⟩⟩⟩
