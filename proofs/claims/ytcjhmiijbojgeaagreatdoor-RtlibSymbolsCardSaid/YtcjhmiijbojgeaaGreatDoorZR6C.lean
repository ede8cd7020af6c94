/- Parts. -/
import Derived.Test.YtcjhmiijbojgeaaGreatDoorZKCc
import Derived.Deep.RegionWith
import Derived.Lib.SlBytesRow
import Derived.Deep.DeepCutAuto
set_option linter.all false
set_option maxHeartbeats 4000000
open Go.Lib renaming hid->Ya
open Go.AllReady renaming cons->Yf,nil->Yi
open List renaming getD_eq_getElem?_getD->Yh,mem_of_mem_take->Yc9
open Go.Value renaming int->Yu
namespace Go.Proofs.YtcjhmiijbojgeaaGreatDoor
open S Go.Proofs.Tryz Go.RowKit
set_option maxRecDepth 100000
structure OctW (w:World)(B b off:Nat)(l:List Int):Prop where
 lt:b<B
 oct:∀x∈l,0<=x/\x<=255
 at_:∀j,j<l.length->w.cell? ⟨b,off+j,none⟩=some (.int .u8 (l.getD j 0))
theorem OctW.below {w w':World}{B b off:Nat}{l:List Int}(h:OctW w B b off l)(a:Below B w w'):OctW w' B b off l:=⟨h.lt,h.oct,λ j c=>(a.cell (p:=⟨b,off+j,none⟩) h.lt).trans (h.at_ j c)⟩
theorem Zv8 {l:List Int}{k j:Nat}(h:k+j<=l.length):((l.drop k).take j).length=j/\∀i,i<j->((l.drop k).take j).getD i 0=l.getD (k+i) 0:=by
 refine⟨by rw[List.length_take,List.length_drop];omega,λ i hi=>?_⟩;rw[Yh,List.getElem?_take_of_lt hi,List.getElem?_drop,<- Yh]
theorem Z05 {w:World}{B b off:Nat}{l:List Int}(h:OctW w B b off l){k j cap:Nat}(d:k+j<=l.length) :
 (convert 52 9 (.slice (some ⟨b,off+k,none⟩) j cap)).run prog w=.ok (.string (strOfNums ((l.drop k).take j))) w:=by
 obtain⟨c,a⟩:=Zv8 d;refine run_convert_bytes_arg w 52 5 underlying52 underlying5 b (off+k) j cap _ c (λ i hi=>?_) 9 underlying9;rw[a i hi,show off+k+i=off+(k+i) by omega];exact h.at_ (k+i) (by omega)
theorem Z51 (w:World)(l:List Int)(n:Nat)(a:n=l.length) :
 (convert 52 9 (.slice (some ⟨w.heap.size,0,none⟩) n n)).run prog (w.alloc (.cells (l.map (Yu .u8)).toArray 5))=.ok (.string (strOfNums l)) (w.alloc (.cells (l.map (Yu .u8)).toArray 5)):=by
 refine run_convert_bytes_arg _ 52 5 underlying52 underlying5 w.heap.size 0 n n l a.symm (λ i hi=>?_) 9 underlying9;rw[Nat.zero_add];exact Zud w l i (by omega)
theorem Z2q (w:World)(l:List Int)(n:Nat)(a:n=l.length) :
 (convert 52 9 (.slice (some ⟨w.heap.size,0,none⟩) n n)).run prog (w.alloc (.cells (l.map (Yu .u8)).toArray 5)).drew=.ok (.string (strOfNums l)) (w.alloc (.cells (l.map (Yu .u8)).toArray 5)).drew:=by
 refine run_convert_bytes_arg _ 52 5 underlying52 underlying5 w.heap.size 0 n n l a.symm (λ i hi=>?_) 9 underlying9;rw[Nat.zero_add];exact Zud w l i (by omega)
theorem Z2r (x y:ByteArray):(x.toList==y.toList)=decide (x=y):=by
 rw[Bool.eq_iff_iff,beq_iff_eq,decide_eq_true_iff,ByteArray.toList_eq,ByteArray.toList_eq];exact⟨λ h=>ByteArray.ext (Array.toList_inj.1 h),λ h=>by rw[h]⟩
theorem Zv9 {a b:List Int}(i:∀x∈a,0<=x/\x<=255)(e:∀x∈b,0<=x/\x<=255):(strOfNums a=strOfNums b)↔a=b:=by
 refine⟨λ h=>?_,λ h=>by rw[h]⟩;have d:(strOfNums a).data.toList=(strOfNums b).data.toList:=by rw[h]
 rw[strOfNums_data,strOfNums_data] at d;have c:∀(l:List Int),(∀x∈l,0<=x/\x<=255)->(l.map λ n=>UInt8.ofNat n.toNat).map (λ u=>(u.toNat:Int))=l:=λ l g=>by
  rw[List.map_map]
  conv=>rhs;rw[<- List.map_id l]
  refine List.map_congr_left λ x f=>?_
  have:=g x f
  show((UInt8.ofNat x.toNat).toNat:Int)=x
  rw[UInt8.toNat_ofNat_of_lt' (by show x.toNat<256;omega)];omega
 rw[<- c a i,<- c b e,d]
def Zpe (l:List Int)(w:World)(e:Ending)(w':World):Prop :=
 e=.returned (match getU l with
  | some y=>.tuple #[.int .i64 y.1,.int .i64 (y.2:Nat),.int .i64 0]
  | none=>.tuple #[.int .i64 0,.int .i64 0,.int .i64 4])/\Below w.heap.size w w'
theorem Zpf {l:List Int}{j:Nat}(h1:1<=j/\j<=4)(hf:∀i,1<=i->i<j->tryU l i=false)(a:tryU l j=true):getU l=some (toldU (l.take j),j):=by
 unfold getU;have:j=1\/j=2\/j=3\/j=4:=by omega
 rcases this with rfl|rfl|rfl|rfl
 .rw[if_pos a]
 .rw[hf 1 (by decide) (by decide),if_neg (by decide),if_pos a]
 .rw[hf 1 (by decide) (by decide),hf 2 (by decide) (by decide),if_neg (by decide),if_neg (by decide),if_pos a]
 .rw[hf 1 (by decide) (by decide),hf 2 (by decide) (by decide),hf 3 (by decide) (by decide),if_neg (by decide),if_neg (by decide),if_neg (by decide),if_pos a]
theorem Z2s {l:List Int}(hf:∀i,1<=i->i<5->tryU l i=false):getU l=none:=by
 unfold getU;rw[hf 1 (by decide) (by decide),hf 2 (by decide) (by decide),hf 3 (by decide) (by decide),hf 4 (by decide) (by decide),if_neg (by decide),if_neg (by decide),if_neg (by decide),if_neg (by decide)]
theorem Z52 (b off n cap k:Nat)(l:List Int)(X:n=l.length)(U:n<=cap)(hl:n<=1000000)(hk:k<n)(w:World)(h:OctW w w.heap.size b off l) :
 Calls prog 89 #[.slice (some ⟨b,off,none⟩) n cap,.int .i64 k] w (Zpe (l.drop k) w):=by
 have H:=Ya h;have D:=Ya X;have d0:decide ((k:Int)<0)=false:=decide_eq_false (by omega);have d1:decide ((k:Int)>=(n:Int))=false:=decide_eq_false (by omega);have a1:decide (n<=k)=false:=decide_eq_false (by omega);clear h X;go_enter func89,ntmps89
 go_wp2_with fail
 go_loopw [7] (λ R wr=>∃j:Nat,1<=j/\j<=5/\R=.int .i64 j/\Hid (∀i,1<=i->i<j->tryU (l.drop k) i=false)/\Hid (Below w.heap.size w wr)) (λ R _=>5-(intOf R).toNat)
 case atStart=>exact⟨1,Nat.le_refl _,by decide,rfl,Ya (λ i r G=>by omega),Ya (Below.refl _ _)⟩
 case round =>
  obtain⟨j,A,a2,rfl,s,t⟩:=hrel;have Y:IntKind.i64.wrap ((k:Int)+j)=((k+j:Nat):Int):=by rw[IntWalk.i64_in _ ⟨by omega,by omega⟩];omega
  by_cases z:j<=4/\k+j<=n
  .have d2:decide ((j:Int)<=4)=true:=decide_eq_true (by omega)
   have d3:decide (((k+j:Nat):Int)<=(n:Int))=true:=decide_eq_true (by omega);have E:∀W:World,(Instr.slice 52 (.slice (some ⟨b,off,none⟩) n cap) (some (.int .i64 (k:Int))) (some (.int .i64 ((k+j:Nat):Int))) none).run prog W=.ok (.slice (some ⟨b,off+k,none⟩) j (cap-k)) W:=λ W=>by
    have:=Lib.run_slice_window (P:=prog) W 52 5 underlying52 (λ w=>by kernel_rfl) b off n cap k (k+j) (by omega) (by omega);rw[this,Nat.add_sub_cancel_left]
   have x1:(0:Int)<=(k:Int)+j:=by omega
   have x2:(k:Int)+j<=(cap:Int):=by omega
   have x3:k<=((k:Int)+j).toNat:=by omega
   have x4:¬cap=k:=by omega
   have x5:((k:Int)+j).toNat-k=j:=by omega
   have N:=Ya E;go_upto_region 6 with fail
   have E:=N.out;obtain⟨q1,Z⟩:=Zv8 (l:=l) (k:=k) (j:=j) (by rw[<- D.out];omega);have p:=λ(W:World) (hW:Below w.heap.size w W)=>Z2n b (off+k) j (cap-k) ((l.drop k).take j) q1.symm (by omega) (λ x J=>H.out.oct x (List.mem_of_mem_drop (Yc9 J))) W (λ i hi=>by
    rw[Z i hi,show off+k+i=off+(k+i) by omega];exact(H.out.below hW).at_ (k+i) (by rw[<- D.out];omega))
   have V:=Ya p;clear p q1 Z;go_wp2_with fail
   refine(V.out _ t.out).mono ?_;rintro e w1 ⟨rfl,rfl⟩;obtain⟨T,L⟩:=Yx (toldU ((l.drop k).take j));rw[<- L];have g:=Ya L;clear L V;have e5:IntKind.i64.wrap ((j:Int)+1)=(j:Int)+1:=IntWalk.i64_in _ ⟨by omega,by omega⟩
   cases hu:isU T with
   | false =>
    have f:∀W:World,Calls prog 35 #[.int .i64 T] W λ e w'=>e=.returned (.bool false)/\W=w':=λ W=>by
     have:=Z5y T W;rw[hu] at this;exact this
    have O:=Ya f;clear f;go_upto_region 7 with fail
    refine Zq (by kernel_rfl) (by kernel_rfl) ?_
    repeat (first|go_big_quiet_step ((go_at_call 35;exact Zb0 (O.out _))))
    refine wpQuiet_nil ?_;rintro _ ⟨⟨w2,F⟩,rfl⟩;have M:=Ya (t.out.trans (F.mono t.out.size));clear F;go_wp2_with fail
    go_roundw
    case rel =>
     refine⟨j+1,by omega,by omega,by go_num,Ya λ i r G=>?_,?_⟩
     .by_cases q:i=j
      .subst q
       unfold tryU;rw[<- g.out,hu];simp
      .exact s.out i r (by omega)
     .exact M
    case measure=>simp[intOf] <;> omega
   | true =>
    have f:∀W:World,Calls prog 35 #[.int .i64 T] W λ e w'=>e=.returned (.bool true)/\W=w':=λ W=>by
     have:=Z5y T W;rw[hu] at this;exact this
    have O:=Ya f;have I:=Ya (λ W=>Zx3 T hu W);have y:Below w.heap.size w (wr.alloc (.cells ((bytesU T).map (Yu .u8)).toArray 5)).drew:=(t.out.alloc t.out.size _).drew;have B:=Z2q wr (bytesU T) _ rfl;have m:=Z05 (H.out.below t.out.drew) (k:=k) (j:=j) (cap:=cap-k) (by rw[<- D.out];omega);have o:=Z05 (H.out.below y) (k:=k) (j:=j) (cap:=cap-k) (by rw[<- D.out];omega);have d:=Ya y;obtain⟨C,u⟩:=Yx (decide (strOfNums (bytesU T)=strOfNums ((l.drop k).take j)));have a0:((strOfNums (bytesU T)).toList==(strOfNums ((l.drop k).take j)).toList)=C:=by rw[u];exact Z2r _ _
    have c:=Ya (show tryU (l.drop k) j=C by
     have Y:decide (j<=(l.drop k).length)=true:=decide_eq_true (by rw[List.length_drop,<- D.out];omega);have e2:decide (bytesU T=(l.drop k).take j)=C:=by
      rw[u];exact decide_eq_decide.2 (Zv9 (Zro hu) (λ x J=>H.out.oct x (List.mem_of_mem_drop (Yc9 J)))).symm
     unfold tryU;rw[<- g.out,Y,hu,e2];rfl)
    clear u;clear f y;go_upto_region 7 with fail
    refine wp_region_any (by kernel_rfl) ?_;change wpAny _ _ _ _ _ _ _ (World.drew _);refine wpAny_take (i:=0) (v:=?v0n) rfl (by kernel_rfl) (by kernel_rfl) (by kernel_rfl) (λ _ _ _ h=>h) (Or.inl ⟨by rfl,?y0n⟩) ?z0n
    case y0n=>(intro w;first | (go_simp;done) | (go_simp;with_reducible rfl))
    refine wpAny_ready (rs:=[1]) (by kernel_rfl) (by simp) ?_;refine Yf rfl (λ K a=>?_) Yi;go_simp
    refine(O.out _).mono ?_;rintro e w2 ⟨rfl,rfl⟩;go_simp
    refine a _ _ ?_;clear a K;refine wpAny_take (i:=2) (v:=?v2n) rfl (by kernel_rfl) (by kernel_rfl) (by kernel_rfl) (λ _ _ _ h=>h) (Or.inl ⟨by rfl,?y2n⟩) ?z2n
    case y2n=>(intro w;first | (go_simp;done) | (go_simp;with_reducible rfl))
    refine wpAny_take (i:=3) (v:=?v3n) rfl (by kernel_rfl) (by kernel_rfl) (by kernel_rfl) (λ _ _ _ h=>h) (Or.inl ⟨by rfl,?y3n⟩) ?z3n
    case y3n=>(intro w;first | (go_simp;done) | (go_simp;with_reducible rfl))
    refine wpAny_take (i:=6) (v:=?v6n) rfl (by kernel_rfl) (by kernel_rfl) (by kernel_rfl) (λ _ _ _ h=>h) (Or.inl ⟨by rfl,?y6n⟩) ?z6n
    case y6n=>(intro w;first | (go_simp;done) | (go_simp;with_reducible rfl))
    refine wpAny_take (i:=7) (v:=?v7n) rfl (by kernel_rfl) (by kernel_rfl) (by kernel_rfl) (λ _ _ _ h=>h) (Or.inl ⟨by rfl,?y7n⟩) ?z7n
    case y7n=>(intro w;first | (go_simp;done) | (go_simp;with_reducible rfl))
    refine wpAny_take (i:=8) (v:=?v8n) rfl (by kernel_rfl) (by kernel_rfl) (by kernel_rfl) (λ _ _ _ h=>h) (Or.inl ⟨by rfl,?y8n⟩) ?z8n
    case y8n=>(intro w;first | (go_simp;done) | (go_simp;with_reducible rfl))
    refine wpAny_take (i:=9) (v:=?v9n) rfl (by kernel_rfl) (by kernel_rfl) (by kernel_rfl) (λ _ _ _ h=>h) (Or.inl ⟨by rfl,?y9n⟩) ?z9n
    case y9n=>(intro w;first | (go_simp;done) | (go_simp;with_reducible rfl))
    refine wpAny_take (i:=10) (v:=?v10n) rfl (by kernel_rfl) (by kernel_rfl) (by kernel_rfl) (λ _ _ _ h=>h) (Or.inl ⟨by rfl,?y10n⟩) ?z10n
    case y10n=>(intro w;first | (go_simp;done) | (go_simp;with_reducible rfl))
    refine wpAny_take (i:=11) (v:=.slice (some ⟨b,off+k,none⟩) j (cap-k)) rfl (by kernel_rfl) (by kernel_rfl) (by kernel_rfl) (λ _ _ _ h=>h) (Or.inl ⟨by rfl,?y11n⟩) ?z11n
    case y11n=>(intro w;go_simp;first|done|with_reducible rfl|simp[x1,x2,x3,x4,x5])
    refine wpAny_ready (rs:=[4,12]) (by kernel_rfl) (by simp) ?_;refine Yf rfl (λ K a=>?_) (Yf rfl (λ K a=>?_) Yi)
    .skip
     go_simp
     refine(I.out _).mono ?_;rintro e w3 ⟨rfl,rfl⟩;go_simp
     refine a _ _ ?_;clear a K;refine wpAny_ready (rs:=[5,12]) (by kernel_rfl) (by simp) ?_;refine Yf rfl (λ K a=>?_) (Yf rfl (λ K a=>?_) Yi)
     .skip
      go_simp
      refine a _ _ ?_;clear a K;refine wpAny_ready (rs:=[12]) (by kernel_rfl) (by simp) ?_;refine Yf rfl (λ K a=>?_) Yi;go_simp
      refine a _ _ ?_;clear a K;refine wpAny_take (i:=13) (v:=?v13a) rfl (by kernel_rfl) (by kernel_rfl) (by kernel_rfl) (λ _ _ _ h=>h) (Or.inl ⟨by rfl,?y13a⟩) ?z13a
      case y13a=>(intro w;first | (go_simp;done) | (go_simp;with_reducible rfl))
      refine wpAny_take (i:=14) (v:=?v14a) rfl (by kernel_rfl) (by kernel_rfl) (by kernel_rfl) (λ _ _ _ h=>h) (Or.inl ⟨by rfl,?y14a⟩) ?z14a
      case y14a=>(intro w;first | (go_simp;done) | (go_simp;with_reducible rfl))
      refine wpAny_done (by kernel_rfl) ?_ _;clear B m o
      cases C with
      | true =>
       go_wp2_with fail
       refine bodyPost_ret (v:=.tuple #[.int .i64 T,.int .i64 j,.int .i64 0]) (by simp[results,results89,go_sem]) rfl ?_;refine⟨?_,d.out⟩;rw[Zpf ⟨A,z.1⟩ s.out c.out,<- g.out]
      | false =>
       go_wp2_with fail
       refine⟨⟨j+1,by omega,by omega,by go_num,Ya λ i r G=>?_,d⟩,by simp[intOf];omega⟩;by_cases q:i=j
       .subst q
        exact c.out
       .exact s.out i r (by omega)
     .skip
      go_simp
      refine a _ _ ?_;clear a K;refine wpAny_ready (rs:=[5]) (by kernel_rfl) (by simp) ?_;refine Yf rfl (λ K a=>?_) Yi;go_simp
      refine a _ _ ?_;clear a K;refine wpAny_take (i:=13) (v:=?v13b) rfl (by kernel_rfl) (by kernel_rfl) (by kernel_rfl) (λ _ _ _ h=>h) (Or.inl ⟨by rfl,?y13b⟩) ?z13b
      case y13b=>(intro w;first | (go_simp;done) | (go_simp;with_reducible rfl))
      refine wpAny_take (i:=14) (v:=?v14b) rfl (by kernel_rfl) (by kernel_rfl) (by kernel_rfl) (λ _ _ _ h=>h) (Or.inl ⟨by rfl,?y14b⟩) ?z14b
      case y14b=>(intro w;first | (go_simp;done) | (go_simp;with_reducible rfl))
      refine wpAny_done (by kernel_rfl) ?_ _;clear B m o
      cases C with
      | true =>
       go_wp2_with fail
       refine bodyPost_ret (v:=.tuple #[.int .i64 T,.int .i64 j,.int .i64 0]) (by simp[results,results89,go_sem]) rfl ?_;refine⟨?_,d.out⟩;rw[Zpf ⟨A,z.1⟩ s.out c.out,<- g.out]
      | false =>
       go_wp2_with fail
       refine⟨⟨j+1,by omega,by omega,by go_num,Ya λ i r G=>?_,d⟩,by simp[intOf];omega⟩;by_cases q:i=j
       .subst q
        exact c.out
       .exact s.out i r (by omega)
    .skip
     go_simp
     refine a _ _ ?_;clear a K;refine wpAny_ready (rs:=[4]) (by kernel_rfl) (by simp) ?_;refine Yf rfl (λ K a=>?_) Yi;go_simp
     refine(I.out _).mono ?_;rintro e w3 ⟨rfl,rfl⟩;go_simp
     refine a _ _ ?_;clear a K;refine wpAny_ready (rs:=[5]) (by kernel_rfl) (by simp) ?_;refine Yf rfl (λ K a=>?_) Yi;go_simp
     refine a _ _ ?_;clear a K;refine wpAny_take (i:=13) (v:=?v13c) rfl (by kernel_rfl) (by kernel_rfl) (by kernel_rfl) (λ _ _ _ h=>h) (Or.inl ⟨by rfl,?y13c⟩) ?z13c
     case y13c=>(intro w;first | (go_simp;done) | (go_simp;with_reducible rfl))
     refine wpAny_take (i:=14) (v:=?v14c) rfl (by kernel_rfl) (by kernel_rfl) (by kernel_rfl) (λ _ _ _ h=>h) (Or.inl ⟨by rfl,?y14c⟩) ?z14c
     case y14c=>(intro w;first | (go_simp;done) | (go_simp;with_reducible rfl))
     refine wpAny_done (by kernel_rfl) ?_ _;clear B m o
     cases C with
     | true =>
      go_wp2_with fail
      refine bodyPost_ret (v:=.tuple #[.int .i64 T,.int .i64 j,.int .i64 0]) (by simp[results,results89,go_sem]) rfl ?_;refine⟨?_,d.out⟩;rw[Zpf ⟨A,z.1⟩ s.out c.out,<- g.out]
     | false =>
      go_wp2_with fail
      refine⟨⟨j+1,by omega,by omega,by go_num,Ya λ i r G=>?_,d⟩,by simp[intOf];omega⟩;by_cases q:i=j
      .subst q
       exact c.out
      .exact s.out i r (by omega)
  .have hno:∀i,1<=i->i<5->tryU (l.drop k) i=false:=λ i r G=>by
    by_cases q:i<j
    .exact s.out i r q
    .unfold tryU
     rw[decide_eq_false (by rw[List.length_drop,<- D.out];omega)];rfl
   have Q:=Ya hno;clear hno;have hp:=Ya (show Zpe (l.drop k) w (.returned (.tuple #[.int .i64 0,.int .i64 0,.int .i64 4])) wr from⟨by rw[Z2s Q.out],t.out⟩);by_cases h4:j<=4
   .have d2:decide ((j:Int)<=4)=true:=decide_eq_true (by omega)
    have d3:decide (((k+j:Nat):Int)<=(n:Int))=false:=decide_eq_false (by omega);have d4:¬((k:Int)+j<=(n:Int)):=by omega
    go_wp2_with fail
    refine bodyPost_ret (v:=.tuple #[.int .i64 0,.int .i64 0,.int .i64 4]) (by simp[results,results89,go_sem]) rfl ?_;exact hp.out
   .have d2:decide ((j:Int)<=4)=false:=decide_eq_false (by omega)
    go_wp2_with fail
    refine bodyPost_ret (v:=.tuple #[.int .i64 0,.int .i64 0,.int .i64 4]) (by simp[results,results89,go_sem]) rfl ?_;exact hp.out
