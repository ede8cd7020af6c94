/- Parts. -/
import Derived.Test.YtldbnjajjfgipaaGreatDoorZQf
import Derived.Deep.RegionWith
import Derived.Lib.SlBytesRow
import Derived.Deep.DeepCutAuto
set_option linter.all false
set_option maxHeartbeats 4000000
open Go.Lib renaming hid->Ya
open Go.AllReady renaming cons->Yf,nil->Yi
open List renaming getD_eq_getElem?_getD->Yh,mem_of_mem_take->Yc3
open Go.Value renaming int->Ys
namespace Go.Proofs.YtldbnjajjfgipaaGreatDoor
open S Go.Proofs.Tryz Go.RowKit
set_option maxRecDepth 100000
structure OctW (w:World)(B b off:Nat)(l:List Int):Prop where
 lt:b<B
 oct:∀x∈l,0<=x/\x<=255
 at_:∀j,j<l.length->w.cell? ⟨b,off+j,none⟩=some (.int .u8 (l.getD j 0))
theorem OctW.below {w w':World}{B b off:Nat}{l:List Int}(h:OctW w B b off l)(hb:Below B w w'):OctW w' B b off l:=⟨h.lt,h.oct,λ j hj=>(hb.cell (p:=⟨b,off+j,none⟩) h.lt).trans (h.at_ j hj)⟩
theorem Ztr {l:List Int}{k j:Nat}(h:k+j<=l.length):((l.drop k).take j).length=j/\∀i,i<j->((l.drop k).take j).getD i 0=l.getD (k+i) 0:=by
 refine⟨by rw[List.length_take,List.length_drop];omega,λ i hi=>?_⟩;rw[Yh,List.getElem?_take_of_lt hi,List.getElem?_drop,<- Yh]
theorem Zxp {w:World}{B b off:Nat}{l:List Int}(h:OctW w B b off l){k j cap:Nat}(hj:k+j<=l.length) :
 (convert 46 9 (.slice (some ⟨b,off+k,none⟩) j cap)).run prog w=.ok (.string (strOfNums ((l.drop k).take j))) w:=by
 obtain⟨h1,h2⟩:=Ztr hj;refine run_convert_bytes_arg w 46 5 underlying46 underlying5 b (off+k) j cap _ h1 (λ i hi=>?_) 9 underlying9;rw[h2 i hi,show off+k+i=off+(k+i) by omega];exact h.at_ (k+i) (by omega)
theorem Z1s (w:World)(l:List Int)(n:Nat)(hn:n=l.length) :
 (convert 46 9 (.slice (some ⟨w.heap.size,0,none⟩) n n)).run prog (w.alloc (.cells (l.map (Ys .u8)).toArray 5))=.ok (.string (strOfNums l)) (w.alloc (.cells (l.map (Ys .u8)).toArray 5)):=by
 refine run_convert_bytes_arg _ 46 5 underlying46 underlying5 w.heap.size 0 n n l hn.symm (λ i hi=>?_) 9 underlying9;rw[Nat.zero_add];exact Ztc w l i (by omega)
theorem Zy4 (w:World)(l:List Int)(n:Nat)(hn:n=l.length) :
 (convert 46 9 (.slice (some ⟨w.heap.size,0,none⟩) n n)).run prog (w.alloc (.cells (l.map (Ys .u8)).toArray 5)).drew=.ok (.string (strOfNums l)) (w.alloc (.cells (l.map (Ys .u8)).toArray 5)).drew:=by
 refine run_convert_bytes_arg _ 46 5 underlying46 underlying5 w.heap.size 0 n n l hn.symm (λ i hi=>?_) 9 underlying9;rw[Nat.zero_add];exact Ztc w l i (by omega)
theorem Zy5 (x y:ByteArray):(x.toList==y.toList)=decide (x=y):=by
 rw[Bool.eq_iff_iff,beq_iff_eq,decide_eq_true_iff,ByteArray.toList_eq,ByteArray.toList_eq];exact⟨λ h=>ByteArray.ext (Array.toList_inj.1 h),λ h=>by rw[h]⟩
theorem Zts {a b:List Int}(ha:∀x∈a,0<=x/\x<=255)(hb:∀x∈b,0<=x/\x<=255):(strOfNums a=strOfNums b)↔a=b:=by
 refine⟨λ h=>?_,λ h=>by rw[h]⟩;have h1:(strOfNums a).data.toList=(strOfNums b).data.toList:=by rw[h]
 rw[strOfNums_data,strOfNums_data] at h1;have key:∀(l:List Int),(∀x∈l,0<=x/\x<=255)->(l.map λ n=>UInt8.ofNat n.toNat).map (λ u=>(u.toNat:Int))=l:=λ l hl=>by
  rw[List.map_map]
  conv=>rhs;rw[<- List.map_id l]
  refine List.map_congr_left λ x hx=>?_
  have:=hl x hx
  show((UInt8.ofNat x.toNat).toNat:Int)=x
  rw[UInt8.toNat_ofNat_of_lt' (by show x.toNat<256;omega)];omega
 rw[<- key a ha,<- key b hb,h1]
def Znn (l:List Int)(w:World)(e:Ending)(w':World):Prop :=
 e=.returned (match getU l with
  | some y=>.tuple #[.int .i64 y.1,.int .i64 (y.2:Nat),.int .i64 0]
  | none=>.tuple #[.int .i64 0,.int .i64 0,.int .i64 4])/\Below w.heap.size w w'
theorem Zno {l:List Int}{j:Nat}(h1:1<=j/\j<=4)(hf:∀i,1<=i->i<j->tryU l i=false)(ht:tryU l j=true):getU l=some (toldU (l.take j),j):=by
 unfold getU;have:j=1\/j=2\/j=3\/j=4:=by omega
 rcases this with rfl|rfl|rfl|rfl
 .rw[if_pos ht]
 .rw[hf 1 (by decide) (by decide),if_neg (by decide),if_pos ht]
 .rw[hf 1 (by decide) (by decide),hf 2 (by decide) (by decide),if_neg (by decide),if_neg (by decide),if_pos ht]
 .rw[hf 1 (by decide) (by decide),hf 2 (by decide) (by decide),hf 3 (by decide) (by decide),if_neg (by decide),if_neg (by decide),if_neg (by decide),if_pos ht]
theorem Zy6 {l:List Int}(hf:∀i,1<=i->i<5->tryU l i=false):getU l=none:=by
 unfold getU;rw[hf 1 (by decide) (by decide),hf 2 (by decide) (by decide),hf 3 (by decide) (by decide),hf 4 (by decide) (by decide),if_neg (by decide),if_neg (by decide),if_neg (by decide),if_neg (by decide)]
theorem Z1t (b off n cap k:Nat)(l:List Int)(hn:n=l.length)(hcap:n<=cap)(hl:n<=1000000)(hk:k<n)(w:World)(h:OctW w w.heap.size b off l) :
 Calls prog 204 #[.slice (some ⟨b,off,none⟩) n cap,.int .i64 k] w (Znn (l.drop k) w):=by
 have H:=Ya h;have HN:=Ya hn;have d0:decide ((k:Int)<0)=false:=decide_eq_false (by omega);have d1:decide ((k:Int)>=(n:Int))=false:=decide_eq_false (by omega);have d11:decide (n<=k)=false:=decide_eq_false (by omega);clear h hn;go_enter func204,ntmps204
 go_wp2_with fail
 go_loopw [7] (λ v7 wr=>∃j:Nat,1<=j/\j<=5/\v7=.int .i64 j/\Hid (∀i,1<=i->i<j->tryU (l.drop k) i=false)/\Hid (Below w.heap.size w wr)) (λ v7 _=>5-(intOf v7).toNat)
 case atStart=>exact⟨1,Nat.le_refl _,by decide,rfl,Ya (λ i h1 h2=>by omega),Ya (Below.refl _ _)⟩
 case round =>
  obtain⟨j,hj1,hj5,rfl,HF,HB⟩:=hrel;have e1:IntKind.i64.wrap ((k:Int)+j)=((k+j:Nat):Int):=by rw[IntWalk.i64_in _ ⟨by omega,by omega⟩];omega
  by_cases hin:j<=4/\k+j<=n
  .have d2:decide ((j:Int)<=4)=true:=decide_eq_true (by omega)
   have d3:decide (((k+j:Nat):Int)<=(n:Int))=true:=decide_eq_true (by omega);have hws:∀W:World,(Instr.slice 46 (.slice (some ⟨b,off,none⟩) n cap) (some (.int .i64 (k:Int))) (some (.int .i64 ((k+j:Nat):Int))) none).run prog W=.ok (.slice (some ⟨b,off+k,none⟩) j (cap-k)) W:=λ W=>by
    have:=Lib.run_slice_window (P:=prog) W 46 5 underlying46 (λ w=>by kernel_rfl) b off n cap k (k+j) (by omega) (by omega);rw[this,Nat.add_sub_cancel_left]
   have x1:(0:Int)<=(k:Int)+j:=by omega
   have x2:(k:Int)+j<=(cap:Int):=by omega
   have x3:k<=((k:Int)+j).toNat:=by omega
   have x4:¬cap=k:=by omega
   have x5:((k:Int)+j).toNat-k=j:=by omega
   have Hws:=Ya hws;go_upto_region 6 with fail
   have hws:=Hws.out;obtain⟨q1,q2⟩:=Ztr (l:=l) (k:=k) (j:=j) (by rw[<- HN.out];omega);have htold:=λ(W:World) (hW:Below w.heap.size w W)=>Zx1 b (off+k) j (cap-k) ((l.drop k).take j) q1.symm (by omega) (λ x hx=>H.out.oct x (List.mem_of_mem_drop (Yc3 hx))) W (λ i hi=>by
    rw[q2 i hi,show off+k+i=off+(k+i) by omega];exact(H.out.below hW).at_ (k+i) (by rw[<- HN.out];omega))
   have HT:=Ya htold;clear htold q1 q2;go_wp2_with fail
   refine(HT.out _ HB.out).mono ?_;rintro e w1 ⟨rfl,rfl⟩;obtain⟨T,hT⟩:=Yx (toldU ((l.drop k).take j));rw[<- hT];have HTe:=Ya hT;clear hT HT;have e5:IntKind.i64.wrap ((j:Int)+1)=(j:Int)+1:=IntWalk.i64_in _ ⟨by omega,by omega⟩
   cases hu:isU T with
   | false =>
    have HIs:∀W:World,Calls prog 70 #[.int .i64 T] W λ e w'=>e=.returned (.bool false)/\W=w':=λ W=>by
     have:=Zz9 T W;rw[hu] at this;exact this
    have HI:=Ya HIs;clear HIs;go_upto_region 7 with fail
    refine Zp (by kernel_rfl) (by kernel_rfl) ?_
    repeat (first|go_big_quiet_step ((go_at_call 70;exact Zcj (HI.out _))))
    refine wpQuiet_nil ?_;rintro _ ⟨⟨w2,hb2⟩,rfl⟩;have HB2:=Ya (HB.out.trans (hb2.mono HB.out.size));clear hb2;go_wp2_with fail
    go_roundw
    case rel =>
     refine⟨j+1,by omega,by omega,by go_num,Ya λ i h1 h2=>?_,?_⟩
     .by_cases q:i=j
      .subst q
       unfold tryU;rw[<- HTe.out,hu];simp
      .exact HF.out i h1 (by omega)
     .exact HB2
    case measure=>simp[intOf] <;> omega
   | true =>
    have HIs:∀W:World,Calls prog 70 #[.int .i64 T] W λ e w'=>e=.returned (.bool true)/\W=w':=λ W=>by
     have:=Zz9 T W;rw[hu] at this;exact this
    have HI:=Ya HIs;have HBy:=Ya (λ W=>Zwd T hu W);have hbx:Below w.heap.size w (wr.alloc (.cells ((bytesU T).map (Ys .u8)).toArray 5)).drew:=(HB.out.alloc HB.out.size _).drew;have CVL:=Zy4 wr (bytesU T) _ rfl;have CVW1:=Zxp (H.out.below HB.out.drew) (k:=k) (j:=j) (cap:=cap-k) (by rw[<- HN.out];omega);have CVW2:=Zxp (H.out.below hbx) (k:=k) (j:=j) (cap:=cap-k) (by rw[<- HN.out];omega);have HBX:=Ya hbx;obtain⟨bq,hbq⟩:=Yx (decide (strOfNums (bytesU T)=strOfNums ((l.drop k).take j)));have hq2:((strOfNums (bytesU T)).toList==(strOfNums ((l.drop k).take j)).toList)=bq:=by rw[hbq];exact Zy5 _ _
    have HTry:=Ya (show tryU (l.drop k) j=bq by
     have e1:decide (j<=(l.drop k).length)=true:=decide_eq_true (by rw[List.length_drop,<- HN.out];omega);have e2:decide (bytesU T=(l.drop k).take j)=bq:=by
      rw[hbq];exact decide_eq_decide.2 (Zts (Zp2 hu) (λ x hx=>H.out.oct x (List.mem_of_mem_drop (Yc3 hx)))).symm
     unfold tryU;rw[<- HTe.out,e1,hu,e2];rfl)
    clear hbq;clear HIs hbx;go_upto_region 7 with fail
    refine wp_region_any (by kernel_rfl) ?_;change wpAny _ _ _ _ _ _ _ (World.drew _);refine wpAny_take (i:=0) (v:=?v0n) rfl (by kernel_rfl) (by kernel_rfl) (by kernel_rfl) (λ _ _ _ h=>h) (Or.inl ⟨by rfl,?y0n⟩) ?z0n
    case y0n=>(intro w;first | (go_simp;done) | (go_simp;with_reducible rfl))
    refine wpAny_ready (rs:=[1]) (by kernel_rfl) (by simp) ?_;refine Yf rfl (λ K hK=>?_) Yi;go_simp
    refine(HI.out _).mono ?_;rintro e w2 ⟨rfl,rfl⟩;go_simp
    refine hK _ _ ?_;clear hK K;refine wpAny_take (i:=2) (v:=?v2n) rfl (by kernel_rfl) (by kernel_rfl) (by kernel_rfl) (λ _ _ _ h=>h) (Or.inl ⟨by rfl,?y2n⟩) ?z2n
    case y2n=>(intro w;first | (go_simp;done) | (go_simp;with_reducible rfl))
    refine wpAny_take (i:=3) (v:=?v3n) rfl (by kernel_rfl) (by kernel_rfl) (by kernel_rfl) (λ _ _ _ h=>h) (Or.inl ⟨by rfl,?y3n⟩) ?z3n
    case y3n=>(intro w;first | (go_simp;done) | (go_simp;with_reducible rfl))
    refine wpAny_take (i:=6) (v:=?v6n) rfl (by kernel_rfl) (by kernel_rfl) (by kernel_rfl) (λ _ _ _ h=>h) (Or.inl ⟨by rfl,?y6n⟩) ?z6n
    case y6n=>(intro w;first | (go_simp;done) | (go_simp;with_reducible rfl))
    refine wpAny_take (i:=7) (v:=?v7n) rfl (by kernel_rfl) (by kernel_rfl) (by kernel_rfl) (λ _ _ _ h=>h) (Or.inl ⟨by rfl,?y7n⟩) ?z7n
    case y7n=>(intro w;first | (go_simp;done) | (go_simp;with_reducible rfl))
    refine wpAny_take (i:=8) (v:=?v8n) rfl (by kernel_rfl) (by kernel_rfl) (by kernel_rfl) (λ _ _ _ h=>h) (Or.inl ⟨by rfl,?y8n⟩) ?z8n
    case y8n=>(intro w;first | (go_simp;done) | (go_simp;with_reducible rfl))
    refine wpAny_take (i:=9) (v:=?v9n) rfl (by kernel_rfl) (by kernel_rfl) (by kernel_rfl) (λ _ _ _ h=>h) (Or.inl ⟨by rfl,?y9n⟩) ?z9n
    case y9n=>(intro w;first | (go_simp;done) | (go_simp;with_reducible rfl))
    refine wpAny_take (i:=10) (v:=?v10n) rfl (by kernel_rfl) (by kernel_rfl) (by kernel_rfl) (λ _ _ _ h=>h) (Or.inl ⟨by rfl,?y10n⟩) ?z10n
    case y10n=>(intro w;first | (go_simp;done) | (go_simp;with_reducible rfl))
    refine wpAny_take (i:=11) (v:=.slice (some ⟨b,off+k,none⟩) j (cap-k)) rfl (by kernel_rfl) (by kernel_rfl) (by kernel_rfl) (λ _ _ _ h=>h) (Or.inl ⟨by rfl,?y11n⟩) ?z11n
    case y11n=>(intro w;go_simp;first|done|with_reducible rfl|simp[x1,x2,x3,x4,x5])
    refine wpAny_ready (rs:=[4,12]) (by kernel_rfl) (by simp) ?_;refine Yf rfl (λ K hK=>?_) (Yf rfl (λ K hK=>?_) Yi)
    .skip
     go_simp
     refine(HBy.out _).mono ?_;rintro e w3 ⟨rfl,rfl⟩;go_simp
     refine hK _ _ ?_;clear hK K;refine wpAny_ready (rs:=[5,12]) (by kernel_rfl) (by simp) ?_;refine Yf rfl (λ K hK=>?_) (Yf rfl (λ K hK=>?_) Yi)
     .skip
      go_simp
      refine hK _ _ ?_;clear hK K;refine wpAny_ready (rs:=[12]) (by kernel_rfl) (by simp) ?_;refine Yf rfl (λ K hK=>?_) Yi;go_simp
      refine hK _ _ ?_;clear hK K;refine wpAny_take (i:=13) (v:=?v13a) rfl (by kernel_rfl) (by kernel_rfl) (by kernel_rfl) (λ _ _ _ h=>h) (Or.inl ⟨by rfl,?y13a⟩) ?z13a
      case y13a=>(intro w;first | (go_simp;done) | (go_simp;with_reducible rfl))
      refine wpAny_take (i:=14) (v:=?v14a) rfl (by kernel_rfl) (by kernel_rfl) (by kernel_rfl) (λ _ _ _ h=>h) (Or.inl ⟨by rfl,?y14a⟩) ?z14a
      case y14a=>(intro w;first | (go_simp;done) | (go_simp;with_reducible rfl))
      refine wpAny_done (by kernel_rfl) ?_ _;clear CVL CVW1 CVW2
      cases bq with
      | true =>
       go_wp2_with fail
       refine bodyPost_ret (v:=.tuple #[.int .i64 T,.int .i64 j,.int .i64 0]) (by simp[results,results204,go_sem]) rfl ?_;refine⟨?_,HBX.out⟩;rw[Zno ⟨hj1,hin.1⟩ HF.out HTry.out,<- HTe.out]
      | false =>
       go_wp2_with fail
       refine⟨⟨j+1,by omega,by omega,by go_num,Ya λ i h1 h2=>?_,HBX⟩,by simp[intOf];omega⟩;by_cases q:i=j
       .subst q
        exact HTry.out
       .exact HF.out i h1 (by omega)
     .skip
      go_simp
      refine hK _ _ ?_;clear hK K;refine wpAny_ready (rs:=[5]) (by kernel_rfl) (by simp) ?_;refine Yf rfl (λ K hK=>?_) Yi;go_simp
      refine hK _ _ ?_;clear hK K;refine wpAny_take (i:=13) (v:=?v13b) rfl (by kernel_rfl) (by kernel_rfl) (by kernel_rfl) (λ _ _ _ h=>h) (Or.inl ⟨by rfl,?y13b⟩) ?z13b
      case y13b=>(intro w;first | (go_simp;done) | (go_simp;with_reducible rfl))
      refine wpAny_take (i:=14) (v:=?v14b) rfl (by kernel_rfl) (by kernel_rfl) (by kernel_rfl) (λ _ _ _ h=>h) (Or.inl ⟨by rfl,?y14b⟩) ?z14b
      case y14b=>(intro w;first | (go_simp;done) | (go_simp;with_reducible rfl))
      refine wpAny_done (by kernel_rfl) ?_ _;clear CVL CVW1 CVW2
      cases bq with
      | true =>
       go_wp2_with fail
       refine bodyPost_ret (v:=.tuple #[.int .i64 T,.int .i64 j,.int .i64 0]) (by simp[results,results204,go_sem]) rfl ?_;refine⟨?_,HBX.out⟩;rw[Zno ⟨hj1,hin.1⟩ HF.out HTry.out,<- HTe.out]
      | false =>
       go_wp2_with fail
       refine⟨⟨j+1,by omega,by omega,by go_num,Ya λ i h1 h2=>?_,HBX⟩,by simp[intOf];omega⟩;by_cases q:i=j
       .subst q
        exact HTry.out
       .exact HF.out i h1 (by omega)
    .skip
     go_simp
     refine hK _ _ ?_;clear hK K;refine wpAny_ready (rs:=[4]) (by kernel_rfl) (by simp) ?_;refine Yf rfl (λ K hK=>?_) Yi;go_simp
     refine(HBy.out _).mono ?_;rintro e w3 ⟨rfl,rfl⟩;go_simp
     refine hK _ _ ?_;clear hK K;refine wpAny_ready (rs:=[5]) (by kernel_rfl) (by simp) ?_;refine Yf rfl (λ K hK=>?_) Yi;go_simp
     refine hK _ _ ?_;clear hK K;refine wpAny_take (i:=13) (v:=?v13c) rfl (by kernel_rfl) (by kernel_rfl) (by kernel_rfl) (λ _ _ _ h=>h) (Or.inl ⟨by rfl,?y13c⟩) ?z13c
     case y13c=>(intro w;first | (go_simp;done) | (go_simp;with_reducible rfl))
     refine wpAny_take (i:=14) (v:=?v14c) rfl (by kernel_rfl) (by kernel_rfl) (by kernel_rfl) (λ _ _ _ h=>h) (Or.inl ⟨by rfl,?y14c⟩) ?z14c
     case y14c=>(intro w;first | (go_simp;done) | (go_simp;with_reducible rfl))
     refine wpAny_done (by kernel_rfl) ?_ _;clear CVL CVW1 CVW2
     cases bq with
     | true =>
      go_wp2_with fail
      refine bodyPost_ret (v:=.tuple #[.int .i64 T,.int .i64 j,.int .i64 0]) (by simp[results,results204,go_sem]) rfl ?_;refine⟨?_,HBX.out⟩;rw[Zno ⟨hj1,hin.1⟩ HF.out HTry.out,<- HTe.out]
     | false =>
      go_wp2_with fail
      refine⟨⟨j+1,by omega,by omega,by go_num,Ya λ i h1 h2=>?_,HBX⟩,by simp[intOf];omega⟩;by_cases q:i=j
      .subst q
       exact HTry.out
      .exact HF.out i h1 (by omega)
  .have hno:∀i,1<=i->i<5->tryU (l.drop k) i=false:=λ i h1 h2=>by
    by_cases q:i<j
    .exact HF.out i h1 q
    .unfold tryU
     rw[decide_eq_false (by rw[List.length_drop,<- HN.out];omega)];rfl
   have HNo:=Ya hno;clear hno;have hp:=Ya (show Znn (l.drop k) w (.returned (.tuple #[.int .i64 0,.int .i64 0,.int .i64 4])) wr from⟨by rw[Zy6 HNo.out],HB.out⟩);by_cases h4:j<=4
   .have d2:decide ((j:Int)<=4)=true:=decide_eq_true (by omega)
    have d3:decide (((k+j:Nat):Int)<=(n:Int))=false:=decide_eq_false (by omega);have d4:¬((k:Int)+j<=(n:Int)):=by omega
    go_wp2_with fail
    refine bodyPost_ret (v:=.tuple #[.int .i64 0,.int .i64 0,.int .i64 4]) (by simp[results,results204,go_sem]) rfl ?_;exact hp.out
   .have d2:decide ((j:Int)<=4)=false:=decide_eq_false (by omega)
    go_wp2_with fail
    refine bodyPost_ret (v:=.tuple #[.int .i64 0,.int .i64 0,.int .i64 4]) (by simp[results,results204,go_sem]) rfl ?_;exact hp.out
