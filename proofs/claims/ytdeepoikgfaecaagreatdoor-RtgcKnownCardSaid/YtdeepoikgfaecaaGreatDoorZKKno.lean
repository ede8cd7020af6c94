/- Parts. -/
import Derived.Test.YtdeepoikgfaecaaGreatDoorZExtD
set_option linter.all false
set_option maxHeartbeats 8000000
open Go.Lib renaming hid->Ya,cell_of_heap->Yb
open Nat renaming le_refl->Yf,le_trans->Y9
open Go.AllReady renaming cons->Yg,nil->Yi
open Array renaming getElem?_eq_some_iff->Yh,replicate->Y4
open Go.IntWalk renaming i64_in->Y6
open List renaming take_succ_cons->Y7,drop_succ_cons->Yab,take_zero->Yam,drop_zero->Yas
namespace Go.Proofs.YtdeepoikgfaecaaGreatDoor
set_option maxRecDepth 100000
open Go.RowKit
def kn2 (w:World):World:=(w.alloc (.cells (madeCells #[.int .u32 0] 3) 25)).alloc (.cells #[.int .u32 4,.int .u32 8] 25)
theorem Zh2 (w:World):Below w.heap.size w (kn2 w):=((Below.refl _ _).alloc (Yf _) _).alloc (by simp) _
theorem Zwl (w:World)(hL:LVE w):Calls Tryz.prog 6 #[.slice (some ⟨w.heap.size,0,none⟩) 3 3,.slice (some ⟨w.heap.size+1,0,none⟩) 2 2,.int .i64 4096] (kn2 w) fun e w' =>
 ∃ Fs b p F lo,S.Wr (S.af 3) [4,8] Fs 4096/\e=.returned (.pointer (some ⟨b,0,none⟩))/\KAt w' lo b p F (S.wL (S.af 3) [4,8] Fs).length 2048 (S.wP (S.af 3) [4,8] Fs) (S.wM (S.wL (S.af 3) [4,8] Fs) 4096 [])/\Below w.heap.size w w'/\w.heap.size<=lo/\lo<=w'.heap.size:=by
 obtain ⟨w1,hw1⟩:=Yx (w.alloc (.cells (madeCells #[.int .u32 0] 3) 25));have s1:w1.heap.size=w.heap.size+1:=by rw [hw1];simp
 have h0:w1.heap[w.heap.size]?=some (.cells (madeCells #[.int .u32 0] 3) 25 (0,0)):=by rw [hw1];exact heap_alloc_new w _
 have h1:=heap_alloc_new w1 (.cells #[.int .u32 4,.int .u32 8] 25);have e2:kn2 w=w1.alloc (.cells #[.int .u32 4,.int .u32 8] 25):=by rw [hw1];rfl
 rw [s1] at h1;have h0':(kn2 w).heap[w.heap.size]?=some (.cells (madeCells #[.int .u32 0] 3) 25 (0,0)):=by
  rw [e2];exact (Below.heap_alloc _ _ _ (by rw [s1];omega)).trans h0
 have h1':(kn2 w).heap[w.heap.size+1]?=some (.cells #[.int .u32 4,.int .u32 8] 25 (0,0)):=by rw [e2];exact h1
 have hs:Reads (kn2 w) (kn2 w).heap.size (some ⟨w.heap.size+1,0,none⟩) (([4,8]:List Int).map (Value.int .u32)):=fun _=>by
  refine ⟨_,0,rfl,(Yh.1 h1').1,fun i x hx=>?_⟩;rw [Yb h1']
  match i,hx with
  | 0,hx=>cases hx;rfl
  | 1,hx=>cases hx;rfl
 have h:=Zhz (some ⟨w.heap.size,0,none⟩) (some ⟨w.heap.size+1,0,none⟩) 3 2 (S.af 3) [4,8] 4096 (kn2 w) (hL.on (Zh2 w)) (Zon h0') hs (by decide) (by decide) (by decide) (by decide) (by decide);have hsz:w.heap.size<=(kn2 w).heap.size:=(Zh2 w).size;refine h.mono ?_;rintro e w' ⟨Fs,b,p,F,q1,rfl,q2,q3⟩;exact ⟨Fs,b,p,F,_,q1,rfl,q2,(Zh2 w).trans (q3.mono hsz),hsz,q3.size⟩
theorem Zy4 {W:World}{q:Nat}(h:W.heap[q]?=some (.cells #[.string ⟨#[114,116,49,48,51]⟩,.string ⟨#[114,116,49,48,52]⟩,.string ⟨#[114,116,49,48,53]⟩,.string ⟨#[114,116,49,48,54]⟩] 9 (0,0)))(k:Nat)(hk:k<4):W.cell? ⟨q,k,none⟩=some (.string (S.bi k)):=by
 rw [Yb h]
 match k,hk with
 | 0,_=>rw [knS_lit.1];rfl
 | 1,_=>rw [knS_lit.2.1];rfl
 | 2,_=>rw [knS_lit.2.2.1];rfl
 | 3,_=>rw [knS_lit.2.2.2];rfl
theorem Zy5 {W:World}{q:Nat}(h:W.heap[q]?=some (.cells #[.int .i64 5,.int .i64 2,.int .i64 6,.int .i64 0] 3 (0,0)))(k:Nat)(hk:k<4):W.cell? ⟨q,k,none⟩=some (.int .i64 (S.bm k)):=by
 rw [Yb h]
 match k,hk with
 | 0,_=>rfl
 | 1,_=>rfl
 | 2,_=>rfl
 | 3,_=>rfl
theorem Z03 (k:Nat):0<=S.bm k/\S.bm k<=6:=by
 unfold S.bm
 split
 ·decide
 ·split
  ·decide
  ·split <;> decide
theorem Zku (w:World)(hL:LVE w):Calls Tryz.prog 3 #[] w fun e w'=>e=.returned (.bool true)/\Below w.heap.size w w':=by
 have Hw1:=Ya (Zwl w hL);have HLV:=Ya hL;unfold kn2 at Hw1;clear hL;go_enter Tryz.func3,Tryz.ntmps3
 have hmk:=run_make_row' (P:=Tryz.prog) 24 25 (.int .u32 0) 4 Tryz.underlying24 Zcb rfl .i64 .i64 3 (by omega) (by omega);simp only [show ((3:Nat):Int)=3 from rfl] at hmk;go_upto_region 1 with fail
 go_wp2_with fail
 refine Hw1.out.mono ?_;rintro e w1 ⟨Fs,b,p,F,lo,hwr,rfl,hk1,hb1,hlo,hlo2⟩;obtain ⟨H,hH⟩:∃ H:Int,H=(S.wL (S.af 3) [4,8] Fs).length:=⟨_,rfl⟩
 have hHb:0<=H/\H<=12000:=by have:=hwr.small;omega
 obtain ⟨PP,hPP⟩:=Yx (S.wP (S.af 3) [4,8] Fs);obtain ⟨M0,hM0⟩:=Yx (S.wM (S.wL (S.af 3) [4,8] Fs) 4096 []);rw [<- hH,<- hPP,<- hM0] at hk1;have HK1:=Ya hk1;have HB1:=Ya hb1;have Hst:=Ya (fun (W:World) (hK:KAt W lo b p F H 2048 PP M0)=>Zl1 hwr hH hPP hM0 hK);clear hwr hk1 hb1 hH hPP hM0 Hw1 hmk;go_upto_region 4 with fail
 go_cut [68] from 13 to 67 (fun v68 wc=>v68=.bool false/\Hid (Below w.heap.size w wc))
 case first =>
  as_aux_lemma =>
   refine Z2 1 (Y4 1 true++Y4 55 false) (by kernel_rfl) (by kernel_rfl) ?_;have hE:=Ze w1;simp only [Y7,Yam]
   repeat (first | go_big_quiet_step (fail))
   refine wpQuiet_nil ?_;rintro w2 ⟨⟨_,hb2⟩,rfl⟩;have HK2:=Ya (HK1.out.below hb2);have HB2:=Ya (HB1.out.trans (hb2.mono HB1.out.size));have hlo3:lo<=w2.heap.size:=Y9 hlo2 hb2.size;have hst:=Hst.out w2 HK2.out;have Hst2:=Ya hst;clear hst Hst hE hb2 hlo2 HK1 HB1;change wpAny _ _ _ _ 55 _ _ _;refine wpAny_ready (rs:=[1]) (by kernel_rfl) (by simp) ?_;refine Yg rfl (fun K hK=>?_) Yi;go_simp
   refine Hst2.out.mono ?_;rintro e w3 ⟨rfl,C,ho,F3,hk3,ho3,hf3⟩;have hbb:=HK2.out.lobelow ho3 hlo3;have HK3:=Ya hk3;have HO:=Ya ho;have HB3:=Ya (HB2.out.trans (hbb.mono hlo));clear hk3 ho3 hf3 hbb ho Hst2;go_simp
   refine hK _ _ ?_;clear hK K;obtain ⟨_,_,_,_,_,_,e0,e1,e2,e3,e4⟩:=HK3.out.cells;have hbl:=HK3.out.blt;have hR:∀ (i v:Int),0<=i->i<32->C.rd i=v->∀ y:Ext w3,Calls Tryz.prog 8 #[.pointer (some ⟨p,0,none⟩),.int .i64 i] y.val fun e w'=>e=.returned (.int .u32 v)/\y.val=w':=fun i v h0 h1 hv y=>by
    have h:=Zfy i (HK3.out.below y.property);rw [Zck h0 h1,hv] at h;exact h
   have hW:∀ (i v:Int),0<=i->i<C.mem.length->C.mv i=v->∀ y:Ext w3,Calls Tryz.prog 9 #[.pointer (some ⟨b,0,none⟩),.int .i64 i] y.val fun e w'=>e=.returned (.int .u32 v)/\Below y.val.heap.size y.val w':=fun i v h0 h1 hv y=>by
    have h:=Zet i (HK3.out.below y.property);rw [Zht h0 h1,hv] at h;exact h
   have hlen:=HO.out.len;have Hr26:=Ya (hR 26 H (by decide) (by decide) HO.out.r26);have Hr27:=Ya (hR 27 (H+2048) (by decide) (by decide) HO.out.r27);have Hr28:=Ya (hR 28 1056 (by decide) (by decide) HO.out.r28);have Hr2:=Ya (hR 2 0 (by decide) (by decide) HO.out.r2);have Hw4:=Ya (hW 1314 70 (by decide) (by omega) HO.out.m4);have Hw5:=Ya (hW 1315 4 (by decide) (by omega) HO.out.m5);clear hR hW hlen;have c1:H%4294967296=H:=by omega
   have c2:(H+2048)%4294967296=H+2048:=by omega
   have c3:IntKind.i64.wrap (H+2048)=H+2048:=Y6 _ ⟨by omega,by omega⟩;have hE:=Ze w3;refine Za1 2 (Y4 56 true) (by kernel_rfl) ?_;simp only [Yab,Yas]
   repeat (first
    | go_big_quiet_step ((first
     | (go_at_call 8;first | with_reducible exact Zm (Hr26.out _) | with_reducible exact Zm (Hr27.out _) | with_reducible exact Zm (Hr28.out _) | with_reducible exact Zm (Hr2.out _))
     | (go_at_call 9;first | with_reducible exact Zas (Hw4.out _) | with_reducible exact Zas (Hw5.out _)))))
   refine wpQuiet_nil ?_;rintro w4 ⟨⟨_,hb4⟩,rfl⟩;have HB4:=Ya (HB3.out.trans (hb4.mono HB3.out.size));go_wp2_with fail
   go_meet
   exact ⟨rfl,HB4⟩
 case rest =>
 obtain ⟨rfl,HB4⟩:=hcut;obtain ⟨w4,hw4⟩:=Yx wc;rw [<- hw4] at HB4 ⊢;clear hw4 HK1 HB1 Hst hlo hlo2 hHb;go_upto_region 8 with fail
 have hz4:=HB4.out.size;have hsA:=heap_alloc_new w4 (.cells #[.string ⟨#[114,116,49,48,51]⟩,.string ⟨#[114,116,49,48,52]⟩,.string ⟨#[114,116,49,48,53]⟩,.string ⟨#[114,116,49,48,54]⟩] 9);have hbA:=(Below.refl w4.heap.size w4).alloc (Yf _) (.cells #[.string ⟨#[114,116,49,48,51]⟩,.string ⟨#[114,116,49,48,52]⟩,.string ⟨#[114,116,49,48,53]⟩,.string ⟨#[114,116,49,48,54]⟩] 9);have hszA:(w4.alloc (.cells #[.string ⟨#[114,116,49,48,51]⟩,.string ⟨#[114,116,49,48,52]⟩,.string ⟨#[114,116,49,48,53]⟩,.string ⟨#[114,116,49,48,54]⟩] 9)).heap.size=w4.heap.size+1:=by simp
 generalize w4.alloc (.cells #[.string ⟨#[114,116,49,48,51]⟩,.string ⟨#[114,116,49,48,52]⟩,.string ⟨#[114,116,49,48,53]⟩,.string ⟨#[114,116,49,48,54]⟩] 9)=wA at *;have hsB:=heap_alloc_new wA (.cells #[.int .i64 5,.int .i64 2,.int .i64 6,.int .i64 0] 3);have hbB:=(Below.refl wA.heap.size wA).alloc (Yf _) (.cells #[.int .i64 5,.int .i64 2,.int .i64 6,.int .i64 0] 3);rw [hszA] at hsB;generalize wA.alloc (.cells #[.int .i64 5,.int .i64 2,.int .i64 6,.int .i64 0] 3)=w5 at *;have hsA5:=(hbB.block w4.heap.size (by omega)).trans hsA;obtain ⟨qs,hqs⟩:∃ q,q=w4.heap.size:=⟨_,rfl⟩
 obtain ⟨qc,hqc⟩:∃ q,q=w4.heap.size+1:=⟨_,rfl⟩
 have HB5:=Ya (HB4.out.trans ((hbA.mono hz4).trans (hbB.mono (by omega))));rw [<- hqs] at hsA5;rw [<- hqc] at hsB;rw [<- hqc,<- hqs];have HsS:=Ya hsA5;have HsC:=Ya hsB;have hqs5:qs<w5.heap.size:=(Yh.1 hsA5).1;have hqc5:qc<w5.heap.size:=(Yh.1 hsB).1;clear hsA hbA hszA hsB hbB hsA5 hqs hqc hz4 HB4;have HBL:Hid (Below w5.heap.size w5 w5):=Ya (Below.refl _ _);go_wp2_with fail
 go_loopw [4] (fun v4 wl=>∃ k:Nat,k<=4/\v4=.int .i64 k/\Hid (Below w5.heap.size w5 wl)) (fun v4 _=>4-(intOf v4).toNat)
 case atStart=>exact ⟨0,by omega,rfl,HBL⟩
 case round =>
  obtain ⟨k,hk,rfl,HBr⟩:=hrel;by_cases hlt:k<4
  ·as_aux_lemma =>
    have d1:decide ((k:Int)<4)=true:=by simp;omega
    have d1b:decide (k<4)=true:=by simp;omega
    have hlt4:(k:Int)<4:=by omega
    have HLr:=Ya (HLV.out.on (HB5.out.trans (HBr.out.mono HB5.out.size)));have hzr:=HBr.out.size;have hwo:=Zhz none none 0 0 [] [] 100 wr HLr.out (fun h=>by simp at h) (fun h=>by simp at h) (by decide) (by decide) (fun x hx=>by cases hx) (fun x hx=>by cases hx) (by decide);have Hwo:=Ya hwo;clear hwo;go_wp2_with fail
    refine Hwo.out.mono ?_;rintro e w6 ⟨Fs6,b6,p6,F6,hwr,rfl,hk6,hb6⟩;obtain ⟨H6,hH⟩:∃ H:Int,H=(S.wL [] [] Fs6).length:=⟨_,rfl⟩
    obtain ⟨PP6,hPP⟩:∃ PP,PP=S.wP [] [] Fs6:=⟨_,rfl⟩
    obtain ⟨M6,hM6⟩:∃ M0,M0=S.wM (S.wL [] [] Fs6) 100 []:=⟨_,rfl⟩
    rw [<- hH,<- hPP,<- hM6] at hk6;have hz6:=hb6.size;have HK6:=Ya hk6;have HB6:=Ya (HBr.out.trans (hb6.mono hzr));have Hst:=Ya (fun (W:World) (hK:KAt W wr.heap.size b6 p6 F6 H6 (100/2) PP6 M6)=>Zn2 hwr hH hPP hM6 k hlt hK);have HcS:=Ya (fun (W:World) (h:Below w5.heap.size w5 W)=>Zy4 (W:=W) ((h.block qs hqs5).trans HsS.out) k hlt);have HcC:=Ya (fun (W:World) (h:Below w5.heap.size w5 W)=>Zy5 (W:=W) ((h.block qc hqc5).trans HsC.out) k hlt);clear hwr hk6 hb6 hH hPP hM6 Hwo;obtain ⟨sv,hsv⟩:∃ s,s=S.bi k:=⟨_,rfl⟩
    obtain ⟨cv,hcv⟩:∃ c,c=S.bm k:=⟨_,rfl⟩
    have hcb:0<=cv/\cv<=6:=by rw [hcv];exact Z03 k
    rw [<- hsv,<- hcv] at Hst;rw [<- hsv] at HcS;rw [<- hcv] at HcC;clear hsv hcv;have c1:IntKind.i64.wrap (1+cv)=1+cv:=Y6 _ ⟨by omega,by omega⟩;have c2:IntKind.i64.wrap ((k:Int)+1)=k+1:=Y6 _ ⟨by omega,by omega⟩;go_upto_region 12 with fail
    refine Z2 3 (Y4 3 true++Y4 13 false) (by kernel_rfl) (by kernel_rfl) ?_;have hE:=Ze w6;simp only [Y7,Yam]
    repeat (first | go_big_quiet_step (fail))
    refine wpQuiet_nil ?_;rintro w7 ⟨⟨_,hb7⟩,rfl⟩;have HK7:=Ya (HK6.out.below hb7);have HB7:=Ya (HB6.out.trans (hb7.mono HB6.out.size));have hz7:wr.heap.size<=w7.heap.size:=by have:=hb7.size;omega
    have hst:=Hst.out w7 HK7.out;have Hst7:=Ya hst;clear hst Hst hE hb7 HK6 HB6;change wpAny _ _ _ _ 13 _ _ _;refine wpAny_take (i:=3) (v:=?v3) rfl (by kernel_rfl) (by kernel_rfl) (by kernel_rfl) (fun _ _ _ h=>h) (Or.inl ⟨by rfl,?y3⟩) ?z3
    case y3=>(intro w;go_simp;first | done | with_reducible rfl)
    go_simp
    refine wpAny_take (i:=4) (v:=?v4) rfl (by kernel_rfl) (by kernel_rfl) (by kernel_rfl) (fun _ _ _ h=>h) (Or.inl ⟨by rfl,?y4⟩) ?z4
    case y4=>(intro w;go_simp;first | done | with_reducible rfl)
    go_simp
    refine wpAny_take (i:=5) (v:=?v5) rfl (by kernel_rfl) (by kernel_rfl) (by kernel_rfl) (fun _ _ _ h=>h) (Or.inl ⟨by rfl,?y5⟩) ?z5
    case y5=>(intro w;go_simp;first | done | with_reducible rfl)
    go_simp
    refine wpAny_take (i:=6) (v:=?v6) rfl (by kernel_rfl) (by kernel_rfl) (by kernel_rfl) (fun _ _ _ h=>h) (Or.inl ⟨by rfl,?y6⟩) ?z6
    case y6=>(intro w;go_simp;first | done | with_reducible rfl)
    go_simp
    refine wpAny_take (i:=9) (v:=?v9) rfl (by kernel_rfl) (by kernel_rfl) (by kernel_rfl) (fun _ _ _ h=>h) (Or.inl ⟨by rfl,?y9⟩) ?z9
    case y9=>(intro w;go_simp;first | done | with_reducible rfl)
    go_simp
    refine wpAny_take (i:=10) (v:=?v10) rfl (by kernel_rfl) (by kernel_rfl) (by kernel_rfl) (fun _ _ _ h=>h) (Or.inl ⟨by rfl,?y10⟩) ?z10
    case y10=>(intro w;go_simp;first | done | with_reducible rfl)
    go_simp
    refine wpAny_take (i:=11) (v:=?v11) rfl (by kernel_rfl) (by kernel_rfl) (by kernel_rfl) (fun _ _ _ h=>h) (Or.inl ⟨by rfl,?y11⟩) ?z11
    case y11=>(intro w;go_simp;first | done | with_reducible rfl)
    go_simp
    have q7:w7.cell? ⟨qs,k,none⟩=some (.string sv):=HcS.out w7 HB7.out;have p7:w7.cell? ⟨qc,k,none⟩=some (.int .i64 cv):=HcC.out w7 HB7.out;refine wpAny_ready (rs:=[7,12]) (by kernel_rfl) (by simp) ?_;refine Yg rfl (fun K hK=>?_) (Yg rfl (fun K hK=>?_) Yi)
    ·go_simp
     refine hK _ _ ?_;clear hK K;refine wpAny_ready (rs:=[8,12]) (by kernel_rfl) (by simp) ?_;refine Yg rfl (fun K hK=>?_) (Yg rfl (fun K hK=>?_) Yi)
     ·go_simp
      refine Hst7.out.mono ?_;rintro e w8 ⟨rfl,C8,F8,hk8,ho8,hf8⟩;have HB8:=Ya (HB7.out.trans ((HK7.out.lobelow ho8 hz7).mono hzr));have p8:w8.cell? ⟨qc,k,none⟩=some (.int .i64 cv):=HcC.out w8 HB8.out;clear hk8 ho8 hf8;go_simp
      refine hK _ _ ?_;clear hK K;refine wpAny_ready (rs:=[12]) (by kernel_rfl) (by simp) ?_;refine Yg rfl (fun K hK=>?_) Yi;go_simp
      refine hK _ _ ?_;clear hK K;refine wpAny_take (i:=13) (v:=?v13a) rfl (by kernel_rfl) (by kernel_rfl) (by kernel_rfl) (fun _ _ _ h=>h) (Or.inl ⟨by rfl,?y13a⟩) ?z13a
      case y13a=>(intro w;go_simp;first | done | with_reducible rfl)
      go_simp
      refine wpAny_take (i:=14) (v:=?v14a) rfl (by kernel_rfl) (by kernel_rfl) (by kernel_rfl) (fun _ _ _ h=>h) (Or.inl ⟨by rfl,?y14a⟩) ?z14a
      case y14a=>(intro w;go_simp;first | done | with_reducible rfl)
      go_simp
      refine wpAny_take (i:=15) (v:=?v15a) rfl (by kernel_rfl) (by kernel_rfl) (by kernel_rfl) (fun _ _ _ h=>h) (Or.inl ⟨by rfl,?y15a⟩) ?z15a
      case y15a=>(intro w;go_simp;first | done | with_reducible rfl)
      go_simp
      refine wpAny_done (by kernel_rfl) ?_ _;clear p7 q7 p8;go_wp2_with fail
      go_roundw
      case rel=>exact ⟨k+1,by omega,rfl,HB8⟩
      case measure=>simp [intOf];omega
     ·go_simp
      refine hK _ _ ?_;clear hK K;refine wpAny_take (i:=13) (v:=?v13b) rfl (by kernel_rfl) (by kernel_rfl) (by kernel_rfl) (fun _ _ _ h=>h) (Or.inl ⟨by rfl,?y13b⟩) ?z13b
      case y13b=>(intro w;go_simp;first | done | with_reducible rfl)
      go_simp
      refine wpAny_ready (rs:=[8]) (by kernel_rfl) (by simp) ?_;refine Yg rfl (fun K hK=>?_) Yi;go_simp
      refine Hst7.out.mono ?_;rintro e w8 ⟨rfl,C8,F8,hk8,ho8,hf8⟩;have HB8:=Ya (HB7.out.trans ((HK7.out.lobelow ho8 hz7).mono hzr));have p8:w8.cell? ⟨qc,k,none⟩=some (.int .i64 cv):=HcC.out w8 HB8.out;clear hk8 ho8 hf8;go_simp
      refine hK _ _ ?_;clear hK K;refine wpAny_take (i:=14) (v:=?v14b) rfl (by kernel_rfl) (by kernel_rfl) (by kernel_rfl) (fun _ _ _ h=>h) (Or.inl ⟨by rfl,?y14b⟩) ?z14b
      case y14b=>(intro w;go_simp;first | done | with_reducible rfl)
      go_simp
      refine wpAny_take (i:=15) (v:=?v15b) rfl (by kernel_rfl) (by kernel_rfl) (by kernel_rfl) (fun _ _ _ h=>h) (Or.inl ⟨by rfl,?y15b⟩) ?z15b
      case y15b=>(intro w;go_simp;first | done | with_reducible rfl)
      go_simp
      refine wpAny_done (by kernel_rfl) ?_ _;clear p7 q7 p8;go_wp2_with fail
      go_roundw
      case rel=>exact ⟨k+1,by omega,rfl,HB8⟩
      case measure=>simp [intOf];omega
    ·go_simp
     refine hK _ _ ?_;clear hK K;refine wpAny_take (i:=13) (v:=?v13c) rfl (by kernel_rfl) (by kernel_rfl) (by kernel_rfl) (fun _ _ _ h=>h) (Or.inl ⟨by rfl,?y13c⟩) ?z13c
     case y13c=>(intro w;go_simp;first | done | with_reducible rfl)
     go_simp
     refine wpAny_ready (rs:=[7]) (by kernel_rfl) (by simp) ?_;refine Yg rfl (fun K hK=>?_) Yi;go_simp
     refine hK _ _ ?_;clear hK K;refine wpAny_ready (rs:=[8]) (by kernel_rfl) (by simp) ?_;refine Yg rfl (fun K hK=>?_) Yi;go_simp
     refine Hst7.out.mono ?_;rintro e w8 ⟨rfl,C8,F8,hk8,ho8,hf8⟩;have HB8:=Ya (HB7.out.trans ((HK7.out.lobelow ho8 hz7).mono hzr));have p8:w8.cell? ⟨qc,k,none⟩=some (.int .i64 cv):=HcC.out w8 HB8.out;clear hk8 ho8 hf8;go_simp
     refine hK _ _ ?_;clear hK K;refine wpAny_take (i:=14) (v:=?v14c) rfl (by kernel_rfl) (by kernel_rfl) (by kernel_rfl) (fun _ _ _ h=>h) (Or.inl ⟨by rfl,?y14c⟩) ?z14c
     case y14c=>(intro w;go_simp;first | done | with_reducible rfl)
     go_simp
     refine wpAny_take (i:=15) (v:=?v15c) rfl (by kernel_rfl) (by kernel_rfl) (by kernel_rfl) (fun _ _ _ h=>h) (Or.inl ⟨by rfl,?y15c⟩) ?z15c
     case y15c=>(intro w;go_simp;first | done | with_reducible rfl)
     go_simp
     refine wpAny_done (by kernel_rfl) ?_ _;clear p7 q7 p8;go_wp2_with fail
     go_roundw
     case rel=>exact ⟨k+1,by omega,rfl,HB8⟩
     case measure=>simp [intOf];omega
  ·have hke:k=4:=by omega
   subst hke;have HBw:=Ya (HB5.out.trans (HBr.out.mono HB5.out.size));have HLr:=Ya (HLV.out.on HBw.out);have hzr:=HBw.out.size;clear HBr HB5 HsS HsC hqs5 hqc5 HBL;have Hwo:=Ya (Zhz none none 0 0 [] [] 100 wr HLr.out (fun h=>by simp at h) (fun h=>by simp at h) (by decide) (by decide) (fun x hx=>by cases hx) (fun x hx=>by cases hx) (by decide));have d1:decide (((4:Nat):Int)<4)=false:=by decide
   go_wp2_with fail
   refine Hwo.out.mono ?_;rintro e w6 ⟨Fs6,b6,p6,F6,hwr,rfl,hk6,hb6⟩;obtain ⟨H6,hH⟩:∃ H:Int,H=(S.wL [] [] Fs6).length:=⟨_,rfl⟩
   have hHb:0<=H6/\H6<=12000:=by have:=hwr.small;omega
   obtain ⟨PP6,hPP⟩:∃ PP,PP=S.wP [] [] Fs6:=⟨_,rfl⟩
   rw [<- hH,<- hPP] at hk6;have hz6:=hb6.size;have HK6:=Ya hk6;have HB6:=Ya (HBw.out.trans (hb6.mono hzr));have Hcn:=Ya (fun (W:World) (hK:KAt W wr.heap.size b6 p6 F6 H6 (100/2) PP6 _)=>Zn3 hwr hH hPP rfl hK);obtain ⟨M6,hM6⟩:∃ M0,M0=S.wM (S.wL [] [] Fs6) 100 []:=⟨_,rfl⟩
   rw [<- hM6] at HK6 Hcn;clear hwr hk6 hb6 hH hPP hM6 Hwo d1;obtain ⟨_,_,_,_,_,_,e0,e1,e2,e3,e4⟩:=HK6.out.cells;have hbl:=HK6.out.blt;go_wp2_with fail
   refine (Zge 4 20 HK6.out (by decide)).mono ?_;rintro e w7 ⟨rv,rfl,hk7,ho7⟩;have HK7:=Ya hk7;have HB7:=Ya (HB6.out.trans ((HK6.out.lobelow ho7 hz6).mono hzr));have hz7:wr.heap.size<=w7.heap.size:=Y9 hz6 ho7.size;clear hk7 ho7 e0 e1 e2 e3 e4 hbl HK6 HB6;obtain ⟨_,_,_,_,_,_,e0,e1,e2,e3,e4⟩:=HK7.out.cells;have hbl:=HK7.out.blt;go_wp2_with fail
   refine (Zge 5 24 HK7.out (by decide)).mono ?_;rintro e w8 ⟨rv2,rfl,hk8,ho8⟩;have HK8:=Ya hk8;have HB8:=Ya (HB7.out.trans ((HK7.out.lobelow ho8 hz7).mono hzr));have hz8:wr.heap.size<=w8.heap.size:=Y9 hz7 ho8.size;clear hk8 ho8 e0 e1 e2 e3 e4 hbl HK7 HB7;obtain ⟨_,_,_,_,_,_,e0,e1,e2,e3,e4⟩:=HK8.out.cells;have hbl:=HK8.out.blt;go_wp2_with fail
   refine (Zge 7 28 HK8.out (by decide)).mono ?_;rintro e w9 ⟨rv3,rfl,hk9,ho9⟩;have HK9:=Ya hk9;have HB9:=Ya (HB8.out.trans ((HK8.out.lobelow ho9 hz8).mono hzr));have hz9:wr.heap.size<=w9.heap.size:=Y9 hz8 ho9.size;clear hk9 ho9 e0 e1 e2 e3 e4 hbl HK8 HB8 hz6 hz7 hz8;go_upto_region 20 with fail
   go_cut [171] from 112 to 170 (fun v171 wc=>v171=.bool false/\Hid (Below w.heap.size w wc))
   case first =>
    as_aux_lemma =>
     refine Z2 1 (Y4 1 true++Y4 59 false) (by kernel_rfl) (by kernel_rfl) ?_;have hE:=Ze w9;simp only [Y7,Yam]
     repeat (first | go_big_quiet_step (fail))
     refine wpQuiet_nil ?_;rintro wb ⟨⟨_,hbb⟩,rfl⟩;have HKb:=Ya (HK9.out.below hbb);have HBb:=Ya (HB9.out.trans (hbb.mono HB9.out.size));have hzb:wr.heap.size<=wb.heap.size:=Y9 hz9 hbb.size;have hcn:=Hcn.out wb HKb.out;have Hcnb:=Ya hcn;clear hcn Hcn hE hbb HK9 HB9 hz9;change wpAny _ _ _ _ 59 _ _ _;refine wpAny_ready (rs:=[1]) (by kernel_rfl) (by simp) ?_;refine Yg rfl (fun K hK=>?_) Yi;go_simp
     refine Hcnb.out.mono ?_;rintro e wc ⟨rfl,C,ho,Fc,hkc,hoc,hfc⟩;have HKc:=Ya hkc;have HO:=Ya ho;have HBc:=Ya (HBb.out.trans ((HKb.out.lobelow hoc hzb).mono hzr));clear hkc hoc hfc ho Hcnb;go_simp
     refine hK _ _ ?_;clear hK K;obtain ⟨_,_,_,_,_,_,e0,e1,e2,e3,e4⟩:=HKc.out.cells;have hbl:=HKc.out.blt;have hR:∀ (i v:Int),0<=i->i<32->C.rd i=v->∀ y:Ext wc,Calls Tryz.prog 8 #[.pointer (some ⟨p6,0,none⟩),.int .i64 i] y.val fun e w'=>e=.returned (.int .u32 v)/\y.val=w':=fun i v h0 h1 hv y=>by
      have h:=Zfy i (HKc.out.below y.property);rw [Zck h0 h1,hv] at h;exact h
     have hW:∀ (i v:Int),0<=i->i<C.mem.length->C.mv i=v->∀ y:Ext wc,Calls Tryz.prog 9 #[.pointer (some ⟨b6,0,none⟩),.int .i64 i] y.val fun e w'=>e=.returned (.int .u32 v)/\Below y.val.heap.size y.val w':=fun i v h0 h1 hv y=>by
      have h:=Zet i (HKc.out.below y.property);rw [Zht h0 h1,hv] at h;exact h
     have hlen:=HO.out.len;have Hr4:=Ya (hR 4 (H6*4+1) (by decide) (by decide) (by rw [HO.out.r4];omega));have Hr7:=Ya (hR 7 28 (by decide) (by decide) HO.out.r7);have Hr26:=Ya (hR 26 (H6+3) (by decide) (by decide) HO.out.r26);have Hw1:=Ya (hW (H6+1) 20 (by omega) (by omega) HO.out.m1);have Hw2:=Ya (hW (H6+2) 24 (by omega) (by omega) HO.out.m2);clear hR hW hlen;have c1:IntKind.i64.wrap (H6*4)=H6*4:=Y6 _ ⟨by omega,by omega⟩;have c2:IntKind.i64.wrap (H6*4+1)=H6*4+1:=Y6 _ ⟨by omega,by omega⟩;have c3:(H6*4+1)%4294967296=H6*4+1:=by omega
     have c4:IntKind.i64.wrap (H6+1)=H6+1:=Y6 _ ⟨by omega,by omega⟩;have c5:IntKind.i64.wrap (H6+2)=H6+2:=Y6 _ ⟨by omega,by omega⟩;have c6:IntKind.i64.wrap (H6+3)=H6+3:=Y6 _ ⟨by omega,by omega⟩;have c7:(H6+3)%4294967296=H6+3:=by omega
     have hE:=Ze wc;refine Za1 2 (Y4 60 true) (by kernel_rfl) ?_;simp only [Yab,Yas]
     repeat (first
      | go_big_quiet_step ((first
       | (go_at_call 8;first | with_reducible exact Zm (Hr4.out _) | with_reducible exact Zm (Hr7.out _) | with_reducible exact Zm (Hr26.out _))
       | (go_at_call 9;first | with_reducible exact Zas (Hw1.out _) | with_reducible exact Zas (Hw2.out _)))))
     refine wpQuiet_nil ?_;rintro wd ⟨⟨_,hbd⟩,rfl⟩;have HBd:=Ya (HBc.out.trans (hbd.mono HBc.out.size));go_wp2_with fail
     go_meet
     exact ⟨rfl,HBd⟩
   case rest =>
   obtain ⟨rfl,HBd⟩:=hcut;obtain ⟨wd,hwd⟩:=Yx wc;rw [<- hwd] at HBd ⊢;clear hwd HK9 HB9 Hcn hz9 hHb;go_upto_region 22 with fail
   have HLd:=Ya (HLV.out.on HBd.out);have hzd:=HBd.out.size;have Hwo:=Ya (Zhz none none 0 0 [] [] 100 wd HLd.out (fun h=>by simp at h) (fun h=>by simp at h) (by decide) (by decide) (fun x hx=>by cases hx) (fun x hx=>by cases hx) (by decide));clear hzr HLr;go_wp2_with fail
   refine Hwo.out.mono ?_;rintro e we ⟨Fs9,b9,p9,F9,hwr,rfl,hke,hbe⟩;obtain ⟨H9,hH⟩:∃ H:Int,H=(S.wL [] [] Fs9).length:=⟨_,rfl⟩
   have hHb:0<=H9/\H9<=12000:=by have:=hwr.small;omega
   obtain ⟨PP9,hPP⟩:∃ PP,PP=S.wP [] [] Fs9:=⟨_,rfl⟩
   obtain ⟨M9,hM9⟩:∃ M0,M0=S.wM (S.wL [] [] Fs9) 100 []:=⟨_,rfl⟩
   rw [<- hH,<- hPP,<- hM9] at hke;have hrd:M9.rd 26=H9/\M9.rd 27=H9+50:=by
    have:=hwr.fst.rd;rw [<- hM9] at this;exact ⟨(this 26).trans (by rw [hH];rfl),(this 27).trans (by rw [hH];rfl)⟩
   have hml:M9.mem.length<=335544320:=by
    have h2:=hwr.wd.len;rw [<- hM9] at h2;omega
   have HKe:=Ya hke;have HBe:=Ya (HBd.out.trans (hbe.mono hzd));have hze:=hbe.size;have HRd:=Ya hrd;have HMl:=Ya hml;have Hno:=Ya (fun (W:World) (hK:KAt W wd.heap.size b9 p9 F9 H9 (100/2) PP9 (S.bg H9 M9))=>Zn4 hwr hH hPP hM9 hK);clear hwr hke hbe hH hPP hM9 Hwo hrd hml HBd HLd;go_upto_region 23 with fail
   refine Z2 3 (Y4 3 true++Y4 34 false) (by kernel_rfl) (by kernel_rfl) ?_;have hE:=Ze we;simp only [Y7,Yam]
   repeat (first | go_big_quiet_step (fail))
   refine wpQuiet_nil ?_;rintro wf ⟨⟨_,hbf⟩,rfl⟩;have HKf:=Ya (HKe.out.below hbf);have HBf:=Ya (HBe.out.trans (hbf.mono HBe.out.size));have hzf:wd.heap.size<=wf.heap.size:=Y9 hze hbf.size;have hmk:=Zyg;clear hE hbf HKe HBe hze;change wpAny _ _ _ _ 34 _ _ _;refine wpAny_take (i:=3) (v:=?v3t) rfl (by kernel_rfl) (by kernel_rfl) (by kernel_rfl) (fun _ _ _ h=>h) (Or.inl ⟨by rfl,?y3t⟩) ?z3t
   case y3t=>(intro w;go_simp;first | done | with_reducible rfl)
   go_simp
   have hq0:wf.heap.size<=wf.heap.size/\wf.heap.size<wf.heap.size+3:=by omega
   have hq1:wf.heap.size<=wf.heap.size+1/\wf.heap.size+1<wf.heap.size+3:=by omega
   have hq2:wf.heap.size<=wf.heap.size+2/\wf.heap.size+2<wf.heap.size+3:=by omega
   have Hlay:=Ya (fun (q1 q2 q3:Nat) (h1:wf.heap.size<=q1/\q1<wf.heap.size+3) (h2:wf.heap.size<=q2/\q2<wf.heap.size+3) (h3:wf.heap.size<=q3/\q3<wf.heap.size+3)=>Zz5 HKf.out hzf hHb HRd.out.1 HRd.out.2 HMl.out h1 h2 h3);unfold Zav at Hlay;refine wpAny_ready (rs:=[4,6,8]) (by kernel_rfl) (by simp) ?_;refine Yg rfl (fun K hK=>?_) (Yg rfl (fun K hK=>?_) (Yg rfl (fun K hK=>?_) Yi))
   ·go_simp
    refine hK _ _ ?_;clear hK K;refine wpAny_take (i:=5) (v:=?v5t1) rfl (by kernel_rfl) (by kernel_rfl) (by kernel_rfl) (fun _ _ _ h=>h) (Or.inl ⟨by rfl,?y5t1⟩) ?z5t1
    case y5t1=>(intro w;go_simp;first | done | with_reducible rfl)
    go_simp
    refine wpAny_ready (rs:=[6,8]) (by kernel_rfl) (by simp) ?_;refine Yg rfl (fun K hK=>?_) (Yg rfl (fun K hK=>?_) Yi)
    ·go_simp
     refine hK _ _ ?_;clear hK K;refine wpAny_take (i:=7) (v:=?v7t2) rfl (by kernel_rfl) (by kernel_rfl) (by kernel_rfl) (fun _ _ _ h=>h) (Or.inl ⟨by rfl,?y7t2⟩) ?z7t2
     case y7t2=>(intro w;go_simp;first | done | with_reducible rfl)
     go_simp
     refine wpAny_ready (rs:=[8]) (by kernel_rfl) (by simp) ?_;refine Yg rfl (fun K hK=>?_) Yi
     ·go_simp
      refine hK _ _ ?_;clear hK K;refine wpAny_take (i:=9) (v:=?v9t3) rfl (by kernel_rfl) (by kernel_rfl) (by kernel_rfl) (fun _ _ _ h=>h) (Or.inl ⟨by rfl,?y9t3⟩) ?z9t3
      case y9t3=>(intro w;go_simp;first | done | with_reducible rfl)
      go_simp
      refine wpAny_ready (rs:=[10]) (by kernel_rfl) (by simp) ?_;refine Yg rfl (fun K hK=>?_) Yi;go_simp
      refine hK _ _ ?_;clear hK K;refine wpAny_ready (rs:=[11]) (by kernel_rfl) (by simp) ?_;refine Yg rfl (fun K hK=>?_) Yi;go_simp
      refine (Hlay.out _ _ _ (by omega) (by omega) (by omega)).mono ?_;rintro e wg ⟨gb,rfl,hkl,hbl2,hzl⟩;have HKl:=Ya hkl;have HBl:=Ya (HBf.out.trans (hbl2.mono hzd));have hno:=Hno.out wg HKl.out;have Hn:=Ya hno;clear hkl hbl2 hno Hlay Hno;go_simp
      refine hK _ _ ?_;clear hK K;refine wpAny_take (i:=12) (v:=?v12L1) rfl (by kernel_rfl) (by kernel_rfl) (by kernel_rfl) (fun _ _ _ h=>h) (Or.inl ⟨by rfl,?y12L1⟩) ?z12L1
      case y12L1=>(intro w;go_simp;first | done | with_reducible rfl)
      go_simp
      refine wpAny_take (i:=13) (v:=?v13L1) rfl (by kernel_rfl) (by kernel_rfl) (by kernel_rfl) (fun _ _ _ h=>h) (Or.inl ⟨by rfl,?y13L1⟩) ?z13L1
      case y13L1=>(intro w;go_simp;first | done | with_reducible rfl)
      go_simp
      refine wpAny_take (i:=14) (v:=?v14L1) rfl (by kernel_rfl) (by kernel_rfl) (by kernel_rfl) (fun _ _ _ h=>h) (Or.inl ⟨by rfl,?y14L1⟩) ?z14L1
      case y14L1=>(intro w;go_simp;first | done | with_reducible rfl)
      go_simp
      refine wpAny_take (i:=15) (v:=?v15L1) rfl (by kernel_rfl) (by kernel_rfl) (by kernel_rfl) (fun _ _ _ h=>h) (Or.inl ⟨by rfl,?y15L1⟩) ?z15L1
      case y15L1=>(intro w;go_simp;first | done | with_reducible rfl)
      go_simp
      refine wpAny_ready (rs:=[16]) (by kernel_rfl) (by simp) ?_;refine Yg rfl (fun K hK=>?_) Yi;go_simp
      refine Hn.out.mono ?_;rintro e wh ⟨rfl,C9,h26,Fh,hkh,hoh,hfh⟩;have HKh:=Ya hkh;have HBh:=Ya (HBl.out.trans ((HKl.out.lobelow hoh hzl).mono hzd));clear hkh hoh hfh Hn HKl HBl;go_simp
      refine hK _ _ ?_;clear hK K;obtain ⟨_,_,_,_,_,_,e0,e1,e2,e3,e4⟩:=HKh.out.cells;have hbl:=HKh.out.blt;have Hr26:=Ya (show ∀ y:Ext wh,Calls Tryz.prog 8 #[.pointer (some ⟨p9,0,none⟩),.int .i64 26] y.val fun e w'=>e=.returned (.int .u32 (H9+50))/\y.val=w' from fun y=>by
       have h:=Zfy 26 (HKh.out.below y.property);rw [Zck (by decide) (by decide),h26] at h;exact h)
      have Hwks:=Ya (show ∀ y:Ext wh,Calls Tryz.prog 12 #[] y.val fun e w'=>e=.returned (.bool true)/\Below y.val.heap.size y.val w' from fun y=>Zbg y.val ((HLV.out.on HBh.out).on y.property));have c1:IntKind.i64.wrap (H9+50)=H9+50:=Y6 _ ⟨by omega,by omega⟩;have c2:(H9+50)%4294967296=H9+50:=by omega
      clear h26;have hE:=Ze wh;refine Za1 17 (Y4 37 true) (by kernel_rfl) ?_;simp only [Yab,Yas]
      repeat (first
       | go_big_quiet_step ((first
        | (go_at_call 8;with_reducible exact Zm (Hr26.out _))
        | (go_at_call 12;exact Zas (Hwks.out _)))))
      refine wpQuiet_nil ?_;rintro wi ⟨⟨_,hbi⟩,rfl⟩;have HBi:=Ya (HBh.out.trans (hbi.mono HBh.out.size));clear hE hbi;go_wp2_with fail
      go_ret
      exact ⟨rfl,HBi.out⟩
    ·go_simp
     refine hK _ _ ?_;clear hK K;refine wpAny_take (i:=9) (v:=?v9t4) rfl (by kernel_rfl) (by kernel_rfl) (by kernel_rfl) (fun _ _ _ h=>h) (Or.inl ⟨by rfl,?y9t4⟩) ?z9t4
     case y9t4=>(intro w;go_simp;first | done | with_reducible rfl)
     go_simp
     refine wpAny_ready (rs:=[6]) (by kernel_rfl) (by simp) ?_;refine Yg rfl (fun K hK=>?_) Yi
     ·go_simp
      refine hK _ _ ?_;clear hK K;refine wpAny_take (i:=7) (v:=?v7t5) rfl (by kernel_rfl) (by kernel_rfl) (by kernel_rfl) (fun _ _ _ h=>h) (Or.inl ⟨by rfl,?y7t5⟩) ?z7t5
      case y7t5=>(intro w;go_simp;first | done | with_reducible rfl)
      go_simp
      refine wpAny_ready (rs:=[10]) (by kernel_rfl) (by simp) ?_;refine Yg rfl (fun K hK=>?_) Yi;go_simp
      refine hK _ _ ?_;clear hK K;refine wpAny_ready (rs:=[11]) (by kernel_rfl) (by simp) ?_;refine Yg rfl (fun K hK=>?_) Yi;go_simp
      refine (Hlay.out _ _ _ (by omega) (by omega) (by omega)).mono ?_;rintro e wg ⟨gb,rfl,hkl,hbl2,hzl⟩;have HKl:=Ya hkl;have HBl:=Ya (HBf.out.trans (hbl2.mono hzd));have hno:=Hno.out wg HKl.out;have Hn:=Ya hno;clear hkl hbl2 hno Hlay Hno;go_simp
      refine hK _ _ ?_;clear hK K;refine wpAny_take (i:=12) (v:=?v12L2) rfl (by kernel_rfl) (by kernel_rfl) (by kernel_rfl) (fun _ _ _ h=>h) (Or.inl ⟨by rfl,?y12L2⟩) ?z12L2
      case y12L2=>(intro w;go_simp;first | done | with_reducible rfl)
      go_simp
      refine wpAny_take (i:=13) (v:=?v13L2) rfl (by kernel_rfl) (by kernel_rfl) (by kernel_rfl) (fun _ _ _ h=>h) (Or.inl ⟨by rfl,?y13L2⟩) ?z13L2
      case y13L2=>(intro w;go_simp;first | done | with_reducible rfl)
      go_simp
      refine wpAny_take (i:=14) (v:=?v14L2) rfl (by kernel_rfl) (by kernel_rfl) (by kernel_rfl) (fun _ _ _ h=>h) (Or.inl ⟨by rfl,?y14L2⟩) ?z14L2
      case y14L2=>(intro w;go_simp;first | done | with_reducible rfl)
      go_simp
      refine wpAny_take (i:=15) (v:=?v15L2) rfl (by kernel_rfl) (by kernel_rfl) (by kernel_rfl) (fun _ _ _ h=>h) (Or.inl ⟨by rfl,?y15L2⟩) ?z15L2
      case y15L2=>(intro w;go_simp;first | done | with_reducible rfl)
      go_simp
      refine wpAny_ready (rs:=[16]) (by kernel_rfl) (by simp) ?_;refine Yg rfl (fun K hK=>?_) Yi;go_simp
      refine Hn.out.mono ?_;rintro e wh ⟨rfl,C9,h26,Fh,hkh,hoh,hfh⟩;have HKh:=Ya hkh;have HBh:=Ya (HBl.out.trans ((HKl.out.lobelow hoh hzl).mono hzd));clear hkh hoh hfh Hn HKl HBl;go_simp
      refine hK _ _ ?_;clear hK K;obtain ⟨_,_,_,_,_,_,e0,e1,e2,e3,e4⟩:=HKh.out.cells;have hbl:=HKh.out.blt;have Hr26:=Ya (show ∀ y:Ext wh,Calls Tryz.prog 8 #[.pointer (some ⟨p9,0,none⟩),.int .i64 26] y.val fun e w'=>e=.returned (.int .u32 (H9+50))/\y.val=w' from fun y=>by
       have h:=Zfy 26 (HKh.out.below y.property);rw [Zck (by decide) (by decide),h26] at h;exact h)
      have Hwks:=Ya (show ∀ y:Ext wh,Calls Tryz.prog 12 #[] y.val fun e w'=>e=.returned (.bool true)/\Below y.val.heap.size y.val w' from fun y=>Zbg y.val ((HLV.out.on HBh.out).on y.property));have c1:IntKind.i64.wrap (H9+50)=H9+50:=Y6 _ ⟨by omega,by omega⟩;have c2:(H9+50)%4294967296=H9+50:=by omega
      clear h26;have hE:=Ze wh;refine Za1 17 (Y4 37 true) (by kernel_rfl) ?_;simp only [Yab,Yas]
      repeat (first
       | go_big_quiet_step ((first
        | (go_at_call 8;with_reducible exact Zm (Hr26.out _))
        | (go_at_call 12;exact Zas (Hwks.out _)))))
      refine wpQuiet_nil ?_;rintro wi ⟨⟨_,hbi⟩,rfl⟩;have HBi:=Ya (HBh.out.trans (hbi.mono HBh.out.size));clear hE hbi;go_wp2_with fail
      go_ret
      exact ⟨rfl,HBi.out⟩
   ·go_simp
    refine hK _ _ ?_;clear hK K;refine wpAny_take (i:=7) (v:=?v7t6) rfl (by kernel_rfl) (by kernel_rfl) (by kernel_rfl) (fun _ _ _ h=>h) (Or.inl ⟨by rfl,?y7t6⟩) ?z7t6
    case y7t6=>(intro w;go_simp;first | done | with_reducible rfl)
    go_simp
    refine wpAny_ready (rs:=[4,8]) (by kernel_rfl) (by simp) ?_;refine Yg rfl (fun K hK=>?_) (Yg rfl (fun K hK=>?_) Yi)
    ·go_simp
     refine hK _ _ ?_;clear hK K;refine wpAny_take (i:=5) (v:=?v5t7) rfl (by kernel_rfl) (by kernel_rfl) (by kernel_rfl) (fun _ _ _ h=>h) (Or.inl ⟨by rfl,?y5t7⟩) ?z5t7
     case y5t7=>(intro w;go_simp;first | done | with_reducible rfl)
     go_simp
     refine wpAny_ready (rs:=[8]) (by kernel_rfl) (by simp) ?_;refine Yg rfl (fun K hK=>?_) Yi
     ·go_simp
      refine hK _ _ ?_;clear hK K;refine wpAny_take (i:=9) (v:=?v9t8) rfl (by kernel_rfl) (by kernel_rfl) (by kernel_rfl) (fun _ _ _ h=>h) (Or.inl ⟨by rfl,?y9t8⟩) ?z9t8
      case y9t8=>(intro w;go_simp;first | done | with_reducible rfl)
      go_simp
      refine wpAny_ready (rs:=[10]) (by kernel_rfl) (by simp) ?_;refine Yg rfl (fun K hK=>?_) Yi;go_simp
      refine hK _ _ ?_;clear hK K;refine wpAny_ready (rs:=[11]) (by kernel_rfl) (by simp) ?_;refine Yg rfl (fun K hK=>?_) Yi;go_simp
      refine (Hlay.out _ _ _ (by omega) (by omega) (by omega)).mono ?_;rintro e wg ⟨gb,rfl,hkl,hbl2,hzl⟩;have HKl:=Ya hkl;have HBl:=Ya (HBf.out.trans (hbl2.mono hzd));have hno:=Hno.out wg HKl.out;have Hn:=Ya hno;clear hkl hbl2 hno Hlay Hno;go_simp
      refine hK _ _ ?_;clear hK K;refine wpAny_take (i:=12) (v:=?v12L3) rfl (by kernel_rfl) (by kernel_rfl) (by kernel_rfl) (fun _ _ _ h=>h) (Or.inl ⟨by rfl,?y12L3⟩) ?z12L3
      case y12L3=>(intro w;go_simp;first | done | with_reducible rfl)
      go_simp
      refine wpAny_take (i:=13) (v:=?v13L3) rfl (by kernel_rfl) (by kernel_rfl) (by kernel_rfl) (fun _ _ _ h=>h) (Or.inl ⟨by rfl,?y13L3⟩) ?z13L3
      case y13L3=>(intro w;go_simp;first | done | with_reducible rfl)
      go_simp
      refine wpAny_take (i:=14) (v:=?v14L3) rfl (by kernel_rfl) (by kernel_rfl) (by kernel_rfl) (fun _ _ _ h=>h) (Or.inl ⟨by rfl,?y14L3⟩) ?z14L3
      case y14L3=>(intro w;go_simp;first | done | with_reducible rfl)
      go_simp
      refine wpAny_take (i:=15) (v:=?v15L3) rfl (by kernel_rfl) (by kernel_rfl) (by kernel_rfl) (fun _ _ _ h=>h) (Or.inl ⟨by rfl,?y15L3⟩) ?z15L3
      case y15L3=>(intro w;go_simp;first | done | with_reducible rfl)
      go_simp
      refine wpAny_ready (rs:=[16]) (by kernel_rfl) (by simp) ?_;refine Yg rfl (fun K hK=>?_) Yi;go_simp
      refine Hn.out.mono ?_;rintro e wh ⟨rfl,C9,h26,Fh,hkh,hoh,hfh⟩;have HKh:=Ya hkh;have HBh:=Ya (HBl.out.trans ((HKl.out.lobelow hoh hzl).mono hzd));clear hkh hoh hfh Hn HKl HBl;go_simp
      refine hK _ _ ?_;clear hK K;obtain ⟨_,_,_,_,_,_,e0,e1,e2,e3,e4⟩:=HKh.out.cells;have hbl:=HKh.out.blt;have Hr26:=Ya (show ∀ y:Ext wh,Calls Tryz.prog 8 #[.pointer (some ⟨p9,0,none⟩),.int .i64 26] y.val fun e w'=>e=.returned (.int .u32 (H9+50))/\y.val=w' from fun y=>by
       have h:=Zfy 26 (HKh.out.below y.property);rw [Zck (by decide) (by decide),h26] at h;exact h)
      have Hwks:=Ya (show ∀ y:Ext wh,Calls Tryz.prog 12 #[] y.val fun e w'=>e=.returned (.bool true)/\Below y.val.heap.size y.val w' from fun y=>Zbg y.val ((HLV.out.on HBh.out).on y.property));have c1:IntKind.i64.wrap (H9+50)=H9+50:=Y6 _ ⟨by omega,by omega⟩;have c2:(H9+50)%4294967296=H9+50:=by omega
      clear h26;have hE:=Ze wh;refine Za1 17 (Y4 37 true) (by kernel_rfl) ?_;simp only [Yab,Yas]
      repeat (first
       | go_big_quiet_step ((first
        | (go_at_call 8;with_reducible exact Zm (Hr26.out _))
        | (go_at_call 12;exact Zas (Hwks.out _)))))
      refine wpQuiet_nil ?_;rintro wi ⟨⟨_,hbi⟩,rfl⟩;have HBi:=Ya (HBh.out.trans (hbi.mono HBh.out.size));clear hE hbi;go_wp2_with fail
      go_ret
      exact ⟨rfl,HBi.out⟩
    ·go_simp
     refine hK _ _ ?_;clear hK K;refine wpAny_take (i:=9) (v:=?v9t9) rfl (by kernel_rfl) (by kernel_rfl) (by kernel_rfl) (fun _ _ _ h=>h) (Or.inl ⟨by rfl,?y9t9⟩) ?z9t9
     case y9t9=>(intro w;go_simp;first | done | with_reducible rfl)
     go_simp
     refine wpAny_ready (rs:=[4]) (by kernel_rfl) (by simp) ?_;refine Yg rfl (fun K hK=>?_) Yi
     ·go_simp
      refine hK _ _ ?_;clear hK K;refine wpAny_take (i:=5) (v:=?v5t10) rfl (by kernel_rfl) (by kernel_rfl) (by kernel_rfl) (fun _ _ _ h=>h) (Or.inl ⟨by rfl,?y5t10⟩) ?z5t10
      case y5t10=>(intro w;go_simp;first | done | with_reducible rfl)
      go_simp
      refine wpAny_ready (rs:=[10]) (by kernel_rfl) (by simp) ?_;refine Yg rfl (fun K hK=>?_) Yi;go_simp
      refine hK _ _ ?_;clear hK K;refine wpAny_ready (rs:=[11]) (by kernel_rfl) (by simp) ?_;refine Yg rfl (fun K hK=>?_) Yi;go_simp
      refine (Hlay.out _ _ _ (by omega) (by omega) (by omega)).mono ?_;rintro e wg ⟨gb,rfl,hkl,hbl2,hzl⟩;have HKl:=Ya hkl;have HBl:=Ya (HBf.out.trans (hbl2.mono hzd));have hno:=Hno.out wg HKl.out;have Hn:=Ya hno;clear hkl hbl2 hno Hlay Hno;go_simp
      refine hK _ _ ?_;clear hK K;refine wpAny_take (i:=12) (v:=?v12L4) rfl (by kernel_rfl) (by kernel_rfl) (by kernel_rfl) (fun _ _ _ h=>h) (Or.inl ⟨by rfl,?y12L4⟩) ?z12L4
      case y12L4=>(intro w;go_simp;first | done | with_reducible rfl)
      go_simp
      refine wpAny_take (i:=13) (v:=?v13L4) rfl (by kernel_rfl) (by kernel_rfl) (by kernel_rfl) (fun _ _ _ h=>h) (Or.inl ⟨by rfl,?y13L4⟩) ?z13L4
      case y13L4=>(intro w;go_simp;first | done | with_reducible rfl)
      go_simp
      refine wpAny_take (i:=14) (v:=?v14L4) rfl (by kernel_rfl) (by kernel_rfl) (by kernel_rfl) (fun _ _ _ h=>h) (Or.inl ⟨by rfl,?y14L4⟩) ?z14L4
      case y14L4=>(intro w;go_simp;first | done | with_reducible rfl)
      go_simp
      refine wpAny_take (i:=15) (v:=?v15L4) rfl (by kernel_rfl) (by kernel_rfl) (by kernel_rfl) (fun _ _ _ h=>h) (Or.inl ⟨by rfl,?y15L4⟩) ?z15L4
      case y15L4=>(intro w;go_simp;first | done | with_reducible rfl)
      go_simp
      refine wpAny_ready (rs:=[16]) (by kernel_rfl) (by simp) ?_;refine Yg rfl (fun K hK=>?_) Yi;go_simp
      refine Hn.out.mono ?_;rintro e wh ⟨rfl,C9,h26,Fh,hkh,hoh,hfh⟩;have HKh:=Ya hkh;have HBh:=Ya (HBl.out.trans ((HKl.out.lobelow hoh hzl).mono hzd));clear hkh hoh hfh Hn HKl HBl;go_simp
      refine hK _ _ ?_;clear hK K;obtain ⟨_,_,_,_,_,_,e0,e1,e2,e3,e4⟩:=HKh.out.cells;have hbl:=HKh.out.blt;have Hr26:=Ya (show ∀ y:Ext wh,Calls Tryz.prog 8 #[.pointer (some ⟨p9,0,none⟩),.int .i64 26] y.val fun e w'=>e=.returned (.int .u32 (H9+50))/\y.val=w' from fun y=>by
       have h:=Zfy 26 (HKh.out.below y.property);rw [Zck (by decide) (by decide),h26] at h;exact h)
      have Hwks:=Ya (show ∀ y:Ext wh,Calls Tryz.prog 12 #[] y.val fun e w'=>e=.returned (.bool true)/\Below y.val.heap.size y.val w' from fun y=>Zbg y.val ((HLV.out.on HBh.out).on y.property));have c1:IntKind.i64.wrap (H9+50)=H9+50:=Y6 _ ⟨by omega,by omega⟩;have c2:(H9+50)%4294967296=H9+50:=by omega
      clear h26;have hE:=Ze wh;refine Za1 17 (Y4 37 true) (by kernel_rfl) ?_;simp only [Yab,Yas]
      repeat (first
       | go_big_quiet_step ((first
        | (go_at_call 8;with_reducible exact Zm (Hr26.out _))
        | (go_at_call 12;exact Zas (Hwks.out _)))))
      refine wpQuiet_nil ?_;rintro wi ⟨⟨_,hbi⟩,rfl⟩;have HBi:=Ya (HBh.out.trans (hbi.mono HBh.out.size));clear hE hbi;go_wp2_with fail
      go_ret
      exact ⟨rfl,HBi.out⟩
   ·go_simp
    refine hK _ _ ?_;clear hK K;refine wpAny_take (i:=9) (v:=?v9t11) rfl (by kernel_rfl) (by kernel_rfl) (by kernel_rfl) (fun _ _ _ h=>h) (Or.inl ⟨by rfl,?y9t11⟩) ?z9t11
    case y9t11=>(intro w;go_simp;first | done | with_reducible rfl)
    go_simp
    refine wpAny_ready (rs:=[4,6]) (by kernel_rfl) (by simp) ?_;refine Yg rfl (fun K hK=>?_) (Yg rfl (fun K hK=>?_) Yi)
    ·go_simp
     refine hK _ _ ?_;clear hK K;refine wpAny_take (i:=5) (v:=?v5t12) rfl (by kernel_rfl) (by kernel_rfl) (by kernel_rfl) (fun _ _ _ h=>h) (Or.inl ⟨by rfl,?y5t12⟩) ?z5t12
     case y5t12=>(intro w;go_simp;first | done | with_reducible rfl)
     go_simp
     refine wpAny_ready (rs:=[6]) (by kernel_rfl) (by simp) ?_;refine Yg rfl (fun K hK=>?_) Yi
     ·go_simp
      refine hK _ _ ?_;clear hK K;refine wpAny_take (i:=7) (v:=?v7t13) rfl (by kernel_rfl) (by kernel_rfl) (by kernel_rfl) (fun _ _ _ h=>h) (Or.inl ⟨by rfl,?y7t13⟩) ?z7t13
      case y7t13=>(intro w;go_simp;first | done | with_reducible rfl)
      go_simp
      refine wpAny_ready (rs:=[10]) (by kernel_rfl) (by simp) ?_;refine Yg rfl (fun K hK=>?_) Yi;go_simp
      refine hK _ _ ?_;clear hK K;refine wpAny_ready (rs:=[11]) (by kernel_rfl) (by simp) ?_;refine Yg rfl (fun K hK=>?_) Yi;go_simp
      refine (Hlay.out _ _ _ (by omega) (by omega) (by omega)).mono ?_;rintro e wg ⟨gb,rfl,hkl,hbl2,hzl⟩;have HKl:=Ya hkl;have HBl:=Ya (HBf.out.trans (hbl2.mono hzd));have hno:=Hno.out wg HKl.out;have Hn:=Ya hno;clear hkl hbl2 hno Hlay Hno;go_simp
      refine hK _ _ ?_;clear hK K;refine wpAny_take (i:=12) (v:=?v12L5) rfl (by kernel_rfl) (by kernel_rfl) (by kernel_rfl) (fun _ _ _ h=>h) (Or.inl ⟨by rfl,?y12L5⟩) ?z12L5
      case y12L5=>(intro w;go_simp;first | done | with_reducible rfl)
      go_simp
      refine wpAny_take (i:=13) (v:=?v13L5) rfl (by kernel_rfl) (by kernel_rfl) (by kernel_rfl) (fun _ _ _ h=>h) (Or.inl ⟨by rfl,?y13L5⟩) ?z13L5
      case y13L5=>(intro w;go_simp;first | done | with_reducible rfl)
      go_simp
      refine wpAny_take (i:=14) (v:=?v14L5) rfl (by kernel_rfl) (by kernel_rfl) (by kernel_rfl) (fun _ _ _ h=>h) (Or.inl ⟨by rfl,?y14L5⟩) ?z14L5
      case y14L5=>(intro w;go_simp;first | done | with_reducible rfl)
      go_simp
      refine wpAny_take (i:=15) (v:=?v15L5) rfl (by kernel_rfl) (by kernel_rfl) (by kernel_rfl) (fun _ _ _ h=>h) (Or.inl ⟨by rfl,?y15L5⟩) ?z15L5
      case y15L5=>(intro w;go_simp;first | done | with_reducible rfl)
      go_simp
      refine wpAny_ready (rs:=[16]) (by kernel_rfl) (by simp) ?_;refine Yg rfl (fun K hK=>?_) Yi;go_simp
      refine Hn.out.mono ?_;rintro e wh ⟨rfl,C9,h26,Fh,hkh,hoh,hfh⟩;have HKh:=Ya hkh;have HBh:=Ya (HBl.out.trans ((HKl.out.lobelow hoh hzl).mono hzd));clear hkh hoh hfh Hn HKl HBl;go_simp
      refine hK _ _ ?_;clear hK K;obtain ⟨_,_,_,_,_,_,e0,e1,e2,e3,e4⟩:=HKh.out.cells;have hbl:=HKh.out.blt;have Hr26:=Ya (show ∀ y:Ext wh,Calls Tryz.prog 8 #[.pointer (some ⟨p9,0,none⟩),.int .i64 26] y.val fun e w'=>e=.returned (.int .u32 (H9+50))/\y.val=w' from fun y=>by
       have h:=Zfy 26 (HKh.out.below y.property);rw [Zck (by decide) (by decide),h26] at h;exact h)
      have Hwks:=Ya (show ∀ y:Ext wh,Calls Tryz.prog 12 #[] y.val fun e w'=>e=.returned (.bool true)/\Below y.val.heap.size y.val w' from fun y=>Zbg y.val ((HLV.out.on HBh.out).on y.property));have c1:IntKind.i64.wrap (H9+50)=H9+50:=Y6 _ ⟨by omega,by omega⟩;have c2:(H9+50)%4294967296=H9+50:=by omega
      clear h26;have hE:=Ze wh;refine Za1 17 (Y4 37 true) (by kernel_rfl) ?_;simp only [Yab,Yas]
      repeat (first
       | go_big_quiet_step ((first
        | (go_at_call 8;with_reducible exact Zm (Hr26.out _))
        | (go_at_call 12;exact Zas (Hwks.out _)))))
      refine wpQuiet_nil ?_;rintro wi ⟨⟨_,hbi⟩,rfl⟩;have HBi:=Ya (HBh.out.trans (hbi.mono HBh.out.size));clear hE hbi;go_wp2_with fail
      go_ret
      exact ⟨rfl,HBi.out⟩
    ·go_simp
     refine hK _ _ ?_;clear hK K;refine wpAny_take (i:=7) (v:=?v7t14) rfl (by kernel_rfl) (by kernel_rfl) (by kernel_rfl) (fun _ _ _ h=>h) (Or.inl ⟨by rfl,?y7t14⟩) ?z7t14
     case y7t14=>(intro w;go_simp;first | done | with_reducible rfl)
     go_simp
     refine wpAny_ready (rs:=[4]) (by kernel_rfl) (by simp) ?_;refine Yg rfl (fun K hK=>?_) Yi
     ·go_simp
      refine hK _ _ ?_;clear hK K;refine wpAny_take (i:=5) (v:=?v5t15) rfl (by kernel_rfl) (by kernel_rfl) (by kernel_rfl) (fun _ _ _ h=>h) (Or.inl ⟨by rfl,?y5t15⟩) ?z5t15
      case y5t15=>(intro w;go_simp;first | done | with_reducible rfl)
      go_simp
      refine wpAny_ready (rs:=[10]) (by kernel_rfl) (by simp) ?_;refine Yg rfl (fun K hK=>?_) Yi;go_simp
      refine hK _ _ ?_;clear hK K;refine wpAny_ready (rs:=[11]) (by kernel_rfl) (by simp) ?_;refine Yg rfl (fun K hK=>?_) Yi;go_simp
      refine (Hlay.out _ _ _ (by omega) (by omega) (by omega)).mono ?_;rintro e wg ⟨gb,rfl,hkl,hbl2,hzl⟩;have HKl:=Ya hkl;have HBl:=Ya (HBf.out.trans (hbl2.mono hzd));have hno:=Hno.out wg HKl.out;have Hn:=Ya hno;clear hkl hbl2 hno Hlay Hno;go_simp
      refine hK _ _ ?_;clear hK K;refine wpAny_take (i:=12) (v:=?v12L6) rfl (by kernel_rfl) (by kernel_rfl) (by kernel_rfl) (fun _ _ _ h=>h) (Or.inl ⟨by rfl,?y12L6⟩) ?z12L6
      case y12L6=>(intro w;go_simp;first | done | with_reducible rfl)
      go_simp
      refine wpAny_take (i:=13) (v:=?v13L6) rfl (by kernel_rfl) (by kernel_rfl) (by kernel_rfl) (fun _ _ _ h=>h) (Or.inl ⟨by rfl,?y13L6⟩) ?z13L6
      case y13L6=>(intro w;go_simp;first | done | with_reducible rfl)
      go_simp
      refine wpAny_take (i:=14) (v:=?v14L6) rfl (by kernel_rfl) (by kernel_rfl) (by kernel_rfl) (fun _ _ _ h=>h) (Or.inl ⟨by rfl,?y14L6⟩) ?z14L6
      case y14L6=>(intro w;go_simp;first | done | with_reducible rfl)
      go_simp
      refine wpAny_take (i:=15) (v:=?v15L6) rfl (by kernel_rfl) (by kernel_rfl) (by kernel_rfl) (fun _ _ _ h=>h) (Or.inl ⟨by rfl,?y15L6⟩) ?z15L6
      case y15L6=>(intro w;go_simp;first | done | with_reducible rfl)
      go_simp
      refine wpAny_ready (rs:=[16]) (by kernel_rfl) (by simp) ?_;refine Yg rfl (fun K hK=>?_) Yi;go_simp
      refine Hn.out.mono ?_;rintro e wh ⟨rfl,C9,h26,Fh,hkh,hoh,hfh⟩;have HKh:=Ya hkh;have HBh:=Ya (HBl.out.trans ((HKl.out.lobelow hoh hzl).mono hzd));clear hkh hoh hfh Hn HKl HBl;go_simp
      refine hK _ _ ?_;clear hK K;obtain ⟨_,_,_,_,_,_,e0,e1,e2,e3,e4⟩:=HKh.out.cells;have hbl:=HKh.out.blt;have Hr26:=Ya (show ∀ y:Ext wh,Calls Tryz.prog 8 #[.pointer (some ⟨p9,0,none⟩),.int .i64 26] y.val fun e w'=>e=.returned (.int .u32 (H9+50))/\y.val=w' from fun y=>by
       have h:=Zfy 26 (HKh.out.below y.property);rw [Zck (by decide) (by decide),h26] at h;exact h)
      have Hwks:=Ya (show ∀ y:Ext wh,Calls Tryz.prog 12 #[] y.val fun e w'=>e=.returned (.bool true)/\Below y.val.heap.size y.val w' from fun y=>Zbg y.val ((HLV.out.on HBh.out).on y.property));have c1:IntKind.i64.wrap (H9+50)=H9+50:=Y6 _ ⟨by omega,by omega⟩;have c2:(H9+50)%4294967296=H9+50:=by omega
      clear h26;have hE:=Ze wh;refine Za1 17 (Y4 37 true) (by kernel_rfl) ?_;simp only [Yab,Yas]
      repeat (first
       | go_big_quiet_step ((first
        | (go_at_call 8;with_reducible exact Zm (Hr26.out _))
        | (go_at_call 12;exact Zas (Hwks.out _)))))
      refine wpQuiet_nil ?_;rintro wi ⟨⟨_,hbi⟩,rfl⟩;have HBi:=Ya (HBh.out.trans (hbi.mono HBh.out.size));clear hE hbi;go_wp2_with fail
      go_ret
      exact ⟨rfl,HBi.out⟩
end Go.Proofs.YtdeepoikgfaecaaGreatDoor
