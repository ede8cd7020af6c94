/- Parts. -/
import Derived.Test.YtcjhmiijbojgeaaGreatDoorZVSo
import Derived.Test.YtcjhmiijbojgeaaGreatDoorZVWk
set_option linter.all false
set_option maxHeartbeats 8000000
open Go.Lib renaming hid->Ya,cell_of_heap->Yb
open Nat renaming le_trans->Yz,zero_add->Y2,zero_le->Yao
open List renaming take_zero->Yaj,take_succ_cons->Yaq,drop_zero->Ya0,drop_succ_cons->Ya1,mem_singleton->Ya8
namespace Go.Proofs.YtcjhmiijbojgeaaGreatDoor
open S Go.Proofs.Tryz Go.RowKit
set_option maxRecDepth 100000
section
attribute [local irreducible] midV
theorem Zhl (t:ByteArray):CharW (charsU (octs t)):=λ x a=>by have:=Znq _ x a;omega
theorem Zhm {t:ByteArray}(h:t.size<=30):(charsU (octs t)).length<=100:=by
 have:=Zku (octs t);rw[Zdl] at this;omega
theorem Zws (I:Img)(m:S.Mach)(name:ByteArray)(N:Nat):(S.callM I m name N).mem.length=m.mem.length:=by
 unfold S.callM;rw[Zn3];unfold S.Mach.goV
 split
 .rw[Zai (by decide) (by decide)]
 .show(m.setV 31 (I.lab kStub)).mem.length=_
  rw[Zai (by decide) (by decide)]
theorem Zlz (m:S.Mach)(i v:Int):(m.putV i v).mem.length=m.mem.length:=(Zbi m i v).2.2.2.2.2.2
theorem Zsq (m0 m:S.Mach):(S.againM m0 m).mem.length=m.mem.length:=rfl
theorem Zsr (m0 m:S.Mach):an m0 (S.againM m0 m):=⟨rfl,rfl,rfl⟩
theorem Zqu (I:Img)(m:S.Mach)(name:ByteArray)(N:Nat):S.callM I m name N=af m (I.lab kStub) (I.lab name) N:=by
 unfold af S.callM;rw[Int.toNat_natCast]
namespace S
def sA (F xa:List Int):Mach:=symA F ((wLV [] [] F).length+8000) (vM F 8000 []) xa
def sB (F xa xb:List Int):Mach:=symB F ((wLV [] [] F).length+8000) (vM F 8000 []) xa xb
def sM (F xa xb:List Int):Mach:=(((sB F xa xb).putV 16 ((sA F xa).rd 4)).putV 17 (4*(sA F xa).rd 26+1)).putV 8 2
def sC (F xa xb:List Int):Mach:=callM (vI F 8000) (sM F xa xb) kCollect 100000
def sD (F xa xb:List Int):Mach:=((againM (vM F 8000 []) (sC F xa xb)).putV 8 0).setV 4 ((sC F xa xb).memV 17)
end S
theorem Z8c (F xa xb:List Int):S.sB F xa xb=((takeM (S.againM (S.vM F 8000 []) (S.sA F xa)) 4 xb).setV 4 (4*(S.sA F xa).rd 26+1)).putV 26 ((S.sA F xa).rd 4):=rfl
theorem Z8d (F xa xb:List Int):S.sM F xa xb=(((S.sB F xa xb).putV 16 ((S.sA F xa).rd 4)).putV 17 (4*(S.sA F xa).rd 26+1)).putV 8 2:=rfl
theorem Z8e (F xa xb:List Int):S.sD F xa xb=((S.againM (S.vM F 8000 []) (S.sC F xa xb)).putV 8 0).setV 4 ((S.sC F xa xb).memV 17):=rfl
section
variable {F:List Int}(hw:be [] [] F 8000 [])
include hw
theorem Zbt:FirstV F ((S.wLV [] [] F).length+8000) (S.wLV [] [] F).length 4000 (S.vM F 8000 []) :=
 ⟨hw.ok,hw.wd,(hw.fst.rd 26).trans rfl,(hw.fst.rd 27).trans rfl,hw.fst.m2,hw.fst.m3,hw.fst.m4,hw.fst.m5,hw.fst.low,hw.len,by omega,by decide⟩
theorem Zwt (t:ByteArray)(g:t.size<=30):bo F [] [.str t]:=by
 have h:=hw.small;have hl:=Zhm g;have c:=hw.ok true;have b:=hw.len;have f:=c.size2;have d:(wImgV true [] [] F ((S.wLV [] [] F).length+8000)).size=(S.wLV [] [] F).length+8000:=rfl;obtain⟨-,t2,-⟩:=Zly c (m:=S.vM F 8000 []) (H:=(S.wLV [] [] F).length) (typ:=4) (ws:=charsU (octs t)) (Z3o hw) (λ x a=>by have:=Zhl t x a;omega) (Z3n hw) (by decide) (by omega) (by omega) (by omega);have j:(askM (S.vM F 8000 []) [.str t]).rd 26=(S.wLV [] [] F).length+1+(charsU (octs t)).length:=by
  show(takeM (S.vM F 8000 []) 4 (charsU (octs t))).rd 26=_
  rw[t2,if_pos rfl]
 refine Zzv hw (λ k l=>?_) (λ x a=>?_) ?_
 .match k,l with
  | 0,_=>exact Z8l hw
  | k+1,_ =>
   have e:List.take (k+1) [Dd.str t]=[Dd.str t]:=List.take_of_length_le (by simp);rw[e,j];omega
 .have e:x=4*(S.vM F 8000 []).rd 26+1:=Ya8.1 a
  rw[Z3n hw] at e;omega
 .exact(Zw6 (S.vM F 8000 []) 4 (charsU (octs t))).trans (Zfz _ (i:=4) _ (by decide) (by decide))
theorem Z8f (t:ByteArray):callP (S.vI F 8000) (am F 8000 [] [.str t]) (kRt 25) 400000=S.sA F (charsU (octs t)):=rfl
theorem Z22 (t:ByteArray)(a:t.size<=30):vE F 8000 (am F 8000 [] [.str t]) ((25:Int).toNat) 400000=0:=(Zce (Zbt hw) (Zhl t) (Zhm a)).1
variable {xa xb:List Int}(ha:CharW xa)(hb:CharW xb)(hal:xa.length<=100)(hbl:xb.length<=100)
include ha hal
theorem Z8g:0<=(S.sA F xa).rd 26/\(S.sA F xa).rd 26<=100000000:=by
 have h:(S.sA F xa).rd 26=_:=(Zce (Zbt hw) ha hal).2.2.1;have:=hw.small;rw[h];omega
theorem Z9f:0<=(S.sA F xa).rd 4/\(S.sA F xa).rd 4<=4294967295:=by
 have h:(S.sA F xa).rd 4=_:=(Zce (Zbt hw) ha hal).2.1;have:=hw.small;rw[h];omega
theorem Z59:((S.sA F xa).mem.length:Int)=(S.wLV [] [] F).length+8000:=by
 have h:((S.againM (S.vM F 8000 []) (S.sA F xa)).mem.length:Int)=_:=(Zce (Zbt hw) ha hal).2.2.2.2.1.len;rw[Zsq] at h;exact h
include hb hbl
theorem Zwu:(S.sB F xa xb).state=0/\(S.sB F xa xb).out=[]/\(S.sB F xa xb).steps=0:=by
 obtain⟨H4,_,h,_⟩:=Zek (Zbt hw) ha hb hal hbl;exact⟨h.run,h.out,h.steps⟩
theorem Z23:(S.sM F xa xb).state=0/\(S.sM F xa xb).out=[]/\(S.sM F xa xb).steps=0:=by
 obtain⟨a,c,b⟩:=Zwu hw ha hb hal hbl;have h:=((Zf0 (S.sB F xa xb) 16 ((S.sA F xa).rd 4)).trans (Zf0 _ 17 (4*(S.sA F xa).rd 26+1))).trans (Zf0 _ 8 2);exact⟨h.1.trans a,h.2.1.trans c,h.2.2.trans b⟩
theorem Z06:((S.sC F xa xb).mem.length:Int)=(S.wLV [] [] F).length+8000:=by
 obtain⟨H4,_,h,_⟩:=Zek (Zbt hw) ha hb hal hbl;have a:((S.sB F xa xb).mem.length:Int)=_:=h.len;unfold S.sC S.sM;rw[Zws,Zlz,Zlz,Zlz];exact a
theorem Z6a {a:Int}(h0:0<=a)(h1:a<1056):(S.sC F xa xb).memV a=(S.sC F xa xb).mv a:=Z0f h0 (by
 have:=Z06 hw ha hb hal hbl;omega)
theorem Z8h:S.sD F xa xb=symD F ((S.wLV [] [] F).length+8000) (S.vM F 8000 []) xa xb:=by
 unfold S.sD;rw[Z6a hw ha hb hal hbl (by decide) (by decide)];rfl
theorem Z24:(S.sD F xa xb).state=0/\(S.sD F xa xb).out=[]/\(S.sD F xa xb).steps=0:=by
 obtain⟨a,c,b⟩:=Zw7 hw;have h:=((Zsr (S.vM F 8000 []) (S.sC F xa xb)).trans (Zf0 _ 8 0)).trans (Zfz _ (i:=4) ((S.sC F xa xb).memV 17) (by decide) (by decide));exact⟨h.1.trans a,h.2.1.trans c,h.2.2.trans b⟩
theorem Z6b:vE F 8000 (S.sB F xa xb) 25 100000=0/\((callP (S.vI F 8000) (S.sB F xa xb) (kRt 25) 100000).rd 4=(S.sA F xa).rd 4↔xa=xb):=Zw1 (Zbt hw) ha hb hal hbl
theorem Z6c:ah (af (S.sM F xa xb) ((S.vI F 8000).lab kStub) ((S.vI F 8000).lab S.kCollect) (100000:Nat)) ((S.vI F 8000).lab kStub)=0:=by
 rw[<- Zqu];obtain⟨d,c,-⟩:=Zqw (Zbt hw) ha hb hal hbl;have a:(S.sC F xa xb).state=1:=d;have b:(S.sC F xa xb).place=(S.vI F 8000).lab kStub:=c;have e:S.callM (S.vI F 8000) (S.sM F xa xb) S.kCollect 100000=S.sC F xa xb:=rfl;rw[e];unfold ah;rw[if_neg (λ q=>q a),if_pos b]
theorem Z8i:af (S.sM F xa xb) ((S.vI F 8000).lab kStub) ((S.vI F 8000).lab S.kCollect) (100000:Nat)=S.sC F xa xb:=(Zqu _ _ _ _).symm
theorem Z6d:vE F 8000 (S.sD F xa xb) 25 100000=0/\((callP (S.vI F 8000) (S.sD F xa xb) (kRt 25) 100000).rd 4=(S.sC F xa xb).memV 16↔xa=xb):=by
 rw[Z6a hw ha hb hal hbl (by decide) (by decide),Z8h hw ha hb hal hbl];obtain⟨-,-,b,a⟩:=Zqw (Zbt hw) ha hb hal hbl;exact⟨b,a⟩
end
theorem Z25 {m:S.Mach}(h:m.Ok)(i:Int):0<=m.memV i/\m.memV i<=4294967295:=by
 unfold S.Mach.memV
 split
 .exact h.memw _
 .decide
theorem Zss {a b:ByteArray}(ha:(codesU (octs a)).isSome=true)(hb:(codesU (octs b)).isSome=true):charsU (octs a)=charsU (octs b)↔a=b:=by
 refine⟨λ h=>?_,λ h=>by rw[h]⟩;obtain⟨ca,d⟩:=Option.isSome_iff_exists.1 ha;obtain⟨cb,c⟩:=Option.isSome_iff_exists.1 hb;unfold charsU at h;rw[d,c] at h;have e:=Zno h;subst e;exact Zy7 (Zsh d c)
end
section
attribute [local irreducible] midV S.againM bg bk
theorem Z26 {c b:List Int}{inp a:List Int}(h:be [] [] c 8000 inp)(d:be [] [] b 8000 a):b=c:=by
 have:=Zl8 d.forms h.forms;exact this.2
theorem Zwv {W inp:List Int}(hw:be [] [] W 8000 inp){w:World}(H:LVE w){F1:Nat->Prop}{c2 b1 p1:Nat}{half:Int}{P:List (ByteArray×Int)}{m:S.Mach}(hK:KAt w c2 b1 p1 F1 (S.wLV [] [] W).length half P m)(a3:(m.mem.length:Int)=(S.wLV [] [] W).length+8000) :
 Calls prog 8 #[.pointer (some ⟨b1,0,none⟩)] w λ e w'=>∃(b p:Nat)(F:Nat->Prop),e=.returned (.pointer (some ⟨b,0,none⟩))/\KAt w' w.heap.size b p F (S.wLV [] [] W).length 4000 (ay [] [] W) (S.againM (S.vM W 8000 []) m)/\Below w.heap.size w w':=by
 have HW:=Ya (Zjb 8000 (by decide) [] (λ x hx=>by cases hx) (by decide) none 0 0 rfl w H (λ h=>by simp at h) (λ _=>rfl));have T:=Ya hK;have c1:=Ya hw;have R:=Ya a3;clear H hK hw a3;go_enter func8,ntmps8
 go_wp2_with fail
 refine HW.out.mono ?_;rintro e w1 ⟨C,b,p,F,o,rfl,b3,A⟩;obtain rfl:=Z26 c1.out o;have b5:=o.small;have a6:=Ya A;obtain⟨L,H⟩:∃L:Int,L=(S.wLV [] [] C).length:=⟨_,rfl⟩
 have c3:0<=L/\L<=18000:=by omega
 obtain⟨m0,k⟩:=Yx (S.vM C 8000 []);have E:KAt w1 w.heap.size b p F L 4000 (ay [] [] C) m0:=by rw[k,H];exact b3
 have a9:(m0.mem.length:Int)=L+8000:=by rw[k,H];exact(Z3o o).len
 have O:=T.out.below A;rw[<- H] at O R T;have b6:=Ya H;have b7:=Ya k;have D:=Ya (show m0.Ok by rw[k];exact(Z3o o).ok);have HOk:=Ya T.out.ok;have z:=Ya O;have t:=Ya E;have b0:=Ya (show m0.mem.length=m.mem.length by have:=R.out;omega);have c0:=R.out;have b9:=A.size;clear b3 E A k O HW a9 o b5;obtain⟨U,K⟩:=Yx (ay [] [] C);rw[<- K] at t;have a0:=Ya K;clear K H;go_upto_region 2 with fail
 have Y:=t.out.blt;have X:=z.out.blt;obtain⟨_,_,_,_,_,_,Z,_,_,x3,_⟩:=t.out.cells;obtain⟨_,_,_,_,_,_,V,_,_,z3,_⟩:=z.out.cells;refine Zq (by kernel_rfl) (by kernel_rfl) ?_;have hE:=Zk w1
 repeat (first|go_big_quiet_step (fail))
 refine wpQuiet_nil ?_;rintro w2 ⟨q2,a4⟩;have v:Below w1.heap.size w1 w2:=by rw[a4];exact q2.property
 have G:=Ya (t.out.below v);have b2:=Ya (z.out.below v);have a5:=Ya (a6.out.trans (v.mono b9));clear a4 q2 v hE Z x3 V z3 Y X t z a6;obtain⟨NL,J⟩:=Yx m.mem.length;have N:=Ya J;rw[<- J] at c0;have s1:IntKind.i64.wrap (L+8000)=L+8000:=IntWalk.i64_in _ ⟨by omega,by omega⟩;have b4:Hid (KAt w2 w.heap.size b p F L 4000 U (bk m0 m 0)):=Ya (by rw[Zzc];exact G.out);clear J G b2;go_wp2_with fail
 go_loopw [4] (λ v4 wr=>∃q:Nat,q<=NL/\v4=.int .i64 q/\Hid (KAt wr w.heap.size b p F L 4000 U (bk m0 m q))/\Hid (Below w.heap.size w wr)) (λ v4 _=>NL-(intOf v4).toNat)
 case atStart=>exact⟨0,Yao _,rfl,b4,a5⟩
 case round =>
  clear b4 a5;obtain⟨q,hq,rfl,j,i⟩:=hrel;have Y:=j.out.blt;have a:=T.out.below i.out;have X:=a.blt;have g:=Ya a;obtain⟨_,_,_,_,_,_,Z,_,_,x3,_⟩:=j.out.cells;obtain⟨_,_,_,_,_,_,V,_,_,z3,_⟩:=a.cells;clear a;by_cases B:q<NL
  .have d1:decide ((q:Int)<L+8000)=true:=decide_eq_true (by omega)
   have p3:IntKind.i64.wrap ((q:Int)+1)=(q:Int)+1:=IntWalk.i64_in _ ⟨by omega,by omega⟩;have a1:=Ya (λ y:Ext wr=>Zgl (q:Int) (g.out.below y.property));go_upto_region 7 with fail
   refine Zj 8 (by kernel_rfl) (by kernel_rfl) ?_;have hE:=Zk wr;simp only[Yaq,Yaj,Ya1,Ya0]
   repeat (first|go_big_quiet_step ((go_at_call 13;exact Zdm (a1.out _))))
   refine wpQuiet_nil ?_;rintro w4 ⟨⟨_,d⟩,rfl⟩;have c:=Ya (j.out.below d);have f:=Ya (i.out.trans (d.mono i.out.size));have Q:0<=m.memV q/\m.memV q<=4294967295:=by
    unfold S.Mach.memV;rw[if_pos ⟨by omega,by rw[<- N.out];omega⟩];exact T.out.ok.memw _
   clear hE d Z x3 V z3 Y X j i g a1;go_wp2_with fail
   refine(Zcv (q:Int) (m.memV q) c.out Q).mono ?_;rintro e w5 ⟨rv,rfl,l,s⟩;have I:Hid (KAt w5 w.heap.size b p F L 4000 U (bk m0 m (q+1))):=Ya (by
    rw[<- Zzd b0.out (by rw[<- N.out];exact B)];exact l)
   have M:=Ya (f.out.trans (c.out.lobelow s f.out.size));clear l s c f;go_wp2_with fail
   go_roundw
   case rel=>exact⟨q+1,by omega,by go_num,I,M⟩
   case measure=>simp[intOf] <;> omega
  .have d1:decide ((q:Int)<L+8000)=false:=decide_eq_false (by omega)
   have a8:q=NL:=by omega
   have a2:Hid (KAt wr w.heap.size b p F L 4000 U (bg m0 m 0)):=Ya (by
    rw[<- Z2w b0.out,<- N.out,<- a8];exact j.out)
   go_wp2_with fail
   clear Z x3 g V z3 Y X a8 d1 B;go_loopw [5] (λ v5 wr=>∃r:Nat,r<=32/\v5=.int .i64 r/\Hid (KAt wr w.heap.size b p F L 4000 U (bg m0 m r))/\Hid (Below w.heap.size w wr)) (λ v5 _=>32-(intOf v5).toNat)
   case atStart=>exact⟨0,Yao _,rfl,a2,i⟩
   case round =>
    clear a2 j i;obtain⟨r,hr,rfl,n,u⟩:=hrel;have Y:=n.out.blt;have a:=T.out.below u.out;have X:=a.blt;have g:=Ya a;obtain⟨_,_,_,_,_,_,Z,_⟩:=n.out.cells;obtain⟨_,_,_,_,_,_,V,_⟩:=a.cells;clear a;by_cases B:r<32
    .have d2:decide ((r:Int)<32)=true:=decide_eq_true (by omega)
     have p4:IntKind.i64.wrap ((r:Int)+1)=(r:Int)+1:=IntWalk.i64_in _ ⟨by omega,by omega⟩;have a7:=Ya (λ y:Ext wr=>Zrp (r:Int) (g.out.below y.property));go_upto_region 11 with fail
     refine Zj 11 (by kernel_rfl) (by kernel_rfl) ?_;have hE:=Zk wr;simp only[Yaq,Yaj,Ya1,Ya0]
     repeat (first|go_big_quiet_step ((go_at_call 7;exact Zb0 (a7.out _))))
     refine wpQuiet_nil ?_;rintro w4 ⟨⟨_,d⟩,rfl⟩;have c:=Ya (n.out.below d);have f:=Ya (u.out.trans (d.mono u.out.size));have Q:0<=m.regV r/\m.regV r<=4294967295:=by
      unfold S.Mach.regV;rw[if_pos ⟨by omega,by omega⟩];exact T.out.ok.word _
     clear hE d Z V Y X n u g a7;go_wp2_with fail
     refine(Zeq (r:Int) (m.regV r) c.out Q).mono ?_;rintro e w5 ⟨rv,rfl,l,s⟩;have I:Hid (KAt w5 w.heap.size b p F L 4000 U (bg m0 m (r+1))):=Ya (by
      rw[<- Zze D.out HOk.out B];exact l)
     have M:=Ya (f.out.trans (c.out.lobelow s f.out.size));clear l s c f;go_wp2_with fail
     go_roundw
     case rel=>exact⟨r+1,by omega,by go_num,I,M⟩
     case measure=>simp[intOf] <;> omega
    .have d2:decide ((r:Int)<32)=false:=decide_eq_false (by omega)
     have b8:r=32:=by omega
     go_wp2_with fail
     go_ret
     refine⟨b,p,F,rfl,?_,u.out⟩;rw[<- b6.out,<- a0.out,<- b7.out,<- Z2x D.out HOk.out,<- b8];exact n.out
end
section
attribute [local irreducible] midV callP vE S.againM takeM S.Mach.putV S.Mach.setV S.Mach.rd S.sA S.sB S.sM S.sC S.sD
theorem Zww {c inp:List Int}{a:Int}(hw:be [] [] c a inp){w:World}{lo b p:Nat}{F:Nat->Prop}{H half:Int}{M:S.Mach}(f:KAt w lo b p F H half (ay [] [] c) M)(h0:M.state=0)(i:M.out=[])(g:M.steps=0)(N:Nat)(hN:N<=1000000) :
 Calls prog 12 #[.pointer (some ⟨b,0,none⟩),.string S.kCollect,.bool false,.int .i64 N] w λ e w'=>e=.returned (.int .i64 (ah (af M ((S.vI c a).lab kStub) ((S.vI c a).lab S.kCollect) N) ((S.vI c a).lab kStub)))/\Z1s w lo b p F H half (ay [] [] c) (af M ((S.vI c a).lab kStub) ((S.vI c a).lab S.kCollect) N) w':=by
 have d:=hw.ok true;obtain⟨f1,f2,f3⟩:=Zck (gw:=[]) (sw:=[]) (F:=c) (size:=(S.wLV [] [] c).length+a) d (Zdq (s:=S.kCollect) (by kernel_rfl));obtain⟨s1,h,j⟩:=Zck (gw:=[]) (sw:=[]) (F:=c) (size:=(S.wLV [] [] c).length+a) d Zi8;exact Z56 S.kCollect N _ _ f f1 s1 ⟨f2,Int.le_trans f3 (by decide)⟩ ⟨h,Int.le_trans j (by decide)⟩ h0 i g (by omega)
theorem Z6e {W:World}{g:Nat}{f k i l j d e c a b:Value}{T:TypeId}(h:W.heap[g]?=some (.cells #[f,k,i,l,j,d,e,c,a,b] T (0,0))):W.cell? ⟨g,5,none⟩=some d/\W.cell? ⟨g,6,none⟩=some e/\W.cell? ⟨g,7,none⟩=some c/\W.cell? ⟨g,8,none⟩=some a/\W.cell? ⟨g,9,none⟩=some b :=
 ⟨by rw[Yb h];rfl,by rw[Yb h];rfl,by rw[Yb h];rfl,by rw[Yb h];rfl,by rw[Yb h];rfl⟩
theorem KAt.lob {w w':World}{F:Nat->Prop}{lo b p B:Nat}{H half:Int}{P:List (ByteArray×Int)}{m:S.Mach}(h:KAt w lo b p F H half P m)(d:Only F w w')(a:lo<=w.heap.size)(c:B<=lo):Below B w w':=(h.lobelow d a).mono c
theorem Z8j {x:Int}(h:0<=x/\x<=100000000):0<=4*x+1/\4*x+1<=4294967295:=by omega
theorem Zzl (t:ByteArray):∀k d,[Dd.str t][k]?=some d->d.isStr=true->k=0:=λ k d a h2=>by
 match k,a with
 | 0,_=>rfl
 | k+1,a=>simp at a
theorem Zg7 (a b:ByteArray)(f2:Bool)(w:World)(hL:LVE w):Calls prog 3 #[.string a,.string b,.bool f2] w λ e w'=>e=.returned (.bool true)/\Below w.heap.size w w':=by
 have HL:=Ya hL;clear hL;have a7:=Ya (λ(W:World) (h:LVE W)=>Z3q W h);have e6:=Ya (λ W=>Zl2 (op:=25) (by decide) W);go_enter func3,ntmps3
 go_upto_region 2 with fail
 have c7:=heap_alloc_new w (.cells #[.int .i64 4,.int .i64 0,.string a,.slice none 0 0,.int .i64 0,.int .i64 4,.int .i64 0,.string b,.slice none 0 0,.int .i64 0] 24);have k6:Below w.heap.size w (w.alloc (.cells #[.int .i64 4,.int .i64 0,.string a,.slice none 0 0,.int .i64 0,.int .i64 4,.int .i64 0,.string b,.slice none 0 0,.int .i64 0] 24)):=(Below.refl _ _).alloc (Nat.le_refl _) _;generalize w.alloc (.cells #[.int .i64 4,.int .i64 0,.string a,.slice none 0 0,.int .i64 0,.int .i64 4,.int .i64 0,.string b,.slice none 0 0,.int .i64 0] 24)=w0 at *;have i1:w.heap.size<w0.heap.size:=Zam c7;have k0:=Ya c7;have n:=Ya k6;have j8:Hid (TxAt w0 w0.heap.size (some ⟨w.heap.size,0,none⟩) [a,b]):=Ya (λ _=>⟨w.heap.size,0,rfl,i1,λ i x P=>by
  rw[Yb c7,Y2]
  simpa[Zho] using P⟩)
 clear c7 k6;by_cases ha:a.size<=30
 case neg =>
  have d1:decide ((a.size:Int)>30)=true:=decide_eq_true (by omega);have d2:decide ((30:Int)<(a.size:Int))=true:=decide_eq_true (by omega);go_wp2_with fail
  refine(a7.out _ (HL.out.on n.out)).mono ?_;rintro e w9 ⟨rfl,H⟩;have J:=Ya (n.out.trans (H.mono n.out.size));clear H;go_wp2_with fail
  go_ret
  exact⟨rfl,J.out⟩
 have d1:decide ((a.size:Int)>30)=false:=decide_eq_false (by omega);have d2:decide ((30:Int)<(a.size:Int))=false:=decide_eq_false (by omega);by_cases hb:b.size<=30
 case neg =>
  have d3:decide ((b.size:Int)>30)=true:=decide_eq_true (by omega);have d4:decide ((30:Int)<(b.size:Int))=true:=decide_eq_true (by omega);go_wp2_with fail
  refine(a7.out _ (HL.out.on n.out)).mono ?_;rintro e w9 ⟨rfl,H⟩;have J:=Ya (n.out.trans (H.mono n.out.size));clear H;go_wp2_with fail
  go_ret
  exact⟨rfl,J.out⟩
 have d3:decide ((b.size:Int)>30)=false:=decide_eq_false (by omega);have d4:decide ((30:Int)<(b.size:Int))=false:=decide_eq_false (by omega);have V:=Z3g [a,b] (some ⟨w.heap.size,0,none⟩) 2 2 rfl (by decide) (λ t h=>by simp only[List.mem_cons,List.not_mem_nil,or_false] at h;rcases h with rfl|rfl <;> omega) w0 j8.out
 cases ht:Za7 [a,b] with
 | false =>
  rw[ht] at V;have d7:=Ya V;clear V ht;go_wp2_with fail
  refine d7.out.mono ?_;rintro e w1 ⟨rfl,X⟩;have G:=Ya (n.out.trans (X.mono n.out.size));clear X;go_wp2_with fail
  refine(a7.out _ (HL.out.on G.out)).mono ?_;rintro e w9 ⟨rfl,H⟩;have J:=Ya (G.out.trans (H.mono G.out.size));clear H;go_wp2_with fail
  go_ret
  exact⟨rfl,J.out⟩
 | true =>
  rw[ht] at V;have d7:=Ya V;have Z:charsU (octs a)=charsU (octs b)↔a=b:=Zss (Zpn ht (k:=0) (by simp)) (Zpn ht (k:=1) (by simp));have l3:=Ya Z;clear V ht Z;go_wp2_with fail
  refine d7.out.mono ?_;rintro e w1 ⟨rfl,X⟩;have G:=Ya (n.out.trans (X.mono n.out.size));have d0:=(X.block w.heap.size i1).trans k0.out;have h2:w.heap.size<w1.heap.size:=Zam d0;have j2:=Ya d0;have j3:=Ya (Z3m 25 (by decide) [.str a] (λ d hd=>by rw[Ya8.1 hd];show a.size<=1000;omega) (Zzl a) (by simp) [] (λ x P=>by cases P) (by decide) (λ B h=>Zwt h a ha) (some ⟨w.heap.size,0,none⟩) none 1 2 0 0 rfl rfl w1 (HL.out.on G.out) (λ _=>⟨w.heap.size,0,rfl,h2,λ i x P=>by
   rw[Yb d0,Y2]
   match i,P with
   | 0,P=>exact P
   | 1,P=>exact P
   | 2,P=>exact P
   | 3,P=>exact P
   | 4,P=>exact P⟩) (λ h=>by simp at h) (λ _=>rfl))
  clear X d7 j8 n k0 i1 d0 d1 d2 d3 d4;go_wp2_with fail
  refine j3.out.mono ?_;rintro e w2 ⟨B,b2,p2,F2,A2,n2,c2,I,rfl,a6,g0⟩;rw[Z22 I a ha,Z8f I a] at *;have wa:=Zhl a;have wb:=Zhl b;have la:=Zhm ha;have lb:=Zhm hb;have Z:=l3.out;have U:=Zrp 4 a6;rw[Zmk (by decide) (by decide)] at U;have g6:=Ya (G.out.trans (g0.mono G.out.size));have h7:=(g0.block w.heap.size h2).trans j2.out;have k3:w.heap.size<w2.heap.size:=Zam h7;have k7:=Ya h7;generalize hca:charsU (octs a)=ca at *;generalize hcb:charsU (octs b)=cb at *;have l8:=Ya hcb;have a8:=Ya (Zwv I (HL.out.on g6.out) a6 (Z59 I wa la));have f1:=Ya (Z8g I wa la);obtain⟨a4,d6⟩:=Yx ((S.sA B ca).rd 4);have e9:0<=a4/\a4<=4294967295:=by rw[d6];exact Z9f I wa la
  obtain⟨se,i2⟩:=Yx (4*(S.sA B ca).rd 26+1);have e7:0<=se/\se<=4294967295:=by rw[i2];exact Z8j f1.out
  rw[<- d6] at U;have m:=Ya I;have j7:=Ya U;have b6:=Ya d6;have f5:=Ya i2;have f:=Ya (And.intro wa wb);have c:=Ya (And.intro la lb);have f0:=Ya Z;have D:=a6.blt;obtain⟨_,_,_,_,_,_,v,u,s,y,z⟩:=a6.cells;have g:w.heap.size<=w2.heap.size:=Nat.le_of_lt k3;clear wa wb la lb Z U g0 h7 hca hcb d6 i2 I j3 l3 j2 G h2 a6;go_wp2_with fail
  refine j7.out.mono ?_;rintro e _ ⟨rfl,rfl⟩;clear D v u s y z j7;go_wp2_with fail
  refine a8.out.mono ?_;rintro e w3 ⟨b3,p3,F3,rfl,c5,d5⟩;have g2:=d5.size;have k1:=Ya (g6.out.trans (d5.mono g));have f8:=(d5.block w.heap.size k3).trans k7.out;have l7:w.heap.size<w3.heap.size:=Zam f8;obtain⟨t5,t6,t7,t8,t9⟩:=Z6e f8;obtain⟨L,hL⟩:∃L:Int,L=(S.wLV [] [] B).length:=⟨_,rfl⟩
  obtain⟨PP,g5⟩:=Yx (ay [] [] B);rw[<- hL,<- g5] at c5;have j5:=Ya hL;have a1:=Ya g5;have h3:=Zqv 0 b (by omega) c5 (by rw[Zhn];exact f1.out);rw[Zhn,l8.out,<- f5.out] at h3;have k9:=Ya h3;have j0:=Ya c5;clear h3 c5 d5 f8 hL g5 k7 g6 a8;go_wp2_with fail
  refine k9.out.mono ?_;rintro e w4 ⟨rfl,k4,i9⟩;have a3:=Ya k4;have l1:=Ya (k1.out.trans (j0.out.lob i9 g2 g));have f3:w2.heap.size<=w4.heap.size:=Yz g2 i9.size;clear k4 i9 j0 k1 g2 k9 t5 t6 t7 t8 t9 l7;have D:=a3.out.blt;obtain⟨_,_,_,_,_,_,v,u,s,y,z⟩:=a3.out.cells;go_wp2_with fail
  refine(Zeq 4 se a3.out e7).mono ?_;rintro e w5 ⟨rv,rfl,r,l⟩;have Y:=Ya r;have k8:=Ya (l1.out.trans (a3.out.lob l f3 g));have h6:w2.heap.size<=w5.heap.size:=Yz f3 l.size;clear r l D v u s y z a3 l1 f3;have D:=Y.out.blt;obtain⟨_,_,_,_,_,_,v,u,s,y,z⟩:=Y.out.cells;go_wp2_with fail
  refine(Zcv 26 a4 Y.out e9).mono ?_;rintro e w6 ⟨rv,rfl,r,l⟩;rw[f5.out,b6.out,<- Z8c] at r;have A:=Ya r;have a9:=Ya (k8.out.trans (Y.out.lob l h6 g));have b5:w2.heap.size<=w6.heap.size:=Yz h6 l.size;clear r l D v u s y z Y k8 h6;have D:=A.out.blt;obtain⟨_,_,_,_,_,_,v,u,s,y,z⟩:=A.out.cells
  cases f2 with
  | false =>
   have Q:=Z6b m.out f.out.1 f.out.2 c.out.1 c.out.2;have O:=Ya (Zwu m.out f.out.1 f.out.2 c.out.1 c.out.2);have h9:=Ya (show vE B 8000 (S.sB B ca cb) ((25:Int).toNat) 100000=0 from Q.1);have i6:=Ya (show(callP (S.vI B 8000) (S.sB B ca cb) (kRt 25) 100000).rd 4=a4↔a=b by rw[b6.out];exact Q.2.trans f0.out);clear Q D v u s y z;go_wp2_with fail
   refine(e6.out _).mono ?_;rintro e wt ⟨rfl,C⟩;have M:=A.out.below C;rw[a1.out] at M;have o:=Zq1 m.out (op:=25) (by decide) M O.out.1 O.out.2.1 O.out.2.2 100000 (by decide);rw[h9.out] at o;have HC:=Ya o;have a5:=Ya (a9.out.trans (C.mono a9.out.size));have E:=Ya (A.out.lt);have c1:w2.heap.size<=wt.heap.size:=Yz b5 C.size;clear C M o a9 A b5;go_wp2_with fail
   refine HC.out.mono ?_;rintro e wu ⟨rfl,Fu,b1,c4,f6⟩;have N:=Ya b1;have R:=Ya (a5.out.trans ((c4.below c1 λ j hj=>(E.out j hj).1).mono g));clear b1 c4 f6 HC a5 E c1;have yu:=N.out.blt;obtain⟨_,_,_,_,_,_,v,u,s,y,z⟩:=N.out.cells;have U:=Zrp 4 N.out;rw[Zmk (by decide) (by decide)] at U;obtain⟨r4,K⟩:=Yx ((callP (S.vI B 8000) (S.sB B ca cb) (kRt 25) 100000).rd 4);rw[<- K] at U;have HR:=Ya U;have p:r4=a4↔a=b:=by rw[K];exact i6.out
   clear U K;go_wp2_with fail
   refine HR.out.mono ?_;rintro e _ ⟨rfl,rfl⟩;have l5:(r4==a4)=(a.toList==b.toList):=by
    by_cases q:a=b
    .rw[Zvd q,p.2 q]
     exact beq_self_eq_true _
    .rw[Zve q]
     exact beq_eq_false_iff_ne.2 λ h=>q (p.1 h)
   clear v u s y z yu p HR;go_wp2_with fail
   refine(a7.out _ (HL.out.on R.out)).mono ?_;rintro e wz ⟨rfl,a2⟩;have f7:=Ya (R.out.trans (a2.mono R.out.size));clear a2;go_wp2_with fail
   go_ret
   exact⟨rfl,f7.out⟩
  | true =>
   clear D v u s y z;have D:=A.out.blt;obtain⟨_,_,_,_,_,_,v,u,s,y,z⟩:=A.out.cells;go_wp2_with fail
   refine(Zcv 16 a4 A.out e9).mono ?_;rintro e w7 ⟨rv,rfl,r,l⟩;have c3:=Ya r;have k2:=Ya (a9.out.trans (A.out.lob l b5 g));have g9:w2.heap.size<=w7.heap.size:=Yz b5 l.size;clear r l D v u s y z A a9 b5;have D:=c3.out.blt;obtain⟨_,_,_,_,_,_,v,u,s,y,z⟩:=c3.out.cells;go_wp2_with fail
   refine(Zcv 17 se c3.out e7).mono ?_;rintro e w8 ⟨rv,rfl,r,l⟩;have b0:=Ya r;have j4:=Ya (k2.out.trans (c3.out.lob l g9 g));have h8:w2.heap.size<=w8.heap.size:=Yz g9 l.size;clear r l D v u s y z c3 k2 g9;have D:=b0.out.blt;obtain⟨_,_,_,_,_,_,v,u,s,y,z⟩:=b0.out.cells;go_wp2_with fail
   refine(Zcv 8 2 b0.out (by decide)).mono ?_;rintro e w9 ⟨rv,rfl,r,l⟩;rw[b6.out,f5.out,<- Z8d] at r;have i0:=Ya r;have J:=Ya (j4.out.trans (b0.out.lob l h8 g));have i7:w2.heap.size<=w9.heap.size:=Yz h8 l.size;clear r l D v u s y z b0 j4 h8;have d8:=Z23 m.out f.out.1 f.out.2 c.out.1 c.out.2;have i4:=i0.out;rw[a1.out] at i4;have o:=Zww m.out i4 d8.1 d8.2.1 d8.2.2 100000 (by decide);rw[Z6c m.out f.out.1 f.out.2 c.out.1 c.out.2,Z8i m.out f.out.1 f.out.2 c.out.1 c.out.2,<- a1.out] at o;have HC:=Ya o;have E:=Ya (i0.out.lt);clear d8 i4 o;go_wp2_with fail
   refine HC.out.mono ?_;rintro e wc ⟨rfl,Fc,l2,h4,l6⟩;have c9:=Ya l2;have g7:=Ya (J.out.trans ((h4.below i7 λ j hj=>(E.out j hj).1).mono g));have j6:w2.heap.size<=wc.heap.size:=Yz i7 h4.size;clear l2 h4 l6 HC E i0 J i7;obtain⟨c16,b8⟩:=Yx ((S.sC B ca cb).memV 16);obtain⟨g8,a0⟩:=Yx ((S.sC B ca cb).memV 17);have f9:0<=g8/\g8<=4294967295:=by rw[a0];exact Z25 c9.out.ok 17
   have l0:=Ya b8;have e5:=Ya a0;have b4:=Zgl 16 c9.out;rw[<- b8] at b4;have e8:=Ya b4;clear b4 b8 a0;go_wp2_with fail
   refine e8.out.mono ?_;rintro e wd ⟨rfl,c8⟩;have f4:=Ya (c9.out.below c8);have g3:=Ya (g7.out.trans (c8.mono g7.out.size));have l4:w2.heap.size<=wd.heap.size:=Yz j6 c8.size;clear c8 e8 c9 g7 j6;have b7:=Zgl 17 f4.out;rw[<- e5.out] at b7;have d9:=Ya b7;clear b7;go_wp2_with fail
   refine d9.out.mono ?_;rintro e we ⟨rfl,h5⟩;have i3:=f4.out.below h5;rw[j5.out] at i3;have c6:=Ya (g3.out.trans (h5.mono g3.out.size));have a8:=Ya (Zwv m.out (HL.out.on c6.out) i3 (Z06 m.out f.out.1 f.out.2 c.out.1 c.out.2));have T:w.heap.size<=we.heap.size:=c6.out.size;clear h5 d9 i3 f4 g3 l4;go_wp2_with fail
   refine a8.out.mono ?_;rintro e wf ⟨bf,pf,Ff,rfl,h0,h1⟩;have g4:=h1.size;have j1:=Ya (c6.out.trans (h1.mono T));rw[<- j5.out,<- a1.out] at h0;have b9:=Ya h0;clear h0 h1 a8 c6;have D:=b9.out.blt;obtain⟨_,_,_,_,_,_,v,u,s,y,z⟩:=b9.out.cells;go_wp2_with fail
   refine(Zcv 8 0 b9.out (by decide)).mono ?_;rintro e wg ⟨rv,rfl,r,l⟩;have c0:=Ya r;have j9:=Ya (j1.out.trans (b9.out.lob l g4 T));have g1:we.heap.size<=wg.heap.size:=Yz g4 l.size;clear r l D v u s y z b9 j1 g4;have D:=c0.out.blt;obtain⟨_,_,_,_,_,_,v,u,s,y,z⟩:=c0.out.cells;go_wp2_with fail
   refine(Zeq 4 g8 c0.out f9).mono ?_;rintro e wh ⟨rv,rfl,r,l⟩;rw[e5.out,<- Z8e] at r;have i8:=Ya r;have i5:=Ya (j9.out.trans (c0.out.lob l g1 T));have k5:we.heap.size<=wh.heap.size:=Yz g1 l.size;clear r l D v u s y z c0 j9 g1;have Q:=Z6d m.out f.out.1 f.out.2 c.out.1 c.out.2;have O:=Ya (Z24 m.out f.out.1 f.out.2 c.out.1 c.out.2);have h9:=Ya (show vE B 8000 (S.sD B ca cb) ((25:Int).toNat) 100000=0 from Q.1);have i6:=Ya (show(callP (S.vI B 8000) (S.sD B ca cb) (kRt 25) 100000).rd 4=c16↔a=b by rw[l0.out];exact Q.2.trans f0.out);clear Q;go_wp2_with fail
   refine(e6.out _).mono ?_;rintro e wt ⟨rfl,C⟩;have M:=i8.out.below C;rw[a1.out] at M;have o:=Zq1 m.out (op:=25) (by decide) M O.out.1 O.out.2.1 O.out.2.2 100000 (by decide);rw[h9.out] at o;have HC:=Ya o;have a5:=Ya (i5.out.trans (C.mono i5.out.size));have E:=Ya (i8.out.lt);have c1:we.heap.size<=wt.heap.size:=Yz k5 C.size;clear C M o i5 i8 k5;go_wp2_with fail
   refine HC.out.mono ?_;rintro e wu ⟨rfl,Fu,b1,c4,f6⟩;have N:=Ya b1;have R:=Ya (a5.out.trans ((c4.below c1 λ j hj=>(E.out j hj).1).mono T));clear b1 c4 f6 HC a5 E c1;have yu:=N.out.blt;obtain⟨_,_,_,_,_,_,v,u,s,y,z⟩:=N.out.cells;have U:=Zrp 4 N.out;rw[Zmk (by decide) (by decide)] at U;obtain⟨r4,K⟩:=Yx ((callP (S.vI B 8000) (S.sD B ca cb) (kRt 25) 100000).rd 4);rw[<- K] at U;have HR:=Ya U;have p:r4=c16↔a=b:=by rw[K];exact i6.out
   clear U K;go_wp2_with fail
   refine HR.out.mono ?_;rintro e _ ⟨rfl,rfl⟩;have l5:(r4==c16)=(a.toList==b.toList):=by
    by_cases q:a=b
    .rw[Zvd q,p.2 q]
     exact beq_self_eq_true _
    .rw[Zve q]
     exact beq_eq_false_iff_ne.2 λ h=>q (p.1 h)
   clear v u s y z yu p HR;go_wp2_with fail
   refine(a7.out _ (HL.out.on R.out)).mono ?_;rintro e wz ⟨rfl,a2⟩;have f7:=Ya (R.out.trans (a2.mono R.out.size));clear a2;go_wp2_with fail
   go_ret
   exact⟨rfl,f7.out⟩
end
