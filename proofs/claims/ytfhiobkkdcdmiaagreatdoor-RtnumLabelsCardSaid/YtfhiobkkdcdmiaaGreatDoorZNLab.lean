/- Parts. -/
import Derived.Test.YtfhiobkkdcdmiaaGreatDoorZNKno
import Derived.Test.YtfhiobkkdcdmiaaGreatDoorZNLb
set_option linter.all false
set_option maxHeartbeats 4000000
open Go.Lib renaming hid->Ya
open List renaming length_append->Yd,getElem?_eq_getElem->Yf,getElem?_eq_some_iff->Yg,mem_of_getElem?->Yw,take_append_drop->Yao,take_add_one->Yas,append_nil->Yav,take_of_length_le->Ybc,flatMap_append->Ybl
open Go.IntWalk renaming i64_in->Yo
namespace Go.Proofs.YtfhiobkkdcdmiaaGreatDoor
set_option maxRecDepth 100000
open Go.RowKit
theorem Zwo:(Tryz.prog.info? 9).map (fun i=>(i.zero,i.size,i.bytes))=some (some (.string ⟨#[]⟩),1,16):=by kernel_rfl
def S.al (i:Nat):List ByteArray:=S.labsOf ((S.objs27.take i).flatMap S.Obj.items)
theorem Zoh {i:Nat}{x:S.Obj}(h:S.objs27[i]?=some x):S.al (i+1)=S.al i++S.labsOf x.items:=by
 unfold S.al;rw [Yas,h,Option.toList_some,Ybl,Zcd]
 congr 1
 simp
theorem Zwp {l:List S.Item}{k:Nat}{y:S.Item}(h:l[k]?=some y):S.labsOf (l.take (k+1))=S.labsOf (l.take k)++(if S.labI y=true then [y.label] else []):=by
 rw [Yas,h,Option.toList_some,Zcd]
 congr 1
 unfold S.labsOf;by_cases c:S.labI y=true
 ·rw [if_pos c];simp [c]
 ·rw [if_neg c];simp [c]
theorem Zy5 (i k:Nat){x:S.Obj}(h:S.objs27[i]?=some x):(S.al i++S.labsOf (x.items.take k)).length<=S.labs27.length:=by
 have e1:S.labs27=S.al (i+1)++S.labsOf ((S.objs27.drop (i+1)).flatMap S.Obj.items):=by
  unfold S.labs27 S.al;rw [<- Zcd,<- Ybl,Yao]
 have e2:S.labsOf x.items=S.labsOf (x.items.take k)++S.labsOf (x.items.drop k):=by rw [<- Zcd,Yao]
 rw [e1,Zoh h,e2];simp only [Yd];omega
theorem Zy6:S.al 22=S.labs27:=by
 unfold S.al S.labs27;rw [Ybc (Nat.le_of_eq (by kernel_rfl))]
theorem Zwq {y:S.Item}(h:y.kind≠2):S.labI y=false:=by
 unfold S.labI;rw [decide_eq_false h];rfl
theorem Zy7 {y:S.Item}(h:¬ 0<y.label.size):S.labI y=false:=by
 have e:y.label.data.toList=[]:=by
  have:y.label.data.toList.length=0:=by
   rw [Array.length_toList]
   show y.label.size=0
   omega
  exact List.eq_nil_of_length_eq_zero this
 unfold S.labI;rw [e];simp
theorem Z2k {y:S.Item}(hk:y.kind=2)(h0:0<y.label.size):S.labI y=!((((y.label[0]'h0).toNat:Int))==46):=by
 have hl:0<y.label.data.toList.length:=by rw [Array.length_toList];exact h0
 have e:y.label.data.toList.head?=some (y.label[0]'h0):=by
  rw [List.head?_eq_getElem?,Yf hl];rfl
 unfold S.labI;rw [e,decide_eq_true hk];have e3:y.label.data.toList.isEmpty=false:=by
  cases h:y.label.data.toList with
  | nil=>rw [h] at hl;simp at hl
  | cons a r=>rfl
 rw [e3];generalize y.label[0]'h0=c;by_cases hc:c=46
 ·subst hc;rfl
 ·have h1:((c.toNat:Int)==46)=false:=by
   refine beq_eq_false_iff_ne.2 fun e=>hc ?_
   apply UInt8.toNat_inj.1
   show c.toNat=46
   omega
  rw [h1];simp [hc]
theorem Zrf {s u:ByteArray}(h:s≠u):(s.toList==u.toList)=false :=
 beq_eq_false_iff_ne.2 fun e=>h (ByteArray.ext (Array.toList_inj.1 (by rw [<- ByteArray.toList_eq,<- ByteArray.toList_eq];exact e)))
theorem Z2l {s:ByteArray}(h:S.numP s=true):3<=s.size/\((s.extract 0 3).toList==[110,117,109])=true:=by
 unfold S.numP at h;simp only [Bool.and_eq_true,decide_eq_true_eq] at h;refine ⟨h.1,?_⟩;have e:(s.extract 0 3).toList=s.data.toList.take 3:=by
  rw [ByteArray.toList_eq,ByteArray.data_extract];simp
 rw [e,h.2];rfl
theorem Zd2 {s:ByteArray}(h:S.isSeven s=false)(t:ByteArray)(ht:t∈S.seven):s≠t:=fun e=>by
 unfold S.isSeven at h;rw [List.any_eq_false] at h;exact h t ht (by rw [e];simp)
theorem Zy8 {s:ByteArray}(h:S.isSeven s=true):s=S.kRt 8\/s=S.kRt 9\/s=S.kRt 10\/s=S.kRt 11\/s=S.kRt 12\/s=S.kRt 13\/s=S.kRt 14:=by
 unfold S.isSeven at h;obtain ⟨t,ht,e⟩:=List.any_eq_true.1 h;have e2:t=s:=of_decide_eq_true e;subst e2;unfold S.seven at ht
 simpa using ht
theorem Zhu {s t:ByteArray}{l:List UInt8}(e:t=⟨l.toArray⟩)(h:s≠t):(s.toList==l)=false:=by
 have h2:=Zrf h;rw [e,ByteArray.toList_eq ⟨l.toArray⟩] at h2;exact h2
theorem Z45:S.kRt 8=⟨#[114,116,56]⟩:=by kernel_rfl
theorem Z2m:S.kRt 9=⟨#[114,116,57]⟩:=by kernel_rfl
theorem Zrg:S.kRt 10=⟨#[114,116,49,48]⟩:=by kernel_rfl
theorem Zoi:S.kRt 11=⟨#[114,116,49,49]⟩:=by kernel_rfl
theorem Zk3:S.kRt 12=⟨#[114,116,49,50]⟩:=by kernel_rfl
theorem Zjl:S.kRt 13=⟨#[114,116,49,51]⟩:=by kernel_rfl
theorem Zhv:S.kRt 14=⟨#[114,116,49,52]⟩:=by kernel_rfl
theorem Zoj {H:Zu}{w:World}{o:S.Obj}{r:List S.Obj}{xs:List Value}(h:RepL H w (S.ae (o::r)) xs)(hp:0<o.items.length)(hw:∀ y∈o.items,0<=y.word/\y.word<=4294967295) :
 ∃ c b off k,xs[1]?=some (.slice (some ⟨b,off,none⟩) o.items.length c)/\H b=some k/\∀ y,o.items[0]?=some y->ItemAt w b off y:=by
 have h':RepL H w (.str o.name::.row o.items.length (S.encItems o.items)::S.ae r) xs:=h;rw [RepL] at h';obtain ⟨v0,rs,rfl,_,hv0,h'⟩:=h';rw [RepL] at h';obtain ⟨v1,rs,rfl,_,hv1,h'⟩:=h';rw [RepV] at hv1;obtain ⟨A,c,rfl,_,_,hc⟩:=hv1;rcases hc with e | ⟨b,off,k,rfl,hb,_,hr⟩
 ·have h8:=Zer o.items
  rw [e] at h8;simp at h8;omega
 ·exact ⟨c,b,off,k,rfl,hb,fun y hy=>by have:=Ze6 hr hw 0 y hy;rw [Nat.zero_mul,Nat.add_zero] at this;exact this⟩
theorem Zqc:∃ o r,S.objs27=o::r/\0<o.items.length/\∃ y,o.items[0]?=some y/\y.label≠⟨#[120]⟩:=by
 refine ⟨S.ofR S.rNInt,S.objs27.tail,rfl,?_,?_⟩
 ·show 0<(S.bItems S.rNInt).length
  exact of_decide_eq_true (by kernel_rfl)
 ·have h:((S.bItems S.rNInt)[0]?).map S.Item.label=some S.kNInt:=by kernel_rfl
  cases e:(S.bItems S.rNInt)[0]? with
  | none=>rw [e] at h;cases h
  | some y =>
   rw [e] at h;refine ⟨y,e,?_⟩;have:y.label=S.kNInt:=Option.some.inj h;rw [this]
   decide
theorem Zwr:∀ x∈S.objs27,x.items.length<=100000:=by
 have h:(S.objs27.all fun x=>decide (x.items.length<=100000))=true:=by kernel_rfl
 exact fun x hx=>of_decide_eq_true (List.all_eq_true.1 h x hx)
theorem Zjm (w0:World)(hL:LVE w0):Calls Tryz.prog 5 #[] w0 fun e w'=>e=.returned (.bool true)/\Below w0.heap.size w0 w':=by
 have HL:=Ya hL;clear hL;have hlen27:S.objs27.length=22:=by kernel_rfl
 have Hlen:=Ya hlen27;have Hex:=Ya (fun i (h:i<22)=>(⟨_,Yf (by rw [hlen27];exact h)⟩:∃ x,S.objs27[i]?=some x));go_enter Tryz.func5,Tryz.ntmps5
 go_wp2_with fail
 refine (Zfp (fun _=>none) w0 [] (fun b k h=>by cases h) HL.out (by rw [RepT])).mono ?_;rintro e w1 ⟨v1,H1,rfl,hb1,hO1,hH1,hr1,ht1⟩;obtain ⟨xs1,hl1,ho1,-⟩:=Zgr (ht1 _ rfl) hr1 (.inl ⟨rfl,rfl⟩) (by kernel_rfl);have hoc1:=Zj2 (fun b k h=>(hH1 b k h).lt) hl1 (fun x hx=>Zgu Zia x hx);obtain ⟨A1,c1,rfl⟩:=Zb ho1;obtain ⟨o0,r0,e0,p0,y0,hy0,hne0⟩:=Zqc;have hw0:∀ y∈o0.items,0<=y.word/\y.word<=4294967295:=(Zgu Zia o0 (by rw [e0];exact List.mem_cons_self)).1;rw [e0] at hl1;obtain ⟨ci1,bi1,off1,k1,hx1,hk1,hi1⟩:=Zoj hl1 p0 hw0;have Hbk1:=Ya (hH1 bi1 k1 hk1);have Hlo:=Ya (show w0.heap.size<=bi1 from by
  refine Classical.byContradiction fun c=>?_
  rw [hO1 bi1 (by omega)] at hk1
  cases hk1)
 clear hO1;have Hobj1:Hid (Objs w1 w1.heap.size A1 S.objs27):=Ya (Zrr (os:=S.objs27) (by rw [hlen27];exact ho1) hoc1);obtain ⟨g1,rfl,hg1a,hg1b,hg1c,hg1d,hg1e⟩:=Z1 ho1 (by decide);have Hcell1:=Ya (show w1.cell? ⟨g1,1,none⟩=some (.slice (some ⟨bi1,off1,none⟩) o0.items.length ci1) from (hg1d 1 (by decide)).trans hx1);have Hitem1:=Ya (hi1 y0 hy0);have HB1:=Ya hb1;have hz1:=hb1.size;have hg1lt:=hg1b;clear hr1 ht1 hl1 ho1 hoc1 hx1 hi1 hH1 hb1 hg1a hg1b hg1c hg1d hg1e hk1;go_wp2_with fail
 refine (Zfp (fun _=>none) w1 [] (fun b k h=>by cases h) (HL.out.on HB1.out) (by rw [RepT])).mono ?_;rintro e w2 ⟨v2,H2,rfl,hb2,hO2,hH2,hr2,ht2⟩;obtain ⟨xs2,hl2,ho2,-⟩:=Zgr (ht2 _ rfl) hr2 (.inl ⟨rfl,rfl⟩) (by kernel_rfl);obtain ⟨A2,c2,rfl⟩:=Zb ho2;rw [e0] at hl2;obtain ⟨ci2,bi2,off2,k2,hx2,hk2,hi2⟩:=Zoj hl2 p0 hw0;have hnew:w1.heap.size<=bi2:=by
  refine Classical.byContradiction fun c=>?_
  rw [hO2 bi2 (by omega)] at hk2
  cases hk2
 have Hbi2:=Ya (hH2 bi2 k2 hk2).lt;obtain ⟨g2,rfl,hg2a,hg2b,hg2c,hg2d,hg2e⟩:=Z1 ho2 (by decide);have Hcell2:=Ya (show w2.cell? ⟨g2,1,none⟩=some (.slice (some ⟨bi2,off2,none⟩) o0.items.length ci2) from (hg2d 1 (by decide)).trans hx2);have Hitem2:=Ya (hi2 y0 hy0);have hz2:=hb2.size;have HB2:=Ya (HB1.out.trans (hb2.mono hz1));have Hobj:=Ya (Hobj1.out.below hb2);have Hcell1':=Ya ((hb2.cell (p:=⟨g1,1,none⟩) hg1lt).trans Hcell1.out);have hbi1:=Hbk1.out.lt;have Hbk:=Ya (Hbk1.out.of (hb2.block bi1 hbi1));have Hitem1':=Ya ((hb2.cell (p:=⟨bi1,off1+6,none⟩) hbi1).trans Hitem1.out.c6);have Hnew:=Ya hnew;have Hg2a:=Ya hg2a;have Hg2b:=Ya hg2b;have hg1lt2:g1<w2.heap.size:=by omega
 have Hy0:=Ya hne0;have Hp0:=Ya p0;obtain ⟨n0,hn0⟩:=Yx o0.items.length;have Hn0:=Ya hn0;obtain ⟨s0,hs0⟩:=Yx y0.label;have Hs0:=Ya hs0;clear hr2 ht2 hl2 ho2 hx2 hi2 hH2 hb2 hg2a hg2b hg2c hg2d hg2e hk2 hO2 hnew e0 p0 hy0 hne0 hw0 hn0 hs0 Hobj1 Hcell1 Hitem1 Hbk1;go_wp2_with fail
 go_loopw [3,4] (fun v3 v4 wr=>∃ (i:Nat) (A:Option Addr) (q c:Nat) (ls:List ByteArray),i<=22/\v4=.int .i64 i/\v3=.slice A q c/\Hid (q=ls.length)/\Hid (ls=S.al i)/\Hid (wr.ownsRow w2.heap.size 9 1 (.slice A q c) q (ls.map Value.string))/\Hid (Below w2.heap.size w2 wr)) (fun _ v4 _=>22-(intOf v4).toNat)
 case atStart=>exact ⟨0,none,0,0,[],by omega,rfl,rfl,Ya rfl,Ya rfl,Ya (World.ownsRow_nil _ _ _ _),Ya (Below.refl _ _)⟩
 case round =>
  obtain ⟨i,A0,q0,c0,ls0,hi,rfl,rfl,hq0,hls0,hown0,hbel0⟩:=hrel;by_cases hlt:i<22
  ·obtain ⟨x,hx⟩:=Hex.out i hlt
   obtain ⟨b,off,x',eA,hbB,hx',hc0,⟨Ai,ci,hc1,hI⟩,hn,hlab⟩:=Hobj.out.at_ (k:=i) (by rw [Hlen.out];exact hlt)
   cases eA
   have hxx:x'=x:=by rw [hx] at hx';exact (Option.some.inj hx').symm
   subst hxx;rw [Nat.zero_add] at hc1;obtain ⟨nI,hnI⟩:=Yx x'.items.length;rw [<- hnI] at hc1;have hnb:nI<=100000:=by rw [hnI];exact Zwr _ (Yw hx)
   have HnI:=Ya hnI;have Hx:=Ya hx;have HC1:=Ya hc1;have HI:=Ya hI;have Hlab:=Ya hlab;have i3:(i:Int)<22:=by omega
   have i4:(0:Int)<=(i:Int):=by omega
   have d1:decide ((i:Int)<22)=true:=decide_eq_true i3;have w1_:IntKind.i64.wrap (i:Int)=(i:Int):=by rw [Yo _ (by omega)]
   have w2_:IntKind.i64.wrap ((i:Int)+1)=(i:Int)+1:=by rw [Yo _ (by omega)]
   clear hx hx' hc0 hc1 hI hn hlab hnI;go_wp2_with fail
   go_loopw [3,5] (fun v3 v5 wi=>∃ (k:Nat) (A:Option Addr) (q c:Nat) (ls:List ByteArray),k<=nI/\v5=.int .i64 k/\v3=.slice A q c/\Hid (q=ls.length)/\Hid (ls=S.al i++S.labsOf (x'.items.take k))/\Hid (wi.ownsRow w2.heap.size 9 1 (.slice A q c) q (ls.map Value.string))/\Hid (Below w2.heap.size w2 wi)) (fun _ v5 _=>nI-(intOf v5).toNat)
   case atStart=>exact ⟨0,A0,q0,c0,ls0,by omega,rfl,rfl,hq0,Ya (by rw [hls0.out,List.take_zero];exact (Yav _).symm),hown0,hbel0⟩
   case round =>
    clear hq0 hls0 hown0 hbel0;obtain ⟨k,A,q,c,ls,hk,rfl,rfl,hq,hls,hown,hbel⟩:=hrel;have hci:=(hbel.out.cell (p:=⟨g1,i*2+1,none⟩) hg1lt2).trans HC1.out;have hz:=hbel.out.size;have hgl:g1<wr.heap.size:=by omega
    by_cases hkl:k<nI
    ·obtain ⟨bi,offi,y,eA,hbi,hy,hIt⟩:=(HI.out.below (hbel.out.mono hz2)).at_ (k:=k) (by rw [<- HnI.out];exact hkl)
     subst eA;have hbl:bi<wr.heap.size:=by omega
     have k0:=hIt.c0;have k6:=hIt.c6;have Hyk:=Ya hy;have hql:q<=1000:=by
      rw [hq.out,hls.out];exact Nat.le_trans (Zy5 i k Hx.out) labs_parts.2.2.2
     have Hlk:=Ya (Zwp hy);have k3:(k:Int)<(nI:Int):=by omega
     have k4:(0:Int)<=(k:Int):=by omega
     have d2:decide ((k:Int)<(nI:Int))=true:=decide_eq_true k3;have w3_:IntKind.i64.wrap (k:Int)=(k:Int):=by rw [Yo _ (by omega)]
     have w4_:IntKind.i64.wrap ((k:Int)+1)=(k:Int)+1:=by rw [Yo _ (by omega)]
     have HK1:=Ya (Zwq (y:=y));have HK2:=Ya (Zy7 (y:=y));have HK3:=Ya (Z2k (y:=y));obtain ⟨kd,hkd⟩:=Yx y.kind;obtain ⟨s,hs⟩:=Yx y.label;rw [<- hkd] at k0 HK1 HK3;rw [<- hs] at k6 HK2 HK3 Hlk;clear hy hIt hkd hs;by_cases ck:kd=2
     rotate_left
     ·have e1:(kd==2)=false:=by simp [ck]
      have Hnext:=Ya (show ls=S.al i++S.labsOf (x'.items.take (k+1)) by rw [hls.out,Hlk.out,HK1.out ck,if_neg (by decide),Yav]);clear ck;go_wp2_with fail
      go_roundw
      case rel=>exact ⟨k+1,A,q,c,ls,by omega,by go_num,rfl,hq,Hnext.out,hown,hbel⟩
      case measure=>simp [intOf] <;> omega
     ·have e1:(kd==2)=true:=by simp [ck]
      by_cases cz:0<s.size
      rotate_left
      ·have e2:decide ((s.size:Int)>0)=false:=decide_eq_false (by omega)
       have e3:decide ((0:Int)<(s.size:Int))=false:=decide_eq_false (by omega);have e4:decide (0<s.size)=false:=decide_eq_false cz;have Hnext:=Ya (show ls=S.al i++S.labsOf (x'.items.take (k+1)) by rw [hls.out,Hlk.out,HK2.out cz,if_neg (by decide),Yav]);clear ck cz;go_wp2_with fail
       go_roundw
       case rel=>exact ⟨k+1,A,q,c,ls,by omega,by go_num,rfl,hq,Hnext.out,hown,hbel⟩
       case measure=>simp [intOf] <;> omega
      ·have e2:decide ((s.size:Int)>0)=true:=decide_eq_true (by omega)
       have e3:decide ((0:Int)<(s.size:Int))=true:=decide_eq_true (by omega);have e4:decide (0<s.size)=true:=decide_eq_true cz;have z1:(0:Int)<(s.size:Int):=by omega
       have HK:=Ya (HK3.out ck cz);obtain ⟨ch,hch⟩:∃ ch,((s[0]'cz).toNat:Int)=ch:=⟨_,rfl⟩
       rw [hch] at HK;clear HK1 HK2 HK3 ck;by_cases c46:ch=46
       ·have e5:(ch != 46)=false:=by simp [c46]
        have Hnext:=Ya (show ls=S.al i++S.labsOf (x'.items.take (k+1)) by
         have h:=HK.out;rw [c46] at h;rw [hls.out,Hlk.out,h,if_neg (by decide),Yav])
        clear c46;go_wp2_with fail
        go_roundw
        case rel=>exact ⟨k+1,A,q,c,ls,by omega,by go_num,rfl,hq,Hnext.out,hown,hbel⟩
        case measure=>simp [intOf] <;> omega
       ·have e5:(ch != 46)=true:=by simp [c46]
        have Hnext:=Ya (show ls++[s]=S.al i++S.labsOf (x'.items.take (k+1)) by
         have h:=HK.out;rw [show (ch==46)=false by simp [c46]] at h;rw [hls.out,Hlk.out,h,if_pos (by decide),List.append_assoc])
        clear c46;go_wp2_with (at_builtin;refine Zx rfl (.tmp 57) (.tmp 59) _ rfl w2.heap.size 9 Zwo Tryz.underlying67 rfl (by decide) #[.string s] _ _ _ rfl hown.out rfl rfl rfl (by simp [Value.oneCell']) (by simp only [maxLen];omega) (by omega) hz ?_;intro v' w7 ho7 hg7 hb7 hat7;obtain ⟨A8,c8,rfl⟩:=Zb ho7)
        go_roundw
        case rel=>exact ⟨k+1,A8,q+1,c8,ls++[s],by omega,by go_num,rfl,Ya (by rw [Yd,<- hq.out];rfl),Hnext,Ya (by rw [List.map_append];exact ho7),Ya (hbel.out.trans hb7)⟩
        case measure=>simp [intOf] <;> omega
    ·have hke:k=nI:=by omega
     subst hke;have d2:decide ((k:Int)<(k:Int))=false:=by simp
     have Hnext:=Ya (show ls=S.al (i+1) by rw [hls.out,Zoh Hx.out,HnI.out,List.take_length]);clear hkl hk;go_wp2_with fail
     go_roundw
     case rel=>exact ⟨i+1,A,q,c,ls,by omega,by go_num,rfl,hq,Hnext,hown,hbel⟩
     case measure=>simp [intOf] <;> omega
  ·have hie:i=22:=by omega
   subst hie;have d1:decide ((22:Int)<22)=false:=by decide
   obtain ⟨w3,rfl⟩:=Yx wr;obtain ⟨P1,P2,P3,P4⟩:=labs_parts;have hls1:ls0=S.labs27:=hls0.out.trans Zy6;rw [<- hls1] at P1 P2 P3 P4;rw [<- hq0.out] at P4;have hqp:0<q0:=by
    have h1:=List.length_filter_le S.isSeven ls0;rw [hq0.out];omega
   obtain ⟨g3,rfl,hg3a,hg3b,_,hg3d,_⟩:=Z1 hown0.out hqp;have HC:=Ya (fun (j:Nat) (h:j<q0)=>(⟨ls0[j]'(by rw [<- hq0.out];exact h),Yf _,(hg3d j (by omega)).trans (by rw [List.getElem?_map,Yf (by rw [<- hq0.out];exact h)];rfl)⟩:∃ s,ls0[j]?=some s/\w3.cell? ⟨g3,j,none⟩=some (.string s)));have HP1:=Ya P1;have HP2:=Ya P2;have HP3:=Ya P3;have Hq0:=hq0;have HB3:=Ya (HB2.out.trans (hbel0.out.mono (Nat.le_trans hz1 hz2)));have HB23:=hbel0;have hz3:=hbel0.out.size;clear P1 P2 P3 hls1 hls0 hown0 hg3d hbel0 hq0 hlt hi hg3a;go_wp2_with fail
   go_loopw [7,8] (fun v7 v8 wz=>∃ (i:Nat) (sv:Int) (n:Nat),i<=q0/\v8=.int .i64 i/\v7=.int .i64 sv/\Hid (sv=((ls0.take i).filter S.isSeven).length)/\(0<=sv/\sv<=i)/\wz=w3.drewN n) (fun _ v8 _=>q0-(intOf v8).toNat)
   case atStart=>exact ⟨0,0,0,Nat.zero_le _,rfl,rfl,Ya rfl,by omega,rfl⟩
   case round =>
    obtain ⟨i,sv,n,hi,rfl,rfl,hsv,hsb,rfl⟩:=hrel;by_cases hlt:i<q0
    ·obtain ⟨s,hs,hcs⟩:=HC.out i hlt
     have i3:(i:Int)<(q0:Int):=by omega
     have i4:(0:Int)<=(i:Int):=by omega
     have d2:decide ((i:Int)<(q0:Int))=true:=decide_eq_true i3;have w1_:IntKind.i64.wrap (i:Int)=(i:Int):=by rw [Yo _ (by omega)]
     have w2_:IntKind.i64.wrap ((i:Int)+1)=(i:Int)+1:=by rw [Yo _ (by omega)]
     have w3_:IntKind.i64.wrap (sv+1)=sv+1:=by rw [Yo _ (by omega)]
     have Hs:=Ya hs;clear hs;go_wp2_with fail
     go_loopw [9] (fun v9 wz=>∃ (k n:Nat),k<=i/\v9=.int .i64 k/\wz=w3.drewN n) (fun v9 _=>i-(intOf v9).toNat)
     case atStart=>exact ⟨0,n,Nat.zero_le _,rfl,rfl⟩
     case round =>
      obtain ⟨k,n,hk,rfl,rfl⟩:=hrel;by_cases hkl:k<i
      ·obtain ⟨u,hu,hcu⟩:=HC.out k (by omega)
       have hne:s≠u:=fun e=>by
        have h1:=Hs.out;obtain ⟨l1,e1⟩:=Yg.1 h1;obtain ⟨l2,e2⟩:=Yg.1 hu;have:=(List.nodup_iff_pairwise_ne.1 HP1.out)
        rw [List.pairwise_iff_getElem] at this;exact this k i l2 l1 hkl (by rw [e1,e2,e])
       have k3:(k:Int)<(i:Int):=by omega
       have k4:(0:Int)<=(k:Int):=by omega
       have k5:(k:Int)<(q0:Int):=by omega
       have d3:decide ((k:Int)<(i:Int))=true:=decide_eq_true k3;have w5_:IntKind.i64.wrap (k:Int)=(k:Int):=by rw [Yo _ (by omega)]
       have w6_:IntKind.i64.wrap ((k:Int)+1)=(k:Int)+1:=by rw [Yo _ (by omega)]
       have ne2:=Zrf hne;clear hu hne;go_wp2_with fail
       go_quiet (fail)
       go_wp2_with fail
       go_roundw
       case rel=>exact ⟨k+1,_,by omega,by go_num,rfl⟩
       case measure=>simp [intOf] <;> omega
      ·have hke:k=i:=by omega
       subst hke;have d3:decide ((k:Int)<(k:Int))=false:=by simp
       obtain ⟨i,rfl⟩:=Yx k;have HcT:=Ya (show S.isSeven s=true->sv+1=((ls0.take (i+1)).filter S.isSeven).length from fun h=>by
        rw [Yas,Hs.out,Option.toList_some,List.filter_append,Yd,hsv.out,List.filter_cons,h];rfl)
       have HcF:=Ya (show S.isSeven s=false->sv=((ls0.take (i+1)).filter S.isSeven).length from fun h=>by
        rw [Yas,Hs.out,Option.toList_some,List.filter_append,Yd,hsv.out,List.filter_cons,h];rfl)
       have hmem:=HP2.out s (Yw Hs.out);clear hkl hk
       cases c7:S.isSeven s with
       | true =>
        rcases Zy8 c7 with es | es | es | es | es | es | es
        all_goals clear hmem
        ·have Hc:=Ya (HcT.out c7)
         have f8:(s.toList==[114,116,56])=true:=by rw [es,Z45,ByteArray.toList_eq];rfl
         clear es c7;go_wp2_with fail
         go_roundw
         case rel=>exact ⟨i+1,sv+1,_,by omega,by go_num,rfl,Hc,by omega,rfl⟩
         case measure=>simp [intOf] <;> omega
        ·have Hc:=Ya (HcT.out c7)
         have f8:(s.toList==[114,116,56])=false:=by rw [es,Z2m,ByteArray.toList_eq];rfl
         have f9:(s.toList==[114,116,57])=true:=by rw [es,Z2m,ByteArray.toList_eq];rfl
         clear es c7;go_wp2_with fail
         go_roundw
         case rel=>exact ⟨i+1,sv+1,_,by omega,by go_num,rfl,Hc,by omega,rfl⟩
         case measure=>simp [intOf] <;> omega
        ·have Hc:=Ya (HcT.out c7)
         have f8:(s.toList==[114,116,56])=false:=by rw [es,Zrg,ByteArray.toList_eq];rfl
         have f9:(s.toList==[114,116,57])=false:=by rw [es,Zrg,ByteArray.toList_eq];rfl
         have f10:(s.toList==[114,116,49,48])=true:=by rw [es,Zrg,ByteArray.toList_eq];rfl
         clear es c7;go_wp2_with fail
         go_roundw
         case rel=>exact ⟨i+1,sv+1,_,by omega,by go_num,rfl,Hc,by omega,rfl⟩
         case measure=>simp [intOf] <;> omega
        ·have Hc:=Ya (HcT.out c7)
         have f8:(s.toList==[114,116,56])=false:=by rw [es,Zoi,ByteArray.toList_eq];rfl
         have f9:(s.toList==[114,116,57])=false:=by rw [es,Zoi,ByteArray.toList_eq];rfl
         have f10:(s.toList==[114,116,49,48])=false:=by rw [es,Zoi,ByteArray.toList_eq];rfl
         have f11:(s.toList==[114,116,49,49])=true:=by rw [es,Zoi,ByteArray.toList_eq];rfl
         clear es c7;go_wp2_with fail
         go_roundw
         case rel=>exact ⟨i+1,sv+1,_,by omega,by go_num,rfl,Hc,by omega,rfl⟩
         case measure=>simp [intOf] <;> omega
        ·have Hc:=Ya (HcT.out c7)
         have f8:(s.toList==[114,116,56])=false:=by rw [es,Zk3,ByteArray.toList_eq];rfl
         have f9:(s.toList==[114,116,57])=false:=by rw [es,Zk3,ByteArray.toList_eq];rfl
         have f10:(s.toList==[114,116,49,48])=false:=by rw [es,Zk3,ByteArray.toList_eq];rfl
         have f11:(s.toList==[114,116,49,49])=false:=by rw [es,Zk3,ByteArray.toList_eq];rfl
         have f12:(s.toList==[114,116,49,50])=true:=by rw [es,Zk3,ByteArray.toList_eq];rfl
         clear es c7;go_wp2_with fail
         go_roundw
         case rel=>exact ⟨i+1,sv+1,_,by omega,by go_num,rfl,Hc,by omega,rfl⟩
         case measure=>simp [intOf] <;> omega
        ·have Hc:=Ya (HcT.out c7)
         have f8:(s.toList==[114,116,56])=false:=by rw [es,Zjl,ByteArray.toList_eq];rfl
         have f9:(s.toList==[114,116,57])=false:=by rw [es,Zjl,ByteArray.toList_eq];rfl
         have f10:(s.toList==[114,116,49,48])=false:=by rw [es,Zjl,ByteArray.toList_eq];rfl
         have f11:(s.toList==[114,116,49,49])=false:=by rw [es,Zjl,ByteArray.toList_eq];rfl
         have f12:(s.toList==[114,116,49,50])=false:=by rw [es,Zjl,ByteArray.toList_eq];rfl
         have f13:(s.toList==[114,116,49,51])=true:=by rw [es,Zjl,ByteArray.toList_eq];rfl
         clear es c7;go_wp2_with fail
         go_roundw
         case rel=>exact ⟨i+1,sv+1,_,by omega,by go_num,rfl,Hc,by omega,rfl⟩
         case measure=>simp [intOf] <;> omega
        ·have Hc:=Ya (HcT.out c7)
         have f8:(s.toList==[114,116,56])=false:=by rw [es,Zhv,ByteArray.toList_eq];rfl
         have f9:(s.toList==[114,116,57])=false:=by rw [es,Zhv,ByteArray.toList_eq];rfl
         have f10:(s.toList==[114,116,49,48])=false:=by rw [es,Zhv,ByteArray.toList_eq];rfl
         have f11:(s.toList==[114,116,49,49])=false:=by rw [es,Zhv,ByteArray.toList_eq];rfl
         have f12:(s.toList==[114,116,49,50])=false:=by rw [es,Zhv,ByteArray.toList_eq];rfl
         have f13:(s.toList==[114,116,49,51])=false:=by rw [es,Zhv,ByteArray.toList_eq];rfl
         have f14:(s.toList==[114,116,49,52])=true:=by rw [es,Zhv,ByteArray.toList_eq];rfl
         clear es c7;go_wp2_with fail
         go_roundw
         case rel=>exact ⟨i+1,sv+1,_,by omega,by go_num,rfl,Hc,by omega,rfl⟩
         case measure=>simp [intOf] <;> omega
       | false =>
        obtain ⟨n1,n2⟩:=Z2l (hmem.resolve_left (by rw [c7];decide));have Hc:=Ya (HcF.out c7);have n3:decide ((s.size:Int)<3)=false:=decide_eq_false (by omega);have n4:decide (s.size<3)=false:=decide_eq_false (by omega);have n5:(3:Int)<=(s.size:Int):=by omega
        have f8:(s.toList==[114,116,56])=false:=Zhu Z45 (Zd2 c7 (S.kRt 8) (by unfold S.seven;simp));have f9:(s.toList==[114,116,57])=false:=Zhu Z2m (Zd2 c7 (S.kRt 9) (by unfold S.seven;simp));have f10:(s.toList==[114,116,49,48])=false:=Zhu Zrg (Zd2 c7 (S.kRt 10) (by unfold S.seven;simp));have f11:(s.toList==[114,116,49,49])=false:=Zhu Zoi (Zd2 c7 (S.kRt 11) (by unfold S.seven;simp));have f12:(s.toList==[114,116,49,50])=false:=Zhu Zk3 (Zd2 c7 (S.kRt 12) (by unfold S.seven;simp));have f13:(s.toList==[114,116,49,51])=false:=Zhu Zjl (Zd2 c7 (S.kRt 13) (by unfold S.seven;simp));have f14:(s.toList==[114,116,49,52])=false:=Zhu Zhv (Zd2 c7 (S.kRt 14) (by unfold S.seven;simp));clear c7 hmem;go_wp2_with fail
        go_roundw
        case rel=>exact ⟨i+1,sv,_,by omega,by go_num,rfl,Hc,by omega,rfl⟩
        case measure=>simp [intOf] <;> omega
    ·have hie:i=q0:=by omega
     subst hie;have hs7:sv=7:=by
      have h:=hsv.out;rw [Ybc (by rw [<- Hq0.out];exact Nat.le_refl _),HP3.out] at h;exact h
     subst hs7;have d2:decide ((i:Int)<(i:Int))=false:=by simp
     have hc1:w3.cell? ⟨g1,1,none⟩=some (.slice (some ⟨bi1,off1,none⟩) n0 ci1):=by rw [Hn0.out];exact (HB23.out.cell (p:=⟨g1,1,none⟩) hg1lt2).trans Hcell1'.out
     have hbl1:bi1<w2.heap.size:=by omega
     have hl1:w3.cell? ⟨bi1,off1+6,none⟩=some (.string s0):=by rw [Hs0.out];exact (HB23.out.cell (p:=⟨bi1,off1+6,none⟩) hbl1).trans Hitem1'.out
     have hfz:w3.frozen? ⟨bi1,off1+6,none⟩=false:=by
      obtain ⟨cs,T,hb⟩:=Hbk.out.of (HB23.out.block bi1 hbl1);exact frozen_of_row w3 bi1 (off1+6) _ _ hb
     have hn00:0<n0:=by rw [Hn0.out];exact Hp0.out
     have e1:((n0:Int)==0)=false:=beq_eq_false_iff_ne.2 (by omega);have e2:(n0==0)=false:=beq_eq_false_iff_ne.2 (by omega);have e3:(0:Int)<(n0:Int):=by omega
     have hg1s:g1<w3.heap.size:=by omega
     have hbi1s:bi1<w3.heap.size:=by omega
     have hc2:w3.cell? ⟨g2,1,none⟩=some (.slice (some ⟨bi2,off2,none⟩) n0 ci2):=by rw [Hn0.out];exact (HB23.out.cell (p:=⟨g2,1,none⟩) Hg2b.out).trans Hcell2.out
     have hl2:w3.cell? ⟨bi2,off2+6,none⟩=some (.string s0):=by rw [Hs0.out];exact (HB23.out.cell (p:=⟨bi2,off2+6,none⟩) Hbi2.out).trans Hitem2.out.c6
     have hne1:g2≠bi1:=by have:=Hg2a.out;omega
     have hne2:bi2≠bi1:=by have:=Hnew.out;omega
     have hg2s:g2<w3.heap.size:=by have:=Hg2b.out;omega
     have hbi2s:bi2<w3.heap.size:=by have:=Hbi2.out;omega
     have e4:(s0.toList==[120])=false:=Zhu (t:=⟨#[120]⟩) rfl (by rw [Hs0.out];exact Hy0.out);clear hlt hi hsv hsb;go_wp2_with fail
     have hbx:Below w0.heap.size w0 ((w3.drewN n).setCell ⟨bi1,off1+6,none⟩ (.string ⟨#[120]⟩)):=(below_drewN HB3.out n).setCell Hlo.out _;refine (Zwf _ (HL.out.on hbx)).mono ?_;rintro e w9 ⟨rfl,hb9⟩;have HB9:=Ya (hbx.trans (hb9.mono hbx.size));clear hbx hb9;go_wp2_with fail
     go_ret
     exact ⟨rfl,HB9.out⟩
end Go.Proofs.YtfhiobkkdcdmiaaGreatDoor
