/- Parts. -/
import Derived.Test.YtcjhmiijbojgeaaGreatDoorZR6C
import Derived.Test.YtcjhmiijbojgeaaGreatDoorZR5A
import Derived.Test.YtcjhmiijbojgeaaGreatDoorZVSyr
import Derived.Lib.ConvBytes
import Derived.Deep.OwnRows
import Derived.BigQuiet
import Derived.BigRegion
set_option linter.all false
set_option maxHeartbeats 4000000
open Go.Lib renaming hid->Ya
open List renaming length_append->Yd,getElem?_eq_getElem->Ye,getD_eq_getElem?_getD->Yh,getElem?_append_left->Yn,getElem?_append_right->Yo,length_take->Yaa,take_zero->Yaj,take_add_one->Yan,take_length->Yap,append_nil->Yax,drop_zero->Ya0,drop_eq_getElem_cons->Ya4
open Go.Value renaming oneCell'->Yt,int->Yu
open Int renaming toNat_natCast->Ya7
namespace Go.Proofs.YtcjhmiijbojgeaaGreatDoor
open S Go.Proofs.Tryz Go.RowKit
set_option maxRecDepth 100000
theorem Znr {l:List Int}{k:Nat}(h:k<l.length):l.drop k=l[k]::l.drop (k+1):=Ya4 h
def S.ae (l:List Int)(k:Nat)(cs:List Int):Prop:=codesU l=match codesU (l.drop k) with
 | some r=>some (cs++r)
 | none=>none
theorem Zpg (l:List Int):ae l 0 []:=by
 unfold ae;rw[Ya0]
 split
 .rename_i r hr;rw[hr];rfl
 .rename_i hr;exact hr
theorem Zwf {l cs:List Int}{k j:Nat}{c:Int}(d:k<l.length)(hg:getU (l.drop k)=some (c,j))(h:ae l k cs):ae l (k+j) (cs++[c]):=by
 unfold ae at h⊢;rw[h];have e:codesU (l.drop k)=match codesU (l.drop (k+j)) with
  | some r=>some (c::r)
  | none=>none:=by
  have a:=Znr d;rw[a] at hg;rw[a,Zi6,hg,<- a];simp only[List.drop_drop]
  cases codesU (List.drop (k+j) l) <;> rfl
 rw[e]
 cases codesU (l.drop (k+j)) with
 | none=>rfl
 | some r=>simp
theorem Zwg {l cs:List Int}{k:Nat}(c:k<l.length)(hg:getU (l.drop k)=none)(h:ae l k cs):codesU l=none:=by
 unfold ae at h;have a:=Znr c;rw[a] at hg;rw[h,a,Zi6,hg]
theorem Zwh {l cs:List Int}{k:Nat}(a:l.length<=k)(h:ae l k cs):codesU l=some cs:=by
 unfold ae at h;rw[List.drop_eq_nil_of_le a] at h;rw[h]
 show some (cs++[])=_
 rw[Yax]
structure CharX (xs:List Value)(cs:List Int):Prop where
 len:xs.length=cs.length*2
 at_:∀i,i<cs.length->xs[i*2]?=some (.int .i64 (cs.getD i 0))
theorem CharX.snoc {xs:List Value}{cs:List Int}(h:CharX xs cs)(c:Int)(p:Value):CharX (xs++[.int .i64 c,p]) (cs++[c]):=by
 have a:=h.len;refine⟨by rw[Yd,Yd,a];simp;omega,λ i hi=>?_⟩;rw[Yd,List.length_cons,List.length_nil] at hi;by_cases q:i<cs.length
 .rw[Yn (by omega),h.at_ i q,Yh,Yh,Yn q]
 .have e:i=cs.length:=by omega
  subst e;rw[Yo (by omega),show cs.length*2-xs.length=0 by omega,Yh,Yo (Nat.le_refl _),Nat.sub_self];rfl
def Z2u (l:List Int)(w:World)(e:Ending)(w':World):Prop :=
 Below w.heap.size w w'/\match codesU l with
  | some cs=>∃A m c xs,e=.returned (.tuple #[.slice A m c,.int .i64 0,.int .i64 0])/\m=cs.length/\w'.ownsRow w.heap.size 105 2 (.slice A m c) m xs/\CharX xs cs
  | none=>∃p:Int,e=.returned (.tuple #[.slice none 0 0,.int .i64 4,.int .i64 p])
theorem Zsi:(prog.info? 105).map (λ i=>(i.zero,i.size,i.bytes))=some (some (.agg #[.int .i64 0,.int .i64 0]),2,16):=by kernel_rfl
theorem Z53 (b off n cap:Nat)(l:List Int)(K:n=l.length)(u:n<=cap)(hl:n<=100000)(w:World)(h:OctW w w.heap.size b off l) :
 Calls prog 48 #[.slice (some ⟨b,off,none⟩) n cap] w (Z2u l w):=by
 have H:=Ya h;have N:=Ya K;have HG:=Ya (λ(k:Nat) (U:k<n) (W:World) (R:Below w.heap.size w W)=>Z52 b off n cap k l K u (by omega) U W ⟨Nat.lt_of_lt_of_le h.lt R.size,h.oct,(h.below R).at_⟩);clear h K;go_enter func48,ntmps48
 go_wp2_with fail
 go_loopw [5,6] (λ v5 E wr=>∃(k:Nat)(A:Option Addr)(m c:Nat)(cs:List Int)(xs:List Value),k<=n/\m<=k/\E=.int .i64 k/\v5=.slice A m c/\Hid (m=cs.length)/\Hid (wr.ownsRow w.heap.size 105 2 (.slice A m c) m xs)/\Hid (CharX xs cs)/\Hid (ae l k cs)/\Hid (Below w.heap.size w wr)) (λ _ E _=>n-(intOf E).toNat)
 case atStart=>exact⟨0,none,0,0,[],[],Nat.zero_le _,Nat.le_refl _,rfl,rfl,Ya rfl,Ya ⟨rfl,.inl ⟨rfl,rfl⟩⟩,Ya ⟨rfl,λ i hi=>by simp at hi⟩,Ya (Zpg l),Ya (Below.refl _ _)⟩
 case round =>
  obtain⟨k,A,m,c,cs,xs,U,a0,rfl,rfl,T,M,Q,O,o⟩:=hrel;by_cases x:k<n
  .have d1:decide ((k:Int)<(n:Int))=true:=decide_eq_true (by omega)
   have z:k<l.length:=by rw[<- N.out];exact x
   have a:=HG.out k x wr o.out;unfold Zpe at a
   cases hg:getU (l.drop k) with
   | none =>
    rw[hg] at a;have g:=Ya a;have B:=Ya (Zwg z hg O.out);clear a;go_wp2_with fail
    refine g.out.mono ?_;rintro e w1 ⟨rfl,d⟩;have f:=Ya (o.out.trans (d.mono o.out.size));clear d;go_wp2_with fail
    refine bodyPost_ret (v:=.tuple #[.slice none 0 0,.int .i64 4,.int .i64 k]) (by simp[results,results48,go_sem]) rfl ?_;refine⟨f.out,?_⟩;rw[B.out];exact⟨_,rfl⟩
   | some y =>
    obtain⟨ch,j⟩:=y;rw[hg] at a;have g:=Ya a;obtain⟨Z,Y,I,-,-⟩:=Zfx hg;rw[List.length_drop,<- N.out] at I;have r:=Ya (Zwf z hg O.out);clear a hg;have e1:IntKind.i64.wrap ((k:Int)+j)=((k+j:Nat):Int):=by rw[IntWalk.i64_in _ ⟨by omega,by omega⟩];omega
    go_wp2_with fail
    refine g.out.mono ?_;rintro e w1 ⟨rfl,d⟩;have f:=Ya (o.out.trans (d.mono o.out.size));have C:=Ya (Zc M.out d);clear d M o;have G:=f.out.size;go_wp2_with (at_builtin;refine Zl rfl (.tmp 24) (.tmp 28) _ rfl w.heap.size 105 Zsi underlying101 rfl (by decide) #[.int .i64 ch,.int .i64 k] _ _ _ rfl C.out rfl rfl rfl (by simp[Yt]) (by simp only[maxLen];omega) (by omega) G ?_;intro v' w2 q D t s;obtain⟨V,c2,rfl⟩:=Za q;have J:=Ya q;have L:=Ya (f.out.trans t);clear q D t s C f)
    go_roundw
    case rel=>exact⟨k+j,V,m+1,c2,cs++[ch],_,by omega,by omega,by go_num,rfl,Ya (by rw[Yd,<- T.out];rfl),J,Ya (Q.out.snoc ch _),r,L⟩
    case measure=>simp[intOf] <;> omega
  .have hke:k=n:=by omega
   have d1:decide ((k:Int)<(n:Int))=false:=decide_eq_false (by omega);have X:=Ya (Zwh (by rw[<- N.out];omega) O.out);go_wp2_with fail
   refine bodyPost_ret (v:=.tuple #[.slice A m c,.int .i64 0,.int .i64 0]) (by simp[results,results48,go_sem]) rfl ?_;refine⟨o.out,?_⟩;rw[X.out];exact⟨A,m,c,xs,rfl,T.out,M.out,Q.out⟩
def S.octs (s:ByteArray):List Int:=s.data.toList.map λ u=>(u.toNat:Int)
theorem Zdl (s:ByteArray):(octs s).length=s.size:=by unfold octs;simp
theorem Z2v (s:ByteArray):∀x∈octs s,0<=x/\x<=255:=λ x a=>by
 unfold octs at a;obtain⟨u,_,rfl⟩:=List.mem_map.1 a;have:=u.toNat_lt;omega
theorem Zy7 {a b:ByteArray}(h:octs a=octs b):a=b:=by
 refine ByteArray.ext (Array.toList_inj.1 ?_);have c:∀l:List UInt8,(l.map λ u=>(u.toNat:Int)).map (λ x=>UInt8.ofNat x.toNat)=l:=λ l=>by
  rw[List.map_map]
  conv=>rhs;rw[<- List.map_id l]
  refine List.map_congr_left λ u hu=>?_
  show UInt8.ofNat ((u.toNat:Int)).toNat=u
  simp
 have d:=congrArg (List.map λ x:Int=>UInt8.ofNat x.toNat) h;unfold octs at d
 rwa[c,c] at d
theorem Zns (w:World)(e:TypeId)(s:ByteArray):Below w.heap.size w (Lib.bytesWorld w e s):=by
 refine⟨?_,?_,?_,by rw[Lib.bytesWorld_size];omega,λ k a=>Lib.bytesWorld_at_old w e s k a⟩
 all_goals rfl
theorem Zsj (w:World)(e:TypeId)(s:ByteArray):OctW (Lib.bytesWorld w e s) (Lib.bytesWorld w e s).heap.size w.heap.size 0 (octs s):=by
 refine⟨by rw[Lib.bytesWorld_size];omega,Z2v s,λ j a=>?_⟩;rw[Zdl] at a;rw[Nat.zero_add,Lib.bytesWorld_cell w e s j a];unfold octs;have c:j<s.data.toList.length:=by simpa using a
 rw[Yh,Yh,List.getElem?_map,Ye c];rfl
theorem Zwi {w:World}{B:Nat}{T:TypeId}{z:Nat}{v:Value}{n:Nat}{xs ys:List Value}(h:w.ownsRow B T z v n xs)(e:xs=ys):w.ownsRow B T z v n ys:=e ▸ h
theorem Zy8 {α:Type}{l:List α}{k:Nat}(f:α->Value)(a:k<l.length):(l.take k).map f++[f l[k]]=(l.take (k+1)).map f:=by
 rw[Yan,Ye a,List.map_append];rfl
theorem Zy9 {cs:List Int}{k:Nat}{u:Int}(a:k<cs.length)(c:u=cs.getD k 0):(cs.take k).map (Yu .i64)++[Yu .i64 u]=(cs.take (k+1)).map (Yu .i64):=by
 have e:u=cs[k]:=by rw[c,Yh,Ye a];rfl
 rw[e];exact Zy8 _ a
def Zfy (l:List Int)(w:World)(e:Ending)(w':World):Prop :=
 Below w.heap.size w w'/\match codesU l with
  | some cs=>∃A m c,e=.returned (.tuple #[.slice A m c,.int .i64 0])/\m=cs.length/\w'.ownsRow w.heap.size 3 1 (.slice A m c) m (cs.map (Yu .i64))
  | none=>e=.returned (.tuple #[.slice none 0 0,.int .i64 4])
theorem Zwj:(prog.info? 3).map (λ i=>(i.zero,i.size,i.bytes))=some (some (.int .i64 0),1,8):=by kernel_rfl
theorem Zlw (s:ByteArray)(hs:s.size<=100000)(w:World):Calls prog 33 #[.string s] w (Zfy (octs s) w):=by
 have D:=Lib.run_convert_string_bytes (P:=prog) w 9 52 5 s underlying9 underlying52 underlying5;have j:=Zns w 5 s;have n:=Z53 w.heap.size 0 s.size (grownCap w s.size 0 5) (octs s) (Zdl s).symm (grownCap_ge w _ _ _) hs (Lib.bytesWorld w 5 s) (Zsj w _ s);obtain⟨wb,G⟩:=Yx (Lib.bytesWorld w 5 s);rw[<- G] at D j n;have J:=Ya j;have y:=Ya n;have E:=Ya (Zdl s);have hz:=j.size;clear G j n;obtain⟨l,Z⟩:=Yx (octs s);rw[<- Z] at y E⊢;clear Z;generalize grownCap w s.size 0 5=cap at *;go_enter func33,ntmps33
 go_wp2_with fail
 refine y.out.mono ?_;rintro e w1 ⟨C,a⟩;have i:=Ya (J.out.trans (C.mono hz));clear C D
 cases hc:codesU l with
 | none =>
  rw[hc] at a;obtain⟨p,rfl⟩:=a;have V:=Ya hc;clear hc;go_wp2_with fail
  refine bodyPost_ret (v:=.tuple #[.slice none 0 0,.int .i64 4]) (by simp[results,results33,go_sem]) rfl ?_;refine⟨i.out,?_⟩;rw[V.out]
 | some cs =>
  rw[hc] at a;obtain⟨A,m,c,xs,rfl,hm,Y,q⟩:=a;have N:cs.length<=100000:=by
   have:=(Zbk _ _ _ hc).2.2;rw[E.out] at this;omega
  have V:=Ya hc;have I:=Ya hm;have HR:=Ya (Zap Y);have X:=Ya q;rw[<- hm] at N;clear hc hm Y q;go_wp2_with fail
  go_loopw [7,8] (λ v7 M wr=>∃(k:Nat)(B:Option Addr)(d:Nat),k<=m/\M=.int .i64 k/\v7=.slice B k d/\Hid (wr.ownsRow w1.heap.size 3 1 (.slice B k d) k ((cs.take k).map (Yu .i64)))/\Hid (Below w1.heap.size w1 wr)) (λ _ M _=>m-(intOf M).toNat)
  case atStart=>exact⟨0,none,0,Nat.zero_le _,rfl,rfl,Ya ⟨rfl,.inl ⟨rfl,rfl⟩⟩,Ya (Below.refl _ _)⟩
  case round =>
   obtain⟨k,B,d,hk,rfl,rfl,T,r⟩:=hrel;by_cases O:k<m
   .have d1:decide ((k:Int)<(m:Int))=true:=decide_eq_true (by omega)
    have i3:(k:Int)<(m:Int):=by omega
    have x:k<cs.length:=by rw[<- I.out];exact O
    obtain⟨g,off,rfl,hg,f⟩:=HR.out (by rw[X.out.len];omega);have q:=f (k*2) _ (X.out.at_ k x);obtain⟨u,U⟩:=Yx (cs.getD k 0);rw[<- U] at q;have HU:=Ya U;have a0:wr.cell? ⟨g,off+k*2,none⟩=some (.int .i64 u):=(r.out.cell (p:=⟨g,off+k*2,none⟩) hg).trans q;have e2:IntKind.i64.wrap ((k:Int)+1)=(k:Int)+1:=IntWalk.i64_in _ ⟨by omega,by omega⟩;have L:=r.out.size;clear f q U;go_wp2_with (at_builtin;refine Zl rfl (.tmp 25) (.tmp 31) _ rfl w1.heap.size 3 Zwj underlying69 rfl (by decide) #[.int .i64 u] _ _ _ rfl T.out rfl rfl rfl (by simp[Yt]) (by simp only[maxLen];omega) (by omega) L ?_;intro v' w2 o K z t;obtain⟨W,c2,rfl⟩:=Za o;have Q:Hid (w2.ownsRow w1.heap.size 3 1 (.slice W (k+1) c2) (k+1) ((cs.take (k+1)).map (Yu .i64))):=Ya (Zwi o (Zy9 x HU.out));have R:=Ya (r.out.trans z);clear o K z t T r)
    go_roundw
    case rel=>exact⟨k+1,W,c2,by omega,by go_num,rfl,Q,R⟩
    case measure=>simp[intOf] <;> omega
   .have hke:k=m:=by omega
    subst hke;have d1:decide ((k:Int)<(k:Int))=false:=by simp
    go_wp2_with fail
    refine bodyPost_ret (v:=.tuple #[.slice B k d,.int .i64 0]) (by simp[results,results33,go_sem]) rfl ?_;refine⟨i.out.trans (r.out.mono i.out.size),?_⟩;rw[V.out];refine⟨B,k,d,rfl,I.out,?_⟩;have h:=Zo T.out i.out.size;rw[I.out,Yap] at h;rw[I.out];exact h
theorem Zza {b:Int}(l:List Int)(q:Nat):dvB b (l.drop q)=l.getD q 0+b*dvB b (l.drop (q+1)):=by
 by_cases h:q<l.length
 .rw[Ya4 h,Yh,Ye h]
  rfl
 .rw[List.drop_eq_nil_of_le (by omega),List.drop_eq_nil_of_le (by omega),Yh,List.getElem?_eq_none (by omega)]
  show(0:Int)=0+b*0
  simp
theorem Ints.take_ {w:World}{B:Nat}{A:Option Addr}{xs:List Int}(h:Ints w B A xs)(m:Nat):Ints w B A (xs.take m):=λ hp=>by
 obtain⟨b,off,e,f,d⟩:=h (by rw[Yaa] at hp;omega);refine⟨b,off,e,f,λ i x c=>d i x ?_⟩;have a:=(List.getElem?_eq_some_iff.1 c).1;rw[Yaa] at a;rw[List.getElem?_take_of_lt (by omega)] at c;exact c
theorem Z54 {b:Int}(c:2<=b){l:List Int}{n:Int}(h:Cn b l n)(a:0<l.length):1<=n:=by
 have h1:=Z6p c h a;have h2:(0:Int)<b^(l.length-1):=Int.pow_pos (by omega);omega
theorem Z55 {b:Int}{l:List Int}{n:Int}(h:Cn b l n)(a:l.length=0):n=0:=by
 rw[<- h.2.2,List.length_eq_zero_iff.1 a];rfl
section
section
variable {w:World}{F:Nat->Prop}{lo b p:Nat}{H half:Int}{P:List (ByteArray×Int)}{m:Mach}
theorem Zgl (i:Int)(h:KAt w lo b p F H half P m):Calls prog 13 #[.pointer (some ⟨b,0,none⟩),.int .i64 i] w λ e w'=>e=.returned (.int .u32 (m.memV i))/\Below w.heap.size w w':=by
 refine(Z4j i h).mono ?_;rintro e w' ⟨rfl,n,rfl⟩;exact⟨rfl,below_drewN (Below.refl _ _) n⟩
end
end
section
attribute [local irreducible] midV
def S.vI (F:List Int)(heap:Int):Img:=wImgV true [] [] F ((wLV [] [] F).length+heap)
def S.vM (F:List Int)(heap:Int)(inp:List Int):Mach:=wM (wLV [] [] F) heap inp
def S.vE (F:List Int)(heap:Int)(m:Mach)(op:Int)(N:Nat):Int:=ax (callP (vI F heap) m (kRt op) N) ((vI F heap).lab kMapped+1)
section
variable {F:List Int}{heap:Int}{inp:List Int}(hw:be [] [] F heap inp)(hh:100<=heap)
include hw hh
theorem Zzb {M:Mach}(f:M=((vM F heap inp).setV 4 8).setV 5 22){N:Nat}(g:4000<=N) :
 vE F heap M 27 N=0/\(callP (vI F heap) M (kRt 27) N).rd 4=4*(wLV [] [] F).length+1/\(callP (vI F heap) M (kRt 27) N).mv (wLV [] [] F).length=71/\(callP (vI F heap) M (kRt 27) N).mv ((wLV [] [] F).length+1)=22/\(callP (vI F heap) M (kRt 27) N).mv ((wLV [] [] F).length+2)=22:=by
 have c:=hw.ok true;have e:=hw.len;have w1:=Zd7 c hw.wd (i:=4) (v:=8) (by decide) (λ h=>absurd h (by decide)) (by decide);have d:=Zd7 c w1 (i:=5) (v:=22) (by decide) (λ h=>absurd h (by decide)) (by decide);have a:M=((wM (wLV [] [] F) heap inp).setV 4 8).setV 5 22:=f;rw[<- a] at d;have rd:∀j,M.rd j=if j=5 then 22 else if j=4 then 8 else(wM (wLV [] [] F) heap inp).rd j:=λ j=>by
  rw[a,Zby w1.ok (by decide) (by decide),Zby hw.wd.ok (by decide) (by decide)]
 exact Z2z c d (H:=(wLV [] [] F).length) (half:=heap/2) (by rw[rd];rfl) (by rw[rd];rfl) ((rd 26).trans (hw.fst.rd 26)) ((rd 27).trans (hw.fst.rd 27)) (by
  rw[a,Zcn (by decide) (by decide),Zcn (by decide) (by decide)];exact hw.fst.low 7 (by decide) (by decide)) (by omega) (by omega) (by omega) g
end
end
def S.bk (m0 m:Mach)(k:Nat):Mach:={ m0 with mem:=m.mem.take k++m0.mem.drop k }
def S.bg (m0 m:Mach)(k:Nat):Mach:={ m0 with mem:=m.mem,reg:=m.reg.take k++m0.reg.drop k }
theorem Zqo {l l0:List Int}{k:Nat}(hl:l0.length=l.length)(c:k<l.length):(l.take k++l0.drop k).set k l[k]=l.take (k+1)++l0.drop (k+1):=by
 have a:(l.take k).length=k:=by rw[Yaa];omega
 rw[List.set_append_right _ _ (by omega),a,Nat.sub_self,Ya4 (by omega),List.set_cons_zero,Yan,Ye c,List.append_assoc];rfl
theorem Zzc (m0 m:Mach):bk m0 m 0=m0:=by
 unfold bk;rw[Yaj,Ya0];rfl
theorem Zzd {m0 m:Mach}(e:m0.mem.length=m.mem.length){k:Nat}(a:k<m.mem.length):(bk m0 m k).putV k (m.memV k)=bk m0 m (k+1):=by
 have c:(bk m0 m k).mem.length=m.mem.length:=by
  show(m.mem.take k++m0.mem.drop k).length=_
  rw[Yd,Yaa,List.length_drop];omega
 have d:m.memV k=m.mem[k]:=by
  unfold Mach.memV;rw[if_pos ⟨by omega,by omega⟩,Ya7,Yh,Ye a];rfl
 unfold Mach.putV;rw[if_pos ⟨by omega,by omega⟩,d,Ya7];unfold bk;rw[Zqo e a]
theorem Z2w {m0 m:Mach}(hl:m0.mem.length=m.mem.length):bk m0 m m.mem.length=bg m0 m 0:=by
 unfold bk bg;rw[Yap,List.drop_eq_nil_of_le (by omega),Yax,Yaj,Ya0];rfl
theorem Zze {m0 m:Mach}(h0:m0.Ok)(h:m.Ok){k:Nat}(hk:k<32):(bg m0 m k).setV k (m.regV k)=bg m0 m (k+1):=by
 have hr:=h.regs;have j:=h0.regs;have f:m.regV k=m.reg[k]:=by
  unfold Mach.regV;rw[if_pos ⟨by omega,by omega⟩,Ya7,Yh,Ye (by omega)];rfl
 have g:=Zqo (l:=m.reg) (l0:=m0.reg) (k:=k) (by omega) (by omega);by_cases q:k=0
 .subst q
  have z:m.reg[0]=m0.reg[0]'(by omega):=by
   have c:=h.zero;have a:=h0.zero;rw[Yh,Ye (by omega)] at c a;exact c.trans a.symm
  have e:(bg m0 m 0).setV ((0:Nat):Int) (m.regV ((0:Nat):Int))=bg m0 m 0:=by
   unfold Mach.setV Mach.put;rw[if_pos (by decide),if_pos (by decide)]
  rw[e];unfold bg;rw[Yaj,Ya0,List.nil_append,Yan,Ye (by omega),Yaj,z];have d:m0.reg=m0.reg[0]'(by omega)::m0.reg.drop 1:=by
   have:=Ya4 (l:=m0.reg) (i:=0) (by omega)
   rwa[Ya0] at this
  conv=>lhs;rw[d]
  rfl
 .rw[Zai (by omega) (by omega),f,Ya7]
  unfold bg;rw[g]
theorem Z2x {m0 m:Mach}(h0:m0.Ok)(h:m.Ok):bg m0 m 32=againM m0 m:=by
 unfold bg againM;have hr:=h.regs;have a:=h0.regs;rw[List.take_of_length_le (by omega),List.drop_eq_nil_of_le (by omega),Yax]
