/- Parts. -/
import Derived.Test.YtldbnjajjfgipaaGreatDoorZR6C
import Derived.Test.YtldbnjajjfgipaaGreatDoorZKWrl
import Derived.Test.YtldbnjajjfgipaaGreatDoorZR5A
import Derived.Lib.ConvBytes
import Derived.Deep.OwnRows
import Derived.BigQuiet
import Derived.BigRegion
set_option linter.all false
set_option maxHeartbeats 4000000
open Go.Lib renaming hid->Ya,cell_of_heap->Yb
open List renaming length_append->Yc,getElem?_eq_getElem->Ye,getElem?_eq_some_iff->Yg,getD_eq_getElem?_getD->Yh,length_cons->Yk,getElem?_append_left->Ym,getElem?_append_right->Yn,mem_cons->Yu,length_map->Y3,length_take->Y9,getElem?_map->Yac,length_nil->Yae,take_length->Yal,take_add_one->Yar,take_succ_cons->Yaw,take_of_length_le->Yax,take_zero->Yaz,drop_succ_cons->Ya1,map_append->Ya3,getElem_mem->Ya7,drop_eq_getElem_cons->Ya8,drop_zero->Ybc
open Nat renaming le_refl->Yd,lt_of_lt_of_le->Yr,le_trans->Yaa,lt_succ_self->Yav,le_of_lt->Yay,zero_le->Ya2,le_succ->Yc9
open Go.RowKit.Below renaming refl->Yj
open Go.IntWalk renaming i64_in->Yp,u32_in->Ybo
open Go.Value renaming int->Ys,oneCell'->Yt
open Array renaming getElem?_eq_some_iff->Yv
open Int renaming eq_ofNat_of_zero_le->Ybi,pow_pos->Ycs
namespace Go.Proofs.YtldbnjajjfgipaaGreatDoor
open S Go.Proofs.Tryz Go.RowKit
set_option maxRecDepth 100000
theorem Zmg {l:List Int}{k:Nat}(h:k<l.length):l.drop k=l[k]::l.drop (k+1):=Ya8 h
def S.ah (l:List Int)(k:Nat)(cs:List Int):Prop:=codesU l=match codesU (l.drop k) with
 | some r=>some (cs++r)
 | none=>none
theorem Znt (l:List Int):ah l 0 []:=by
 unfold ah;rw[Ybc]
 split
 .rename_i r hr;rw[hr];rfl
 .rename_i hr;exact hr
theorem Zt8 {l cs:List Int}{k j:Nat}{c:Int}(hk:k<l.length)(hg:getU (l.drop k)=some (c,j))(h:ah l k cs):ah l (k+j) (cs++[c]):=by
 unfold ah at h⊢;rw[h];have e:codesU (l.drop k)=match codesU (l.drop (k+j)) with
  | some r=>some (c::r)
  | none=>none:=by
  have h2:=Zmg hk;rw[h2] at hg;rw[h2,Zhb,hg,<- h2];simp only[List.drop_drop]
  cases codesU (List.drop (k+j) l) <;> rfl
 rw[e]
 cases codesU (l.drop (k+j)) with
 | none=>rfl
 | some r=>simp
theorem Zt9 {l cs:List Int}{k:Nat}(hk:k<l.length)(hg:getU (l.drop k)=none)(h:ah l k cs):codesU l=none:=by
 unfold ah at h;have h2:=Zmg hk;rw[h2] at hg;rw[h,h2,Zhb,hg]
theorem Zua {l cs:List Int}{k:Nat}(hk:l.length<=k)(h:ah l k cs):codesU l=some cs:=by
 unfold ah at h;rw[List.drop_eq_nil_of_le hk] at h;rw[h]
 show some (cs++[])=_
 rw[List.append_nil]
structure CharX (xs:List Value)(cs:List Int):Prop where
 len:xs.length=cs.length*2
 at_:∀i,i<cs.length->xs[i*2]?=some (.int .i64 (cs.getD i 0))
theorem CharX.snoc {xs:List Value}{cs:List Int}(h:CharX xs cs)(c:Int)(p:Value):CharX (xs++[.int .i64 c,p]) (cs++[c]):=by
 have hl:=h.len;refine⟨by rw[Yc,Yc,hl];simp;omega,λ i hi=>?_⟩;rw[Yc,Yk,Yae] at hi;by_cases q:i<cs.length
 .rw[Ym (by omega),h.at_ i q,Yh,Yh,Ym q]
 .have e:i=cs.length:=by omega
  subst e;rw[Yn (by omega),show cs.length*2-xs.length=0 by omega,Yh,Yn (Yd _),Nat.sub_self];rfl
def Zzp (l:List Int)(w:World)(e:Ending)(w':World):Prop :=
 Below w.heap.size w w'/\match codesU l with
  | some cs=>∃A m c xs,e=.returned (.tuple #[.slice A m c,.int .i64 0,.int .i64 0])/\m=cs.length/\w'.ownsRow w.heap.size 179 2 (.slice A m c) m xs/\CharX xs cs
  | none=>∃p:Int,e=.returned (.tuple #[.slice none 0 0,.int .i64 4,.int .i64 p])
theorem Zqo:(prog.info? 179).map (λ i=>(i.zero,i.size,i.bytes))=some (some (.agg #[.int .i64 0,.int .i64 0]),2,16):=by kernel_rfl
theorem Z13 (b off n cap:Nat)(l:List Int)(hn:n=l.length)(hcap:n<=cap)(hl:n<=100000)(w:World)(h:OctW w w.heap.size b off l) :
 Calls prog 131 #[.slice (some ⟨b,off,none⟩) n cap] w (Zzp l w):=by
 have H:=Ya h;have HN:=Ya hn;have HG:=Ya (λ(k:Nat) (hk:k<n) (W:World) (hb:Below w.heap.size w W)=>Z1t b off n cap k l hn hcap (by omega) hk W ⟨Yr h.lt hb.size,h.oct,(h.below hb).at_⟩);clear h hn;go_enter func131,ntmps131
 go_wp2_with fail
 go_loopw [5,6] (λ v5 v6 wr=>∃(k:Nat)(A:Option Addr)(m c:Nat)(cs:List Int)(xs:List Value),k<=n/\m<=k/\v6=.int .i64 k/\v5=.slice A m c/\Hid (m=cs.length)/\Hid (wr.ownsRow w.heap.size 179 2 (.slice A m c) m xs)/\Hid (CharX xs cs)/\Hid (ah l k cs)/\Hid (Below w.heap.size w wr)) (λ _ v6 _=>n-(intOf v6).toNat)
 case atStart=>exact⟨0,none,0,0,[],[],Ya2 _,Yd _,rfl,rfl,Ya rfl,Ya ⟨rfl,.inl ⟨rfl,rfl⟩⟩,Ya ⟨rfl,λ i hi=>by simp at hi⟩,Ya (Znt l),Ya (Yj _ _)⟩
 case round =>
  obtain⟨k,A,m,c,cs,xs,hk,hmk,rfl,rfl,HM,HO,HX,HC,HB⟩:=hrel;by_cases hlt:k<n
  .have d1:decide ((k:Int)<(n:Int))=true:=decide_eq_true (by omega)
   have hkl:k<l.length:=by rw[<- HN.out];exact hlt
   have hg0:=HG.out k hlt wr HB.out;unfold Znn at hg0
   cases hg:getU (l.drop k) with
   | none =>
    rw[hg] at hg0;have HG0:=Ya hg0;have HBad:=Ya (Zt9 hkl hg HC.out);clear hg0;go_wp2_with fail
    refine HG0.out.mono ?_;rintro e w1 ⟨rfl,hb1⟩;have HB1:=Ya (HB.out.trans (hb1.mono HB.out.size));clear hb1;go_wp2_with fail
    refine bodyPost_ret (v:=.tuple #[.slice none 0 0,.int .i64 4,.int .i64 k]) (by simp[results,results131,go_sem]) rfl ?_;refine⟨HB1.out,?_⟩;rw[HBad.out];exact⟨_,rfl⟩
   | some y =>
    obtain⟨ch,j⟩:=y;rw[hg] at hg0;have HG0:=Ya hg0;obtain⟨gj1,gj4,gjl,-,-⟩:=Zeq hg;rw[List.length_drop,<- HN.out] at gjl;have HAdv:=Ya (Zt8 hkl hg HC.out);clear hg0 hg;have e1:IntKind.i64.wrap ((k:Int)+j)=((k+j:Nat):Int):=by rw[Yp _ ⟨by omega,by omega⟩];omega
    go_wp2_with fail
    refine HG0.out.mono ?_;rintro e w1 ⟨rfl,hb1⟩;have HB1:=Ya (HB.out.trans (hb1.mono HB.out.size));have HO1:=Ya (Zc HO.out hb1);clear hb1 HO HB;have hz1:=HB1.out.size;go_wp2_with (at_builtin;refine Zk rfl (.tmp 24) (.tmp 28) _ rfl w.heap.size 179 Zqo underlying175 rfl (by decide) #[.int .i64 ch,.int .i64 k] _ _ _ rfl HO1.out rfl rfl rfl (by simp[Yt]) (by simp only[maxLen];omega) (by omega) hz1 ?_;intro v' w2 ho2 hg2 hb2 hat2;obtain⟨A2,c2,rfl⟩:=Za ho2;have HO2:=Ya ho2;have HB2:=Ya (HB1.out.trans hb2);clear ho2 hg2 hb2 hat2 HO1 HB1)
    go_roundw
    case rel=>exact⟨k+j,A2,m+1,c2,cs++[ch],_,by omega,by omega,by go_num,rfl,Ya (by rw[Yc,<- HM.out];rfl),HO2,Ya (HX.out.snoc ch _),HAdv,HB2⟩
    case measure=>simp[intOf] <;> omega
  .have hke:k=n:=by omega
   have d1:decide ((k:Int)<(n:Int))=false:=decide_eq_false (by omega);have HE:=Ya (Zua (by rw[<- HN.out];omega) HC.out);go_wp2_with fail
   refine bodyPost_ret (v:=.tuple #[.slice A m c,.int .i64 0,.int .i64 0]) (by simp[results,results131,go_sem]) rfl ?_;refine⟨HB.out,?_⟩;rw[HE.out];exact⟨A,m,c,xs,rfl,HM.out,HO.out,HX.out⟩
def S.octs (s:ByteArray):List Int:=s.data.toList.map λ u=>(u.toNat:Int)
theorem Ze3 (s:ByteArray):(octs s).length=s.size:=by unfold octs;simp
theorem Zzq (s:ByteArray):∀x∈octs s,0<=x/\x<=255:=λ x hx=>by
 unfold octs at hx;obtain⟨u,_,rfl⟩:=List.mem_map.1 hx;have:=u.toNat_lt;omega
theorem Zmh (w:World)(e:TypeId)(s:ByteArray):Below w.heap.size w (Lib.bytesWorld w e s):=by
 refine⟨?_,?_,?_,by rw[Lib.bytesWorld_size];omega,λ k hk=>Lib.bytesWorld_at_old w e s k hk⟩
 all_goals rfl
theorem Zqp (w:World)(e:TypeId)(s:ByteArray):OctW (Lib.bytesWorld w e s) (Lib.bytesWorld w e s).heap.size w.heap.size 0 (octs s):=by
 refine⟨by rw[Lib.bytesWorld_size];omega,Zzq s,λ j hj=>?_⟩;rw[Ze3] at hj;rw[Nat.zero_add,Lib.bytesWorld_cell w e s j hj];unfold octs;have hl:j<s.data.toList.length:=by simpa using hj
 rw[Yh,Yh,Yac,Ye hl];rfl
def Zmi (l:List Int)(w:World)(e:Ending)(w':World):Prop :=
 Below w.heap.size w w'/\match codesU l with
  | some cs=>∃A m c,e=.returned (.tuple #[.slice A m c,.int .i64 0])/\m=cs.length/\w'.ownsRow w.heap.size 3 1 (.slice A m c) m (cs.map (Ys .i64))
  | none=>e=.returned (.tuple #[.slice none 0 0,.int .i64 4])
theorem Zub:(prog.info? 3).map (λ i=>(i.zero,i.size,i.bytes))=some (some (.int .i64 0),1,8):=by kernel_rfl
theorem Zwx (s:ByteArray)(hs:s.size<=100000)(w:World):Calls prog 68 #[.string s] w (Zmi (octs s) w):=by
 have hcv:=Lib.run_convert_string_bytes (P:=prog) w 9 46 5 s underlying9 underlying46 underlying5;have hbb:=Zmh w 5 s;have hal:=Z13 w.heap.size 0 s.size (grownCap w s.size 0 5) (octs s) (Ze3 s).symm (grownCap_ge w _ _ _) hs (Lib.bytesWorld w 5 s) (Zqp w _ s);obtain⟨wb,hwb⟩:=Yx (Lib.bytesWorld w 5 s);rw[<- hwb] at hcv hbb hal;have HBB:=Ya hbb;have HAL:=Ya hal;have HLn:=Ya (Ze3 s);have hz:=hbb.size;clear hwb hbb hal;obtain⟨l,hl⟩:=Yx (octs s);rw[<- hl] at HAL HLn⊢;clear hl;generalize grownCap w s.size 0 5=cap at *;go_enter func68,ntmps68
 go_wp2_with fail
 refine HAL.out.mono ?_;rintro e w1 ⟨hb1,hcase⟩;have HB1:=Ya (HBB.out.trans (hb1.mono hz));clear hb1 hcv
 cases hc:codesU l with
 | none =>
  rw[hc] at hcase;obtain⟨p,rfl⟩:=hcase;have HC:=Ya hc;clear hc;go_wp2_with fail
  refine bodyPost_ret (v:=.tuple #[.slice none 0 0,.int .i64 4]) (by simp[results,results68,go_sem]) rfl ?_;refine⟨HB1.out,?_⟩;rw[HC.out]
 | some cs =>
  rw[hc] at hcase;obtain⟨A,m,c,xs,rfl,hm,ho,hx⟩:=hcase;have hml:cs.length<=100000:=by
   have:=(Zc7 _ _ _ hc).2.2;rw[HLn.out] at this;omega
  have HC:=Ya hc;have HM:=Ya hm;have HR:=Ya (Zat ho);have HX:=Ya hx;rw[<- hm] at hml;clear hc hm ho hx;go_wp2_with fail
  go_loopw [7,8] (λ v7 v8 wr=>∃(k:Nat)(B:Option Addr)(d:Nat),k<=m/\v8=.int .i64 k/\v7=.slice B k d/\Hid (wr.ownsRow w1.heap.size 3 1 (.slice B k d) k ((cs.take k).map (Ys .i64)))/\Hid (Below w1.heap.size w1 wr)) (λ _ v8 _=>m-(intOf v8).toNat)
  case atStart=>exact⟨0,none,0,Ya2 _,rfl,rfl,Ya ⟨rfl,.inl ⟨rfl,rfl⟩⟩,Ya (Yj _ _)⟩
  case round =>
   obtain⟨k,B,d,hk,rfl,rfl,HO,HB⟩:=hrel;by_cases hlt:k<m
   .have d1:decide ((k:Int)<(m:Int))=true:=decide_eq_true (by omega)
    have i3:(k:Int)<(m:Int):=by omega
    have hkc:k<cs.length:=by rw[<- HM.out];exact hlt
    obtain⟨g,off,rfl,hg,hcell⟩:=HR.out (by rw[HX.out.len];omega);have hx:=hcell (k*2) _ (HX.out.at_ k hkc);obtain⟨u,hu⟩:=Yx (cs.getD k 0);rw[<- hu] at hx;have HU:=Ya hu;have hx1:wr.cell? ⟨g,off+k*2,none⟩=some (.int .i64 u):=(HB.out.cell (p:=⟨g,off+k*2,none⟩) hg).trans hx;have e2:IntKind.i64.wrap ((k:Int)+1)=(k:Int)+1:=Yp _ ⟨by omega,by omega⟩;have hzr:=HB.out.size;clear hcell hx hu
    go_wp2_with (
     at_builtin;refine Zk rfl (.tmp 25) (.tmp 31) _ rfl w1.heap.size 3 Zub underlying54 rfl (by decide) #[.int .i64 u] _ _ _ rfl HO.out rfl rfl rfl (by simp[Yt]) (by simp only[maxLen];omega) (by omega) hzr ?_;intro v' w2 ho2 hg2 hb2 hat2;obtain⟨A2,c2,rfl⟩:=Za ho2;have HO2:Hid (w2.ownsRow w1.heap.size 3 1 (.slice A2 (k+1) c2) (k+1) ((cs.take (k+1)).map (Ys .i64))):=Ya (by
       rw[Yar,Ye hkc,Ya3];have e:u=cs[k]:=by rw[HU.out,Yh,Ye hkc];rfl
       rw[e] at ho2;exact ho2)
     have HB2:=Ya (HB.out.trans hb2);clear ho2 hg2 hb2 hat2 HO HB)
    go_roundw
    case rel=>exact⟨k+1,A2,c2,by omega,by go_num,rfl,HO2,HB2⟩
    case measure=>simp[intOf] <;> omega
   .have hke:k=m:=by omega
    subst hke;have d1:decide ((k:Int)<(k:Int))=false:=by simp
    go_wp2_with fail
    refine bodyPost_ret (v:=.tuple #[.slice B k d,.int .i64 0]) (by simp[results,results68,go_sem]) rfl ?_;refine⟨HB1.out.trans (HB.out.mono HB1.out.size),?_⟩;rw[HC.out];refine⟨B,k,d,rfl,HM.out,?_⟩;have h:=Zn HO.out HB1.out.size;rw[HM.out,Yal] at h;rw[HM.out];exact h
section
attribute [local irreducible] midV
def S.ab (I:Img)(m:S.Mach)(name:ByteArray)(N:Nat):S.Mach:=((m.setV 31 (I.lab kMapped)).goV (I.lab name)).steps_ N
section
variable {gw sw F:List Int}{size:Int}
theorem Zh6 (hI:(aa true gw sw F size).Ok){m:S.Mach}(h:WdV gw sw F size m){name:ByteArray}(hn:name∈wTellsV){d:Int}{R:BO->Nat->Prop}(hd:d<=256)
 (hr:aj (aa true gw sw F size) name true (viewOf (m.setV 31 ((aa true gw sw F size).lab kMapped))) d ((aa true gw sw F size).lab kMapped) R) {N:Nat}
 (hk:∀o k,R o k->k+1<=N) (hl:∀t st k,¬R (.left t st) k) (h0:∀c st k,R (.halt c st) k->c≠0) :
 (ab (aa true gw sw F size) m name N).state=1 /\
 ((∃st' k,R (.ret st') k/\bt (aa true gw sw F size) (ab (aa true gw sw F size) m name N) st'/\(ab (aa true gw sw F size) m name N).place=(aa true gw sw F size).lab kMapped+1/\(ab (aa true gw sw F size) m name N).rd 28=1056/\(ab (aa true gw sw F size) m name N).out=st'.out)\/(∃st' k c,R (.halt c st') k/\(ab (aa true gw sw F size) m name N).code=c/\(ab (aa true gw sw F size) m name N).place≠(aa true gw sw F size).lab kMapped+1)):=by
 obtain⟨_,n1,n2⟩:=Zf6 hI hn;obtain⟨l1,l2,l3,l4,l5,l6,l7⟩:=Zdw hI;obtain⟨e1,e2⟩:=Zdf hI;have hsz2:=hI.size2;have hsz:(aa true gw sw F size).size=size:=rfl;have hset:=Zef hI h (i:=31) (v:=(aa true gw sw F size).lab kMapped) (by decide) (λ h=>absurd h (by decide)) (by omega);have hrun:(m.setV 31 ((aa true gw sw F size).lab kMapped)).state=0:=hset.run;have hgo:(m.setV 31 ((aa true gw sw F size).lab kMapped)).goV ((aa true gw sw F size).lab name)={ (m.setV 31 ((aa true gw sw F size).lab kMapped)) with place:=(aa true gw sw F size).lab name }:=by
  unfold S.Mach.goV;rw[if_neg (by rw[hrun];decide)]
 have hcall:ab (aa true gw sw F size) m name N=((m.setV 31 ((aa true gw sw F size).lab kMapped)).goV ((aa true gw sw F size).lab name)).steps_ N:=rfl;rw[hcall,hgo];clear hcall hgo;have r31:(m.setV 31 ((aa true gw sw F size).lab kMapped)).rd 31=(aa true gw sw F size).lab kMapped:=by
  rw[Zbh h.ok (by decide) (by decide),if_pos rfl]
 obtain⟨mm,hmm⟩:=Yx (m.setV 31 ((aa true gw sw F size).lab kMapped));rw[<- hmm] at hset hrun r31 hr⊢;have hon:On (aa true gw sw F size) { mm with place:=(aa true gw sw F size).lab name } (viewOf mm) ((aa true gw sw F size).lab name) :=
  ⟨placed hset.ok ⟨n1,by omega⟩,hset.run,hset.len,hset.code,rfl,λ _ _ _ _=>rfl,λ _ _ _=>rfl,rfl,rfl⟩
 obtain⟨o,k,hRo,hdone⟩:=hr (viewOf mm) 1056 (Mt.refl_ (viewOf mm)) hset.r28 r31 (by omega) (by omega) (Int.le_refl _) (by show 1056+d<=1312;omega);have hk3:=hk o k hRo;have x4:(aa true gw sw F size).xs[2+gw.length+sw.length+4]?=some (bW 0):=Z8 (Zk6 (k:=4));have x5:(aa true gw sw F size).xs[2+gw.length+sw.length+5]?=some ⟨1,⟨36,0,0,0,0⟩,bNo,0⟩:=Z8 (Zk6 (k:=5));have i0:(aa true gw sw F size).i0=2+gw.length+sw.length:=rfl;have i1:(aa true gw sw F size).i1=gw.length+sw.length+8+midV.length:=rfl;have n5:(aa true gw sw F size).adr (2+gw.length+sw.length+5)=(aa true gw sw F size).adr (2+gw.length+sw.length+4)+1:=Zw hI x4;obtain⟨I,hIe⟩:=Yx (aa true gw sw F size);rw[<- hIe] at hI hon l4 l6 n5 x4 x5 i0 i1 hdone n1 n2 hsz hsz2⊢;obtain⟨m1,hm1⟩:∃m1:S.Mach,m1={ mm with place:=I.lab name }:=⟨_,rfl⟩
 rw[<- hm1] at hon⊢;have more:∀(j:Nat),j<=N->(m1.steps_ j).state≠0->m1.steps_ N=m1.steps_ j:=λ j hj hst=>by
  obtain⟨x,hx⟩:∃x,N=j+x:=⟨N-j,by omega⟩
  rw[hx,Zbj,Zg5 hst]
 cases o with
 | ret st' =>
  obtain⟨V',g,hmt,h28,_⟩:=hdone;obtain⟨j,hj,hon2⟩:=g _ hon;have hz:V'.mem (I.lab kMapped)=0:=by
   rw[<- hon2.mem (I.lab kMapped) (by omega) (by omega)];have hw:(wordsAt I.xs I.F 0 (2+gw.length+sw.length+4))[0]?=some 0:=by
    unfold wordsAt;rw[x4]
    show(wordsOf (bW 0) _ _ _)[0]?=some 0
    rw[Zg0];rfl
   have:=hon2.code (2+gw.length+sw.length+4) (by omega) (by omega) 0 0 hw;rw[l6,Nat.add_zero,<- l4] at this;exact this
  have hb:backTo true V' (I.lab kMapped)=I.lab kMapped+1:=by
   unfold backTo;rw[if_pos rfl,hz];unfold u32m;omega
  rw[hb,show I.lab kMapped+1=I.adr (2+gw.length+sw.length+5) by omega] at hon2;obtain⟨hoff,hpl⟩:=Zyc hI (by omega) (by omega) x5 hon2;have e:m1.steps_ N=(m1.steps_ j).steps_ 1:=by
   rw[<- Zbj];refine more _ (by omega) ?_;rw[Zbj,hoff.end_]
   decide
  rw[e];exact⟨hoff.end_,.inl ⟨st',k,hRo,Zve hoff hmt,by rw[hpl];omega,by rw[hoff.reg 28 (by decide) (by decide) (by decide)];exact h28,hoff.out.trans hmt.out⟩⟩
 | halt c st' =>
  obtain⟨V',g,hmt⟩:=hdone;obtain⟨j,hj,hoff⟩:=g _ hon;have e:m1.steps_ N=m1.steps_ j:=more _ (by omega) (by rw[hoff.end_];decide);rw[e];refine⟨hoff.end_,.inr ⟨st',k,c,hRo,hoff.codeIs,λ hp=>?_⟩⟩;refine h0 c st' k hRo ?_;exact Zvj hI hon.run hoff (i:=2+gw.length+sw.length+5) (by omega) (by omega) x5 (hp.trans (by omega))
 | left t st=>exact absurd hRo (hl t st k)
def S.ao (m2:S.Mach)(en:Int):Int:=if m2.state≠1 then -1 else if m2.place=en then 0 else 1+m2.code
theorem Zcu (hI:(aa true gw sw F size).Ok){m:S.Mach}(h:WdV gw sw F size m){name:ByteArray}(hn:name∈wTellsV){d x:Int}{out:List Int}(hd:d<=256)
 (hr:aj (aa true gw sw F size) name true (viewOf (m.setV 31 ((aa true gw sw F size).lab kMapped))) d ((aa true gw sw F size).lab kMapped) (BackV x out)) {N:Nat} (hN:4000<=N) :
 ao (ab (aa true gw sw F size) m name N) ((aa true gw sw F size).lab kMapped+1)=0/\(ab (aa true gw sw F size) m name N).rd 4=x/\(ab (aa true gw sw F size) m name N).out=out:=by
 obtain⟨h1,h2⟩:=Zh6 hI h hn hd hr (N:=N) (λ o k hk=>by have:=hk.1;omega) (λ t st k hk=>by obtain⟨_,st',e,_⟩:=hk;cases e) (λ c st k hk=>by obtain⟨_,st',e,_⟩:=hk;cases e);rcases h2 with⟨st',k,hR,hS,hp,_,ho⟩|⟨st',k,c,hR,_⟩
 .obtain⟨_,st2,e,h4,h5⟩:=hR
  cases e
  refine⟨?_,(hS.reg 4 (by decide)).trans h4,ho.trans h5⟩;unfold ao;rw[if_neg (λ q=>q h1),if_pos hp]
 .obtain⟨_,st2,e,_⟩:=hR
  cases e
theorem Zfm (hI:(aa true gw sw F size).Ok){m:S.Mach}(h:WdV gw sw F size m){name:ByteArray}(hn:name∈wTellsV){d c:Int}(hc:c≠0)(hd:d<=256)
 (hr:aj (aa true gw sw F size) name true (viewOf (m.setV 31 ((aa true gw sw F size).lab kMapped))) d ((aa true gw sw F size).lab kMapped) (EndV c)) {N:Nat} (hN:4000<=N) :
 ao (ab (aa true gw sw F size) m name N) ((aa true gw sw F size).lab kMapped+1)=1+c:=by
 obtain⟨h1,h2⟩:=Zh6 hI h hn hd hr (N:=N) (λ o k hk=>by have:=hk.1;omega) (λ t st k hk=>by obtain⟨_,st',e⟩:=hk;cases e) (λ c' st k hk=>by obtain⟨_,st',e⟩:=hk;cases e;exact hc);rcases h2 with⟨st',k,hR,hS,hp,_⟩|⟨st',k,c',hR,hcode,hp⟩
 .obtain⟨_,st2,e⟩:=hR
  cases e
 .obtain⟨_,st2,e⟩:=hR
  cases e
  unfold ao;rw[if_neg (λ q=>q h1),if_neg hp,hcode]
end
end
section
attribute [local irreducible] midV
namespace S
def putsV (m:Mach)(a:Int):List Int->Mach
 | []=>m
 | x::r=>putsV (m.putV a x) (a+1) r
def takeM (m:Mach)(typ:Int)(ws:List Int):Mach:=(putsV m (m.rd 26) ((32*ws.length+4*typ+3)::ws)).setV 26 (m.rd 26+1+ws.length)
def setsV (m:Mach)(i:Int):List Int->Mach
 | []=>m
 | x::r=>setsV (m.setV i x) (i+1) r
def kPrims:List Int:=[16,17,21,25,27,37,38,39]
end S
theorem Zh7 {gw sw F:List Int}{size:Int}{j:Nat}{r:BR}(h:rs28[j]?=some r):∃i,Seg (aa true gw sw F size) r.name i (bItems r):=by
 refine Zug (j:=15+j) ?_;have h15:objs26.length=15:=by decide
 have hj:=(Yg.1 h).1;have hl:objs28.length=rs28.length:=by unfold objs28;rw[Y3]
 rw[Ym (by rw[Yc];omega),Yn (by omega),h15,Nat.add_sub_cancel_left]
 show(rs28.map ofR)[j]?=_
 rw[Yac,h];rfl
theorem Znu (gw sw F:List Int)(size:Int)(hI:(aa true gw sw F size).Ok):VSegs (aa true gw sw F size) :=
 ⟨hI,Zh7 (j:=0) (r:=vIs) rfl,Zh7 (j:=1) (r:=vIsInt) rfl,Zh7 (j:=2) (r:=vIndex) rfl,Zh7 (j:=3) (r:=vAlike) rfl,Zlb true,Zrv true⟩
section
variable {gw sw F:List Int}{size:Int}
theorem Z3s:∃i,Seg (aa true gw sw F size) (kRt 21) i (bItems (vRefs 21 4)):=Zh7 (j:=29) (r:=vRefs 21 4) rfl
theorem Z3t:∃i,Seg (aa true gw sw F size) (kRt 16) i (bItems (vPrim 16 1 1 [vChar (eL 0),S.sVal (eShl (eShr (eL 0) 4) 2)])):=Zh7 (j:=11) (r:=vPrim 16 1 1 [vChar (eL 0),S.sVal (eShl (eShr (eL 0) 4) 2)]) rfl
theorem Z3u:∃i,Seg (aa true gw sw F size) (kRt 17) i (bItems an):=Zh7 (j:=12) (r:=an) rfl
theorem Z3v:∃i,Seg (aa true gw sw F size) (kRt 37) i (bItems be):=Zh7 (j:=13) (r:=be) rfl
theorem Z3w:∃i,Seg (aa true gw sw F size) (kRt 38) i (bItems au):=Zh7 (j:=14) (r:=au) rfl
theorem Z3x:∃i,Seg (aa true gw sw F size) (kRt 39) i (bItems bf):=Zh7 (j:=15) (r:=bf) rfl
theorem Z3y:∃i,Seg (aa true gw sw F size) (kRt 27) i (bItems (vMakes 27 1)):=Zh7 (j:=31) (r:=vMakes 27 1) rfl
end
theorem has_rtsV:kRt 16∈wTellsV/\kRt 17∈wTellsV/\kRt 21∈wTellsV/\kRt 25∈wTellsV/\kRt 27∈wTellsV/\kRt 37∈wTellsV/\kRt 38∈wTellsV/\kRt 39∈wTellsV :=
 ⟨Zd2 (by kernel_rfl),Zd2 (by kernel_rfl),Zd2 (by kernel_rfl),Zd2 (by kernel_rfl),Zd2 (by kernel_rfl),Zd2 (by kernel_rfl),Zd2 (by kernel_rfl),Zd2 (by kernel_rfl)⟩
section
variable {gw sw F:List Int}{size:Int}(hI:(aa true gw sw F size).Ok)
include hI
theorem Zo0:∀(l:List Int)(m:S.Mach)(n:Int),WdV gw sw F size m->(∀x∈l,0<=x/\x<=4294967295)->(aa true gw sw F size).lab kEnd<=n->n+l.length<=size ->
 WdV gw sw F size (S.putsV m n l)/\(∀j,(S.putsV m n l).rd j=m.rd j)/\(S.putsV m n l).input=m.input/\∀c,0<=c->(S.putsV m n l).mv c=if n<=c/\c<n+l.length then l.getD (c-n).toNat 0 else m.mv c
 | [],m,n,h1,_,_,_=>⟨h1,λ _=>rfl,rfl,λ c _=>by
  rw[if_neg (by simp only[Yae];omega)];rfl⟩
 | y::r,m,n,h1,hw,ht,hs=>by
  rw[Yk] at hs;have hy:=hw y List.mem_cons_self;have he:=Zdf hI;obtain⟨e1,e2,e3,e4,e5,e6,e7⟩:=Za3 m n y;have hnc:¬(aa true gw sw F size).code n:=λ q=>by
   have:=(Ze6 hI).1 q;omega
  have hl:=h1.len;obtain⟨q1,q2,q3,q4⟩:=Zo0 r (m.putV n y) (n+1) (Zzv hI h1 ⟨by omega,by omega⟩ hnc hy) (λ x hx=>hw x (List.mem_cons_of_mem _ hx)) (by omega) (by omega);refine⟨q1,λ j=>(q2 j).trans (Zm0 m n y j),q3.trans e3,λ c hc0=>?_⟩
  show(S.putsV (m.putV n y) (n+1) r).mv c=_
  rw[q4 c hc0,Zrn (by omega) (by omega) hc0,Yk];by_cases c1:c=n
  .rw[if_neg (by omega),if_pos c1,if_pos (by omega),show(c-n).toNat=0 by omega]
   rfl
  .by_cases c2:n+1<=c/\c<n+1+r.length
   .rw[if_pos c2,if_pos (by omega),show(c-n).toNat=(c-(n+1)).toNat+1 by omega]
    rfl
   .rw[if_neg c2,if_neg c1,if_neg (by omega)]
theorem Zo1 {m:S.Mach}{H typ:Int}{ws:List Int}(h:WdV gw sw F size m)(hw:∀x∈ws,0<=x/\x<=4294967295)(hH:m.rd 26=H)(ht:0<=typ/\typ<8)(hl:ws.length<=1000000)(h1:(aa true gw sw F size).lab kEnd<=H)(h2:H+1+ws.length<=size) :
 WdV gw sw F size (S.takeM m typ ws)/\(∀j,(S.takeM m typ ws).rd j=if j=26 then H+1+ws.length else m.rd j)/\(S.takeM m typ ws).input=m.input/\(S.takeM m typ ws).mv H=32*ws.length+4*typ+3/\(∀k:Nat,k<ws.length->(S.takeM m typ ws).mv (H+1+k)=ws.getD k 0)/\(∀c,0<=c->c<H\/H+1+ws.length<=c->(S.takeM m typ ws).mv c=m.mv c):=by
 have hsz2:=hI.size2;have hsz:(aa true gw sw F size).size=size:=rfl;have he:=Zdf hI;obtain⟨q1,q2,q3,q4⟩:=Zo0 hI ((32*ws.length+4*typ+3)::ws) m H h (λ x hx=>by
  rcases Yu.1 hx with rfl|hx
  .omega
  .exact hw x hx) h1 (by rw[Yk];omega)
 have e:S.takeM m typ ws=(S.putsV m H ((32*ws.length+4*typ+3)::ws)).setV 26 (H+1+ws.length):=by unfold S.takeM;rw[hH]
 rw[e];refine⟨Zef hI q1 (by decide) (λ h=>absurd h (by decide)) (by omega),λ j=>?_,?_,?_,λ k hk=>?_,λ c hc0 hc=>?_⟩
 .rw[Zbh q1.ok (by decide) (by decide)]
  by_cases c:j=26
  .rw[if_pos c,if_pos c]
  .rw[if_neg c,if_neg c];exact q2 j
 .rw[Za6 (by decide) (by decide)];exact q3
 .rw[Zcp (by decide) (by decide),q4 H (by omega),if_pos (by rw[Yk];omega),Int.sub_self]
  rfl
 .rw[Zcp (by decide) (by decide),q4 _ (by omega),if_pos (by rw[Yk];omega),show(H+1+(k:Int)-H).toNat=k+1 by omega]
  rfl
 .rw[Zcp (by decide) (by decide),q4 c hc0,if_neg (by rw[Yk];omega)]
theorem Zh8 {m:S.Mach}(h:WdV gw sw F size m)(v:Int):(∀j,j≠31->(viewOf (m.setV 31 v)).reg j=m.rd j)/\(viewOf (m.setV 31 v)).mem=m.mv/\(viewOf (m.setV 31 v)).inp=m.input/\(viewOf (m.setV 31 v)).out=m.out:=by
 refine⟨λ j hj=>?_,?_,?_,?_⟩
 .show(m.setV 31 v).rd j=_
  rw[Zbh h.ok (by decide) (by decide),if_neg hj]
 .funext a
  show(m.setV 31 v).mv a=_
  rw[Zcp (by decide) (by decide)]
 .show(m.setV 31 v).input=_
  rw[Za6 (by decide) (by decide)]
 .show(m.setV 31 v).out=_
  rw[Za6 (by decide) (by decide)]
theorem Z14 {m:S.Mach}(h:WdV gw sw F size m){p i n:Int}(h4:m.rd 4=4*p+1)(h5:m.rd 5=4*i)(hi:0<=i/\i<536870912)(hh:HdAt (aa true gw sw F size) m.mv p 4 n){N:Nat}(hN:4000<=N) :
 (i<n->ao (ab (aa true gw sw F size) m (kRt 21) N) ((aa true gw sw F size).lab kMapped+1)=0/\(ab (aa true gw sw F size) m (kRt 21) N).rd 4=m.mv (p+1+i)) /\
 (¬i<n->ao (ab (aa true gw sw F size) m (kRt 21) N) ((aa true gw sw F size).lab kMapped+1)=4):=by
 obtain⟨v1,v2,v3,v4⟩:=Zh8 hI h ((aa true gw sw F size).lab kMapped);obtain⟨i0,hs⟩:=Z3s (gw:=gw) (sw:=sw) (F:=F) (size:=size);have hr:=Ztm (Znu gw sw F size hI) hs (ret:=(aa true gw sw F size).lab kMapped) ((v1 4 (by decide)).trans h4) ((v1 5 (by decide)).trans h5) hi (n:=n) (by rw[v2];exact hh);refine⟨λ hlt=>?_,λ hge=>?_⟩
 .simp only[if_pos hlt,v2] at hr
  have:=Zcu hI h has_rtsV.2.2.1 (by decide) hr hN;exact⟨this.1,this.2.1⟩
 .simp only[if_neg hge] at hr
  exact Zfm hI h has_rtsV.2.2.1 (c:=3) (by decide) (by decide) hr hN
theorem Zuc {m:S.Mach}(h:WdV gw sw F size m)(h4:m.rd 4=4){N:Nat}(hN:4000<=N):ao (ab (aa true gw sw F size) m (kRt 16) N) ((aa true gw sw F size).lab kMapped+1)=3:=by
 obtain⟨v1,v2,v3,v4⟩:=Zh8 hI h ((aa true gw sw F size).lab kMapped);obtain⟨i0,hs⟩:=Z3t (gw:=gw) (sw:=sw) (F:=F) (size:=size);exact Zfm hI h has_rtsV.1 (c:=2) (by decide) (by decide) (Zl6 (Znu gw sw F size hI) hs ((v1 4 (by decide)).trans h4)) hN
theorem Zud {m:S.Mach}(h:WdV gw sw F size m)(h4:m.rd 4=260){N:Nat}(hN:4000<=N):ao (ab (aa true gw sw F size) m (kRt 17) N) ((aa true gw sw F size).lab kMapped+1)=0/\(ab (aa true gw sw F size) m (kRt 17) N).rd 4=1042:=by
 obtain⟨v1,v2,v3,v4⟩:=Zh8 hI h ((aa true gw sw F size).lab kMapped);obtain⟨i0,hs⟩:=Z3u (gw:=gw) (sw:=sw) (F:=F) (size:=size);have:=Zcu hI h has_rtsV.2.1 (by decide) (Zl7 (Znu gw sw F size hI) hs ((v1 4 (by decide)).trans h4)) hN;exact⟨this.1,this.2.1⟩
theorem Z15 {m:S.Mach}(h:WdV gw sw F size m)(hi:m.input=[9]){N:Nat}(hN:4000<=N):ao (ab (aa true gw sw F size) m (kRt 37) N) ((aa true gw sw F size).lab kMapped+1)=0/\(ab (aa true gw sw F size) m (kRt 37) N).rd 4=36:=by
 obtain⟨v1,v2,v3,v4⟩:=Zh8 hI h ((aa true gw sw F size).lab kMapped);obtain⟨i0,hs⟩:=Z3v (gw:=gw) (sw:=sw) (F:=F) (size:=size);have:=Zcu hI h has_rtsV.2.2.2.2.2.1 (by decide) (Ztn (Znu gw sw F size hI) hs (v3.trans hi)) hN;exact⟨this.1,this.2.1⟩
theorem Zzr {m:S.Mach}(h:WdV gw sw F size m)(h4:m.rd 4=800){N:Nat}(hN:4000<=N):ao (ab (aa true gw sw F size) m (kRt 38) N) ((aa true gw sw F size).lab kMapped+1)=0/\(ab (aa true gw sw F size) m (kRt 38) N).out=[200]:=by
 obtain⟨v1,v2,v3,v4⟩:=Zh8 hI h ((aa true gw sw F size).lab kMapped);obtain⟨i0,hs⟩:=Z3w (gw:=gw) (sw:=sw) (F:=F) (size:=size);have:=Zcu hI h has_rtsV.2.2.2.2.2.2.1 (by decide) (Zp8 (Znu gw sw F size hI) hs (ret:=(aa true gw sw F size).lab kMapped) ((v1 4 (by decide)).trans h4)) hN;refine⟨this.1,this.2.2.trans ?_⟩;rw[v4,h.out];rfl
theorem Z16 {m:S.Mach}(h:WdV gw sw F size m)(h4:m.rd 4=28){N:Nat}(hN:4000<=N):ao (ab (aa true gw sw F size) m (kRt 39) N) ((aa true gw sw F size).lab kMapped+1)=8:=by
 obtain⟨v1,v2,v3,v4⟩:=Zh8 hI h ((aa true gw sw F size).lab kMapped);obtain⟨i0,hs⟩:=Z3x (gw:=gw) (sw:=sw) (F:=F) (size:=size);exact Zfm hI h has_rtsV.2.2.2.2.2.2.2 (c:=7) (by decide) (by decide) (Zto (Znu gw sw F size hI) hs ((v1 4 (by decide)).trans h4)) hN
theorem Zzs {m:S.Mach}(h:WdV gw sw F size m){H half:Int}(h4:m.rd 4=8)(h5:m.rd 5=22)(h26:m.rd 26=H)(h27:m.rd 27=H+half)(h7:m.mv 7=0)(hH:(aa true gw sw F size).lab kEnd<=H)(hh:3<=half)(hsz:H+half<=size){N:Nat}(hN:4000<=N) :
 ao (ab (aa true gw sw F size) m (kRt 27) N) ((aa true gw sw F size).lab kMapped+1)=0/\(ab (aa true gw sw F size) m (kRt 27) N).rd 4=4*H+1/\(ab (aa true gw sw F size) m (kRt 27) N).mv H=71/\(ab (aa true gw sw F size) m (kRt 27) N).mv (H+1)=22/\(ab (aa true gw sw F size) m (kRt 27) N).mv (H+2)=22:=by
 obtain⟨v1,v2,v3,v4⟩:=Zh8 hI h ((aa true gw sw F size).lab kMapped);obtain⟨i0,hs⟩:=Z3y (gw:=gw) (sw:=sw) (F:=F) (size:=size);have he:=Zdf hI;have hl:=Zdw hI;have hs2:=hI.size2;have hs3:(aa true gw sw F size).size=size:=rfl;have dat:∀a,0<=a->a<size->(a<1056\/H<=a)->Dat (aa true gw sw F size) a:=λ a a0 a1 a2=>⟨a0,a1,λ q=>by
  have q0:=q.1;have q1:=q.2;have e1:(aa true gw sw F size).lo=1056:=rfl;have e2:(aa true gw sw F size).hi=1312:=rfl;omega,λ q=>by
  have:=(Ze6 hI).1 q;omega⟩
 have hr:=Zp9 (Znu gw sw F size hI) hs (ret:=(aa true gw sw F size).lab kMapped) (H:=H) (x:=22) (n:=2) (by decide) ((v1 4 (by decide)).trans h4) ((v1 5 (by decide)).trans h5)
  ⟨λ x x0 x1=>dat x x0 (by omega) (.inl x1),(v1 26 (by decide)).trans h26,by rw[v1 27 (by decide),h27];show H+3<=_;omega,by rw[v1 27 (by decide),h27];omega,by omega,by rw[v2];exact h7,λ a a0 a1=>dat a (by omega) (by omega) (.inr a0)⟩ (by have:=hl.2.2.2.1;omega) (by omega)
 obtain⟨g1,g2⟩:=Zh6 hI h has_rtsV.2.2.2.2.1 (by decide) hr (N:=N) (λ o k hk=>by have:=hk.1;omega) (λ t st k hk=>by obtain⟨_,st',e,_⟩:=hk;cases e) (λ c st k hk=>by obtain⟨_,st',e,_⟩:=hk;cases e);rcases g2 with⟨st',k,hR,hS,hp,_,ho⟩|⟨st',k,c,hR,_⟩
 .obtain⟨_,st2,e,q4,qH,qa⟩:=hR
  cases e
  have nostk:∀a,H<=a->¬(aa true gw sw F size).stk a:=λ a ha q=>by
   have q1:=q.2;have e2:(aa true gw sw F size).hi=1312:=rfl;omega
  refine⟨?_,(hS.reg 4 (by decide)).trans q4,?_,?_,?_⟩
  .unfold ao
   rw[if_neg (λ q=>q g1),if_pos hp]
  .rw[hS.mem H (by omega) (by omega) (nostk _ (by omega)),qH]
   rfl
  .rw[hS.mem (H+1) (by omega) (by omega) (nostk _ (by omega))]
   exact qa _ (by omega) (by omega)
  .rw[hS.mem (H+2) (by omega) (by omega) (nostk _ (by omega))]
   exact qa _ (by omega) (by omega)
 .obtain⟨_,st2,e,_⟩:=hR
  cases e
end
end
section
theorem Zqq {l:List Int}{w:World}{e:Ending}{w':World}(h:Zmi l w e w'):Below w.heap.size w w'/\∃(A:Option Addr)(m c:Nat)(ev:Int)(cs:List Int),e=.returned (.tuple #[.slice A m c,.int .i64 ev])/\m=cs.length/\Reads w' w'.heap.size A (cs.map (Ys .i64))/\charsU l=cs.map wordU/\(∀x∈cs,0<=x/\x<=1114111)/\m<=l.length:=by
 obtain⟨hb,hc⟩:=h;refine⟨hb,?_⟩
 cases hl:codesU l with
 | none =>
  rw[hl] at hc;refine⟨none,0,0,4,[],hc,rfl,λ hp=>by simp at hp,by unfold charsU;rw[hl];rfl,λ x hx=>(by cases hx),Ya2 _⟩
 | some cs =>
  rw[hl] at hc;obtain⟨A,m,c,rfl,hm,ho⟩:=hc;have hf:=Zc7 _ _ _ hl;exact⟨A,m,c,0,cs,rfl,hm,Zat ho,by unfold charsU;rw[hl],λ x hx=>Zoe (hf.2.1 x hx),by rw[hm];exact hf.2.2⟩
theorem Zmj:(prog.info? 31).map (λ i=>(i.zero,i.size,i.bytes))=some (some (.int .u32 0),1,4):=by kernel_rfl
theorem Zzt (s:ByteArray)(hs:s.size<=100000)(w:World):Calls prog 39 #[.string s] w λ e w'=>∃(A:Option Addr)(m c:Nat),e=.returned (.slice A m c)/\m=(charsU (octs s)).length/\w'.ownsRow w.heap.size 31 1 (.slice A m c) m ((charsU (octs s)).map (Ys .u32))/\Below w.heap.size w w':=by
 go_enter func39,ntmps39
 go_wp2_with fail
 refine(Zwx s hs w).mono ?_;rintro e w1 hp;obtain⟨hb1,A,m,c,ev,cs,rfl,hm,hr,hch,hbd,hml⟩:=Zqq hp;have HB1:=Ya hb1;have HM:=Ya hm;have HR:=Ya hr;have HC:=Ya hch;have HBd:=Ya hbd;rw[Ze3] at hml;clear hp hb1 hm hr hch hbd;go_wp2_with fail
 go_loopw [5,6] (λ v5 v6 wr=>∃(k:Nat)(B:Option Addr)(d:Nat),k<=m/\v6=.int .i64 k/\v5=.slice B k d/\Hid (wr.ownsRow w1.heap.size 31 1 (.slice B k d) k (((cs.map wordU).take k).map (Ys .u32)))/\Hid (Below w1.heap.size w1 wr)) (λ _ v6 _=>m-(intOf v6).toNat)
 case atStart=>exact⟨0,none,0,Ya2 _,rfl,rfl,Ya ⟨rfl,.inl ⟨rfl,rfl⟩⟩,Ya (Yj _ _)⟩
 case round =>
  obtain⟨k,B,d,hk,rfl,rfl,HO,HB⟩:=hrel;by_cases hlt:k<m
  .have d1:decide ((k:Int)<(m:Int))=true:=decide_eq_true (by omega)
   have i3:(k:Int)<(m:Int):=by omega
   have hkc:k<cs.length:=by rw[<- HM.out];exact hlt
   obtain⟨g,off,rfl,hg,hcell⟩:=HR.out (by rw[Y3];omega);have hx:=hcell k (.int .i64 cs[k]) (by rw[Yac,Ye hkc];rfl);have hub:=HBd.out cs[k] (Ya7 hkc);obtain⟨u,hu⟩:=Yx cs[k];rw[<- hu] at hx hub;have HU:=Ya hu;have hx1:wr.cell? ⟨g,off+k,none⟩=some (.int .i64 u):=(HB.out.cell (p:=⟨g,off+k,none⟩) hg).trans hx;have e1:IntKind.i64.wrap (16*u)=16*u:=Yp _ ⟨by omega,by omega⟩;have e3:IntKind.i64.wrap (16*u+2)=16*u+2:=Yp _ ⟨by omega,by omega⟩;have e4:IntKind.u32.wrap (16*u+2)=16*u+2:=Ybo _ ⟨by omega,by omega⟩;have e5:(16*u+2)%4294967296=16*u+2:=by omega
   have e2:IntKind.i64.wrap ((k:Int)+1)=(k:Int)+1:=Yp _ ⟨by omega,by omega⟩;have hzr:=HB.out.size;clear hcell hx hu
   go_wp2_with (
    at_builtin;refine Zk rfl (.tmp 18) (.tmp 26) _ rfl w1.heap.size 31 Zmj underlying28 rfl (by decide) #[.int .u32 (16*u+2)] _ _ _ rfl HO.out rfl rfl rfl (by simp[Yt]) (by simp only[maxLen];omega) (by omega) hzr ?_;intro v' w2 ho2 hg2 hb2 hat2;obtain⟨A2,c2,rfl⟩:=Za ho2;have HO2:Hid (w2.ownsRow w1.heap.size 31 1 (.slice A2 (k+1) c2) (k+1) (((cs.map wordU).take (k+1)).map (Ys .u32))):=Ya (by
      rw[Yar,Yac,Ye hkc,Ya3];rw[HU.out] at ho2;exact ho2)
    have HB2:=Ya (HB.out.trans hb2);clear ho2 hg2 hb2 hat2 HO HB)
   go_roundw
   case rel=>exact⟨k+1,A2,c2,by omega,by go_num,rfl,HO2,HB2⟩
   case measure=>simp[intOf] <;> omega
  .have hke:k=m:=by omega
   subst hke;have d1:decide ((k:Int)<(k:Int))=false:=by simp
   go_wp2_with fail
   go_ret
   have h:=Zn HO.out HB1.out.size;rw[show(cs.map wordU).take k=cs.map wordU from Yax (by rw[Y3,<- HM.out];exact Yd _)] at h;rw[HC.out];exact⟨B,k,d,rfl,by rw[Y3];exact HM.out,h,HB1.out.trans (HB.out.mono HB1.out.size)⟩
theorem Z17 (typ n:Int)(ht:0<=typ/\typ<8)(hn:0<=n/\n<=1000000)(w:World):Calls prog 75 #[.int .i64 typ,.int .i64 n] w λ e w'=>e=.returned (.int .u32 (32*n+4*typ+3))/\w=w':=by
 have e1:IntKind.i64.wrap (32*n)=32*n:=Yp _ ⟨by omega,by omega⟩;have e2:IntKind.i64.wrap (4*typ)=4*typ:=Yp _ ⟨by omega,by omega⟩;have e3:IntKind.i64.wrap (32*n+4*typ)=32*n+4*typ:=Yp _ ⟨by omega,by omega⟩;have e4:IntKind.i64.wrap (32*n+4*typ+3)=32*n+4*typ+3:=Yp _ ⟨by omega,by omega⟩;have e5:IntKind.u32.wrap (32*n+4*typ+3)=32*n+4*typ+3:=Ybo _ ⟨by omega,by omega⟩;have e6:(32*n+4*typ+3)%4294967296=32*n+4*typ+3:=by omega
 go_enter func75,ntmps75
 go_wp2_with fail
 go_ret
 exact⟨rfl,rfl⟩
theorem Zjn:∀(l:List Int)(m:S.Mach)(a x:Int),S.putsV m a (l++[x])=(S.putsV m a l).putV (a+l.length) x
 | [],m,a,x=>by
  show m.putV a x=m.putV (a+((0:Nat):Int)) x
  rw[show a+((0:Nat):Int)=a by omega]
 | y::l,m,a,x=>by
  show S.putsV (m.putV a y) (a+1) (l++[x])=_
  rw[Zjn l (m.putV a y) (a+1) x]
  show(S.putsV (m.putV a y) (a+1) l).putV _ x=(S.putsV (m.putV a y) (a+1) l).putV _ x
  rw[show a+1+(l.length:Int)=a+((y::l).length:Int) by rw[Yk];omega]
section
variable {w:World}{F:Nat->Prop}{lo b p:Nat}{H half:Int}{P:List (ByteArray×Int)}{m:S.Mach}
theorem Z18 (typ:Int)(A:Option Addr)(n c:Nat)(ws:List Int)(hn:n=ws.length)(ht:0<=typ/\typ<8)(hl:n<=100000)(hws:∀x∈ws,0<=x/\x<=4294967295)(hK:KAt w lo b p F H half P m)(h26:0<=m.rd 26/\m.rd 26<=100000000)(hR:Reads w w.heap.size A (ws.map (Ys .u32)))(hA:∀k o s,A=some ⟨k,o,s⟩->¬F k) :
 Calls prog 38 #[.pointer (some ⟨b,0,none⟩),.int .i64 typ,.slice A n c] w λ e w'=>e=.returned (.int .u32 (4*m.rd 26+1))/\KAt w' lo b p F H half P (S.takeM m typ ws)/\Only F w w':=by
 obtain⟨a,ha⟩:=Yx (m.rd 26);have HA:=Ya ha;have er:m.regV 26=a:=by rw[Zk7 (by decide) (by decide)];exact ha.symm
 rw[<- ha] at h26⊢;have HK:=Ya hK;have HR:=Ya hR;have HAF:=Ya hA;have HN:=Ya hn;have HW:=Ya hws;have hrg:=Zrr 26 hK;rw[er] at hrg;have HRg:=Ya hrg;have hbl:=hK.blt;obtain⟨_,_,_,_,_,_,e0,e1,e2,e3,e4⟩:=hK.cells;have s1:IntKind.i64.wrap a=a:=Yp _ ⟨by omega,by omega⟩;clear ha hK hR hA hn hws hrg er;go_enter func38,ntmps38
 go_wp2_with fail
 refine HRg.out.mono ?_;rintro e _ ⟨rfl,rfl⟩;have Hhd:=Ya (λ(W:World)=>Z17 typ n ht ⟨by omega,by omega⟩ W);go_upto_region 2 with fail
 refine Zm 10 (by kernel_rfl) (by kernel_rfl) ?_;have hE:=Zo w;simp only[Yaw,Yaz,Ya1,Ybc]
 repeat (first|go_big_quiet_step ((go_at_call 75;exact Zcj (Hhd.out _))))
 refine wpQuiet_nil ?_;rintro w1 ⟨⟨_,hb1⟩,rfl⟩;have HK1:=Ya (HK.out.below hb1);have HO1:=Ya (Only.of_below (F:=F) hb1);clear hE hb1 e0 e1 e2 e3 e4 hbl;go_wp2_with fail
 refine(Zg1 a (32*n+4*typ+3) HK1.out ⟨by omega,by omega⟩).mono ?_;rintro e w2 ⟨rv,rfl,hk2,ho2⟩;have HK2:Hid (KAt w2 lo b p F H half P (S.putsV m a ((32*(n:Int)+4*typ+3)::ws.take 0))):=Ya hk2;have HO2:=Ya (HO1.out.trans ho2 λ _ _ q=>q);clear hk2 ho2 HK1 HO1 HRg HK;go_wp2_with fail
 go_loopw [8] (λ v8 wl=>∃q:Nat,q<=n/\v8=.int .i64 q/\Hid (KAt wl lo b p F H half P (S.putsV m a ((32*(n:Int)+4*typ+3)::ws.take q)))/\Hid (Only F w wl)) (λ v8 _=>n-(intOf v8).toNat)
 case atStart=>exact⟨0,Ya2 _,rfl,HK2,HO2⟩
 case round =>
  clear HK2 HO2;obtain⟨q,hq,rfl,HKq,HOq⟩:=hrel;have hbl:=HKq.out.blt;obtain⟨_,_,_,_,_,_,e0,e1,e2,e3,e4⟩:=HKq.out.cells;by_cases hlt:q<n
  .have d1:decide ((q:Int)<(n:Int))=true:=decide_eq_true (by omega)
   have i3:(q:Int)<(n:Int):=by omega
   have hqc:q<ws.length:=by rw[<- HN.out];exact hlt
   obtain⟨g,off,rfl,hg,hcell⟩:=HR.out (by rw[Y3];omega);have hx:=hcell q (.int .u32 ws[q]) (by rw[Yac,Ye hqc];rfl);have hub:=HW.out ws[q] (Ya7 hqc);obtain⟨u,hu⟩:=Yx ws[q];rw[<- hu] at hx hub;have HU:=Ya hu;have hx1:wr.cell? ⟨g,off+q,none⟩=some (.int .u32 u):=(World.cell?_of_block (a:=⟨g,off+q,none⟩) (HOq.out.block g hg (HAF.out g off none rfl))).trans hx;have hgl:g<wr.heap.size:=Yr hg HOq.out.size;have p1:IntKind.i64.wrap (a+1)=a+1:=Yp _ ⟨by omega,by omega⟩;have p2:IntKind.i64.wrap (a+1+q)=a+1+q:=Yp _ ⟨by omega,by omega⟩;have p3:IntKind.i64.wrap ((q:Int)+1)=(q:Int)+1:=Yp _ ⟨by omega,by omega⟩;clear hcell hx hu;go_upto_region 6 with fail
   refine Zm 13 (by kernel_rfl) (by kernel_rfl) ?_;have hE:=Zo wr;simp only[Yaw,Yaz,Ya1,Ybc]
   repeat (first|go_big_quiet_step (fail))
   refine wpQuiet_nil ?_;rintro w4 ⟨⟨_,hb4⟩,rfl⟩;have HK4:=Ya (HKq.out.below hb4);have HO4:=Ya (HOq.out.trans (Only.of_below (F:=F) hb4) λ _ _ q=>q);clear hE hb4 e0 e1 e2 e3 e4 hbl hgl hx1 HKq HOq;go_wp2_with fail
   try simp only[p1,p2]
   refine(Zg1 (a+1+q) u HK4.out hub).mono ?_;rintro e w5 ⟨rv,rfl,hk5,ho5⟩;have HK5:Hid (KAt w5 lo b p F H half P (S.putsV m a ((32*(n:Int)+4*typ+3)::ws.take (q+1)))):=Ya (by
    have e:=Zjn ((32*(n:Int)+4*typ+3)::ws.take q) m a u;rw[Yk,Y9,Nat.min_eq_left (by omega),show a+((q+1:Nat):Int)=a+1+q by omega] at e;rw[Yar,Ye hqc]
    show KAt w5 lo b p F H half P (S.putsV m a (((32*(n:Int)+4*typ+3)::ws.take q)++[ws[q]]))
    rw[<- HU.out,e];exact hk5)
   have HO5:=Ya (HO4.out.trans ho5 λ _ _ q=>q);clear hk5 ho5 HK4 HO4;go_wp2_with fail
   go_roundw
   case rel=>exact⟨q+1,by omega,by go_num,HK5,HO5⟩
   case measure=>simp[intOf] <;> omega
  .have hke:q=n:=by omega
   subst hke;have d1:decide ((q:Int)<(q:Int))=false:=by simp
   have f1:IntKind.u32.wrap (a+1)=a+1:=Ybo _ ⟨by omega,by omega⟩;have f2:IntKind.u32.wrap (q:Int)=(q:Int):=Ybo _ ⟨by omega,by omega⟩;have f3:IntKind.u32.wrap (a+1+q)=a+1+q:=Ybo _ ⟨by omega,by omega⟩;have f4:IntKind.u32.wrap (4*a)=4*a:=Ybo _ ⟨by omega,by omega⟩;have f5:IntKind.u32.wrap (4*a+1)=4*a+1:=Ybo _ ⟨by omega,by omega⟩;have f6:(q:Int)%4294967296=(q:Int):=by omega
   go_wp2_with fail
   refine(Zg2 26 (a+1+q) HKq.out ⟨by omega,by omega⟩).mono ?_;rintro e w5 ⟨rv2,rfl,hk5,ho5⟩;have HK5:Hid (KAt w5 lo b p F H half P (S.takeM m typ ws)):=Ya (by
    unfold S.takeM;rw[<- HA.out,<- HN.out];rw[Yax (by rw[<- HN.out];exact Yd _)] at hk5;exact hk5)
   have HO5:=Ya (HOq.out.trans ho5 λ _ _ q=>q);clear hk5 ho5 HKq HOq e0 e1 e2 e3 e4 hbl;go_wp2_with fail
   go_ret
   exact⟨by rw[Int.mul_comm 4 a];rfl,HK5.out,HO5.out⟩
end
end
theorem Zwy {b:Int}(l:List Int)(q:Nat):dvB b (l.drop q)=l.getD q 0+b*dvB b (l.drop (q+1)):=by
 by_cases h:q<l.length
 .rw[Ya8 h,Yh,Ye h]
  rfl
 .rw[List.drop_eq_nil_of_le (by omega),List.drop_eq_nil_of_le (by omega),Yh,List.getElem?_eq_none (by omega)]
  show(0:Int)=0+b*0
  simp
theorem Ints.take_ {w:World}{B:Nat}{A:Option Addr}{xs:List Int}(h:Ints w B A xs)(m:Nat):Ints w B A (xs.take m):=λ hp=>by
 obtain⟨b,off,e,hb,hc⟩:=h (by rw[Y9] at hp;omega);refine⟨b,off,e,hb,λ i x hx=>hc i x ?_⟩;have hlt:=(Yg.1 hx).1;rw[Y9] at hlt;rw[List.getElem?_take_of_lt (by omega)] at hx;exact hx
theorem Z19 {b:Int}(hb:2<=b){l:List Int}{n:Int}(h:Cn b l n)(hl:0<l.length):1<=n:=by
 have h1:=Z0k hb h hl;have h2:(0:Int)<b^(l.length-1):=Ycs (by omega);omega
theorem Z2a {b:Int}{l:List Int}{n:Int}(h:Cn b l n)(hl:l.length=0):n=0:=by
 rw[<- h.2.2,List.length_eq_zero_iff.1 hl];rfl
structure S.Tz (s:ByteArray)(p:Nat)(neg:Bool)(l:List Int):Prop where
 len:s.size=p+l.length
 pos:0<l.length
 dig:DgB 10 l
 at_:∀i (hi:i<s.size),p<=i->((s[i]'hi).toNat:Int)=48+l.getD (s.size-1-i) 0
 sgn:(p=0/\neg=false)\/(p=1/\neg=true/\∀h:0<s.size,((s[0]'h).toNat:Int)=45)
def S.tz (neg:Bool)(l:List Int):Int:=if neg=true then -dvB 10 l else dvB 10 l
theorem Ints.set {w:World}{B:Nat}{A:Option Addr}{xs:List Int}(h:Ints w B A xs){g o:Nat}(hne:∀b off,A=some ⟨b,off,none⟩->b≠g)(v:Value):Ints (w.setCell ⟨g,o,none⟩ v) B A xs:=λ hp=>by
 obtain⟨b,off,e,hb,hc⟩:=h hp;exact⟨b,off,e,hb,λ i x hx=>(World.cell?_of_block (a:=⟨b,off+i,none⟩) (heap_setCell_other w ⟨g,o,none⟩ b v (hne b off e))).trans (hc i x hx)⟩
theorem Zue {w:World}{base:Nat}{e:TypeId}{size n c:Nat}{A:Option Addr}{xs:List Value}(h:w.ownsRow base e size (.slice A n c) n xs):n<=c:=by
 rcases h.2 with⟨_,h1⟩|⟨g,cap,cur,e1,_,_,hnc,_⟩
 .omega
 .cases e1
  exact hnc
theorem Zuf {neg:Bool}{l:List Int}{m:Nat}(hd:DgB 10 l)(h:Top l m):Nz (neg && decide (0<m)) (l.take m) (tz neg l):=by
 have h1:=Z0j hd h;have h2:=Zay (show(0:Int)<=10 by decide) hd;have hl:(l.take m).length=m:=by rw[Y9];have:=h.1;omega
 cases neg with
 | false =>
  have e:tz false l=dvB 10 l:=if_neg (by decide);rw[e];refine⟨?_,?_⟩
  .rw[if_neg (by omega)];exact h1
  .rw[Bool.false_and,decide_eq_false (show ¬dvB 10 l<0 by omega)]
 | true =>
  have e:tz true l=-dvB 10 l:=if_pos rfl;rw[e];by_cases c:m=0
  .have h0:dvB 10 l=0:=Z2a h1 (by rw[hl];exact c)
   rw[h0] at h1⊢;subst c;exact⟨h1,rfl⟩
  .have h0:1<=dvB 10 l:=Z19 (by decide) h1 (by omega)
   refine⟨?_,?_⟩
   .rw[if_pos (by omega),Int.neg_neg];exact h1
   .rw[decide_eq_true (show 0<m by omega),decide_eq_true (show -dvB 10 l<0 by omega)];rfl
theorem Znv (s:ByteArray)(p:Nat)(neg:Bool)(l:List Int)(ht:Tz s p neg l)(hs:s.size<=1000000)(w:World) :
 Calls prog 74 #[.string s] w λ e w'=>∃(neg':Bool)(A:Option Addr)(m c:Nat)(l':List Int),e=.returned (.tuple #[Zib neg' A m c,.int .i64 0])/\NumW w' w'.heap.size (tz neg l) neg' A m c l'/\Below w.heap.size w w':=by
 have hpos:=ht.pos;have hlen:=ht.len;rcases ht.sgn with⟨rfl,rfl⟩|⟨rfl,rfl,q3⟩
 .have h0:0<s.size:=by omega
  have Ht:=Ya (show Tz s 0 false l from ht);have hsl:s.size=0+l.length:=ht.len;have Hsl:=Ya hsl;have Hpos:=Ya ht.pos;have hps:=ht.pos;have n0:((s.size:Int)==0)=false:=beq_eq_false_iff_ne.2 (by omega);have n1:((s.size:Int)==0)=false:=beq_eq_false_iff_ne.2 (by omega);have d0:decide ((0:Int)<s.size)=true:=decide_eq_true (by omega);have d1:decide (0<s.size)=true:=decide_eq_true (by omega);have wr0:IntKind.i64.wrap ((s.size:Int)-1)=(s.size:Int)-1:=by rw[Yp _ (by omega)]
  have hc:=ht.at_ 0 h0 (by omega);have hdb:=Zgz (by decide) ht.dig (s.size-1-0);have hf1:(((s[0]'h0).toNat:Int)==45)=false:=by rw[hc];exact beq_eq_false_iff_ne.2 (by omega)
  have hf2:(((s[0]'h0).toNat:Int)==43)=false:=by rw[hc];exact beq_eq_false_iff_ne.2 (by omega)
  clear hc hdb hlen hpos;have hL1:(0:Int)<s.size:=by omega
  clear ht hsl hps;go_enter func74,ntmps74
  go_wp2_with fail
  go_loopw [6,7] (λ v6 v7 wr=>∃(k:Int)(A2:Option Addr)(q c2:Nat),0-1<=k/\k<s.size/\v7=.int .i64 k/\v6=.slice A2 q c2/\Hid ((q:Int)=s.size-1-k)/\Hid (wr.ownsRow (w.heap.size+1) 3 1 (.slice A2 q c2) q ((l.take q).map (Ys .i64)))/\Hid (Below w.heap.size w wr)/\wr.heap[w.heap.size]?=some (.cells #[.bool false,.slice none 0 0] 56 (0,0))) (λ _ v7 _=>(intOf v7+1).toNat)
  case atStart =>
   exact⟨(s.size:Int)-1,none,0,0,by omega,by omega,rfl,rfl,Ya (by omega),Ya (World.ownsRow_nil _ _ _ _),Ya ((Yj _ _).alloc (Yd _) _),heap_alloc_new w _⟩
  case round =>
   obtain⟨k,A2,q,c2,hk0,hk1,rfl,rfl,hq,hown,hbel,hblk⟩:=hrel;have hzb:w.heap.size+1<=wr.heap.size:=(Yv.1 hblk).1;by_cases c0:0<=k
   .obtain⟨i,rfl⟩:=Ybi (show 0<=k by omega)
    have hi:i<s.size:=by omega
    have hat:=Ht.out.at_ i hi (by omega);have hq2:=hq.out;have hqi:s.size-1-i=q:=by omega
    rw[hqi] at hat;have hdb:=Zgz (by decide) Ht.out.dig q;obtain⟨d,hd⟩:=Yx (l.getD q 0);rw[<- hd] at hat hdb;have Hd:=Ya hd;have hql:q<l.length:=by have:=Hsl.out;omega
    have Htk:=Ya (show l.take (q+1)=l.take q++[d] by rw[Yar,Ye hql,hd,Yh,Ye hql];rfl);have e2:IntKind.i64.wrap ((i:Int)-1)=(i:Int)-1:=by rw[Yp _ (by omega)]
    have e3:IntKind.u8.wrap (48+d-48)=d:=by rw[IntWalk.u8_in _ (by omega)];omega
    have b1:decide (48+d<48)=false:=decide_eq_false (by omega);have b2:decide (57<48+d)=false:=decide_eq_false (by omega);have b3:decide (48+d>57)=false:=decide_eq_false (by omega);have i3:(i:Int)<(s.size:Int):=by omega
    have hz:=hbel.out.size;have hqb:q<=1000000:=by omega
    clear hd hq2 hqi hql;generalize hch:((s[i]'hi).toNat:Int)=ch at *;subst hat;go_wp2_with (at_builtin;refine Zk rfl (.tmp 51) (.tmp 57) _ rfl (w.heap.size+1) 3 Zkc underlying54 rfl (by decide) #[.int .i64 d] _ _ _ rfl hown.out rfl rfl rfl (by simp[Yt]) (by simp only[maxLen];omega) (by omega) hzb ?_;intro v' w7 ho7 hg7 hb7 hat7;obtain⟨A8,c8,rfl⟩:=Za ho7)
    go_roundw
    case rel=>exact⟨(i:Int)-1,A8,q+1,c8,by omega,by omega,by go_num,rfl,Ya (by have:=hq.out;omega),Ya (by rw[Htk.out,Ya3];exact ho7),Ya (hbel.out.trans (hb7.mono (Yc9 _))),(hb7.block w.heap.size (Yav _)).trans hblk⟩
    case measure=>simp[intOf] <;> omega
   .have ek:k=0-1:=by omega
    have hql:q=l.length:=by have:=hq.out;have:=Hsl.out;omega
    have HQ:=Ya hql;have hqb:q<=1000000:=by have:=Hsl.out;omega
    have HI:=Ya (show Ints wr wr.heap.size A2 l from by
     have h:=Ints.of_own hown.out;rw[hql,Yal] at h;exact h)
    have Hnil:=Ya (Zdj hown.out);have Hcap:=Ya (Zue hown.out);subst ek;clear hql;go_wp2_with fail
    refine(Zxo false A2 q c2 l HQ.out wr wr.heap.size HI.out (Yd _) hqb Hnil.out Hcap.out).mono ?_;rintro e w2 ⟨m,hm,rfl,hb2⟩;have Hm:=Ya hm;have HB2:=Ya hb2;have hz2:=hb2.size;have hblk2:=(hb2.block w.heap.size hzb).trans hblk;have hc0:w2.cell? ⟨w.heap.size,0,none⟩=some (.bool false):=by rw[Yb hblk2];rfl
    have hc1:w2.cell? ⟨w.heap.size,1,none⟩=some (.slice none 0 0):=by rw[Yb hblk2];rfl
    have hz0:w2.frozen? ⟨w.heap.size,0,none⟩=false:=frozen_of_row w2 w.heap.size 0 _ _ hblk2;have hz1:w2.frozen? ⟨w.heap.size,1,none⟩=false:=frozen_of_row w2 w.heap.size 1 _ _ hblk2;clear hm hb2;unfold Zib;go_wp2_with fail
    have hne:∀b off,A2=some ⟨b,off,none⟩->b≠w.heap.size:=λ b off e=>by
     subst e;have:=(hown.out.lt b rfl).1;omega
    refine bodyPost_ret (v:=.tuple #[Zib (false && decide (0<m)) A2 m c2,.int .i64 0]) (by simp[results,results74,go_sem,Zib,hc0,hc1]) rfl ?_;have hl2:(l.take m).length=m:=by rw[Y9];have:=Hm.out.1;omega
    have hml:=Hm.out.1;refine⟨_,A2,m,c2,l.take m,rfl,⟨Zuf Ht.out.dig Hm.out,hl2.symm,by rw[<- HQ.out] at hml;omega,?_,λ e=>by have:=Hnil.out e;rw[<- HQ.out] at hml;omega,by have:=Hcap.out;rw[<- HQ.out] at hml;omega⟩,?_⟩
    .exact((((HI.out.take_ m).below HB2.out).set hne _).set hne _).more (Yaa hz2 (((Yj 0 w2).setCell (Ya2 _) _).setCell (Ya2 _) _).size)
    .exact((hbel.out.trans (HB2.out.mono hbel.out.size)).setCell (Yd _) _).setCell (Yd _) _
 .have h0:0<s.size:=by omega
  have Ht:=Ya (show Tz s 1 true l from ht);have hsl:s.size=1+l.length:=ht.len;have Hsl:=Ya hsl;have Hpos:=Ya ht.pos;have hps:=ht.pos;have n0:((s.size:Int)==0)=false:=beq_eq_false_iff_ne.2 (by omega);have n1:((s.size:Int)==1)=false:=beq_eq_false_iff_ne.2 (by omega);have d0:decide ((0:Int)<s.size)=true:=decide_eq_true (by omega);have d1:decide (0<s.size)=true:=decide_eq_true (by omega);have wr0:IntKind.i64.wrap ((s.size:Int)-1)=(s.size:Int)-1:=by rw[Yp _ (by omega)]
  have hf1:(((s[0]'h0).toNat:Int)==45)=true:=by rw[q3 h0];rfl
  clear q3 hlen hpos;have hL1:(1:Int)<s.size:=by omega
  clear ht hsl hps;go_enter func74,ntmps74
  go_wp2_with fail
  go_loopw [6,7] (λ v6 v7 wr=>∃(k:Int)(A2:Option Addr)(q c2:Nat),1-1<=k/\k<s.size/\v7=.int .i64 k/\v6=.slice A2 q c2/\Hid ((q:Int)=s.size-1-k)/\Hid (wr.ownsRow (w.heap.size+1) 3 1 (.slice A2 q c2) q ((l.take q).map (Ys .i64)))/\Hid (Below w.heap.size w wr)/\wr.heap[w.heap.size]?=some (.cells #[.bool false,.slice none 0 0] 56 (0,0))) (λ _ v7 _=>(intOf v7+1).toNat)
  case atStart =>
   exact⟨(s.size:Int)-1,none,0,0,by omega,by omega,rfl,rfl,Ya (by omega),Ya (World.ownsRow_nil _ _ _ _),Ya ((Yj _ _).alloc (Yd _) _),heap_alloc_new w _⟩
  case round =>
   obtain⟨k,A2,q,c2,hk0,hk1,rfl,rfl,hq,hown,hbel,hblk⟩:=hrel;have hzb:w.heap.size+1<=wr.heap.size:=(Yv.1 hblk).1;by_cases c0:1<=k
   .obtain⟨i,rfl⟩:=Ybi (show 0<=k by omega)
    have hi:i<s.size:=by omega
    have hat:=Ht.out.at_ i hi (by omega);have hq2:=hq.out;have hqi:s.size-1-i=q:=by omega
    rw[hqi] at hat;have hdb:=Zgz (by decide) Ht.out.dig q;obtain⟨d,hd⟩:=Yx (l.getD q 0);rw[<- hd] at hat hdb;have Hd:=Ya hd;have hql:q<l.length:=by have:=Hsl.out;omega
    have Htk:=Ya (show l.take (q+1)=l.take q++[d] by rw[Yar,Ye hql,hd,Yh,Ye hql];rfl);have e2:IntKind.i64.wrap ((i:Int)-1)=(i:Int)-1:=by rw[Yp _ (by omega)]
    have e3:IntKind.u8.wrap (48+d-48)=d:=by rw[IntWalk.u8_in _ (by omega)];omega
    have b1:decide (48+d<48)=false:=decide_eq_false (by omega);have b2:decide (57<48+d)=false:=decide_eq_false (by omega);have b3:decide (48+d>57)=false:=decide_eq_false (by omega);have i3:(i:Int)<(s.size:Int):=by omega
    have hz:=hbel.out.size;have hqb:q<=1000000:=by omega
    clear hd hq2 hqi hql;generalize hch:((s[i]'hi).toNat:Int)=ch at *;subst hat;go_wp2_with (at_builtin;refine Zk rfl (.tmp 51) (.tmp 57) _ rfl (w.heap.size+1) 3 Zkc underlying54 rfl (by decide) #[.int .i64 d] _ _ _ rfl hown.out rfl rfl rfl (by simp[Yt]) (by simp only[maxLen];omega) (by omega) hzb ?_;intro v' w7 ho7 hg7 hb7 hat7;obtain⟨A8,c8,rfl⟩:=Za ho7)
    go_roundw
    case rel=>exact⟨(i:Int)-1,A8,q+1,c8,by omega,by omega,by go_num,rfl,Ya (by have:=hq.out;omega),Ya (by rw[Htk.out,Ya3];exact ho7),Ya (hbel.out.trans (hb7.mono (Yc9 _))),(hb7.block w.heap.size (Yav _)).trans hblk⟩
    case measure=>simp[intOf] <;> omega
   .have ek:k=1-1:=by omega
    have hql:q=l.length:=by have:=hq.out;have:=Hsl.out;omega
    have HQ:=Ya hql;have hqb:q<=1000000:=by have:=Hsl.out;omega
    have HI:=Ya (show Ints wr wr.heap.size A2 l from by
     have h:=Ints.of_own hown.out;rw[hql,Yal] at h;exact h)
    have Hnil:=Ya (Zdj hown.out);have Hcap:=Ya (Zue hown.out);subst ek;clear hql;go_wp2_with fail
    refine(Zxo true A2 q c2 l HQ.out wr wr.heap.size HI.out (Yd _) hqb Hnil.out Hcap.out).mono ?_;rintro e w2 ⟨m,hm,rfl,hb2⟩;have Hm:=Ya hm;have HB2:=Ya hb2;have hz2:=hb2.size;have hblk2:=(hb2.block w.heap.size hzb).trans hblk;have hc0:w2.cell? ⟨w.heap.size,0,none⟩=some (.bool false):=by rw[Yb hblk2];rfl
    have hc1:w2.cell? ⟨w.heap.size,1,none⟩=some (.slice none 0 0):=by rw[Yb hblk2];rfl
    have hz0:w2.frozen? ⟨w.heap.size,0,none⟩=false:=frozen_of_row w2 w.heap.size 0 _ _ hblk2;have hz1:w2.frozen? ⟨w.heap.size,1,none⟩=false:=frozen_of_row w2 w.heap.size 1 _ _ hblk2;clear hm hb2;unfold Zib;go_wp2_with fail
    have hne:∀b off,A2=some ⟨b,off,none⟩->b≠w.heap.size:=λ b off e=>by
     subst e;have:=(hown.out.lt b rfl).1;omega
    refine bodyPost_ret (v:=.tuple #[Zib (true && decide (0<m)) A2 m c2,.int .i64 0]) (by simp[results,results74,go_sem,Zib,hc0,hc1]) rfl ?_;have hl2:(l.take m).length=m:=by rw[Y9];have:=Hm.out.1;omega
    have hml:=Hm.out.1;refine⟨_,A2,m,c2,l.take m,rfl,⟨Zuf Ht.out.dig Hm.out,hl2.symm,by rw[<- HQ.out] at hml;omega,?_,λ e=>by have:=Hnil.out e;rw[<- HQ.out] at hml;omega,by have:=Hcap.out;rw[<- HQ.out] at hml;omega⟩,?_⟩
    .exact((((HI.out.take_ m).below HB2.out).set hne _).set hne _).more (Yaa hz2 (((Yj 0 w2).setCell (Ya2 _) _).setCell (Ya2 _) _).size)
    .exact((hbel.out.trans (HB2.out.mono hbel.out.size)).setCell (Yd _) _).setCell (Yd _) _
theorem Znw {b:Int}(hb:1<=b){l:List Int}(hd:DgB b l)(q:Nat):0<=dvB b (l.drop q)/\dvB b (l.drop q)<=dvB b l:=by
 have h1:=Zay (show 0<=b by omega) (l:=l.drop q) λ d hd2=>hd d (List.mem_of_mem_drop hd2)
 refine⟨h1,?_⟩;by_cases c:q<=l.length
 .have e:dvB b l=dvB b (l.take q++l.drop q):=by rw[List.take_append_drop]
  rw[Zjw] at e;have h2:=Zay (show 0<=b by omega) (Zjx hd q);have h3:(0:Int)<b^(l.take q).length:=Ycs (by omega);have h4:=Int.mul_le_mul_of_nonneg_right (show 1<=b^(l.take q).length by omega) h1;omega
 .rw[List.drop_eq_nil_of_le (by omega)]
  exact Zay (by omega) hd
theorem Zzu (neg:Bool)(A:Option Addr)(N c:Nat)(l:List Int)(z:Int)(w:World)(B:Nat)(hB:B<=w.heap.size)(h:NumW w B z neg A N c l)(hz:-1000000000000000000<=z/\z<=1000000000000000000) :
 Calls prog 66 #[Zib neg A N c] w λ e w'=>e=.returned (.int .i64 z)/\Below w.heap.size w w':=by
 have H:=Ya h;obtain⟨⟨hx,hs⟩,hN,hf,hat,_,_⟩:=h;have HN:=Ya hN;have Hx:=Ya hx;have Hs:=Ya hs;have hnb:(if z<0 then -z else z)<=1000000000000000000:=by split <;> omega
 obtain⟨n,hn⟩:∃n,n=(if z<0 then -z else z):=⟨_,rfl⟩
 rw[<- hn] at hnb;have Hn:=Ya hn;have hdr:=λ q=>Znw (show(1:Int)<=10 by decide) hx.1 q
 have Hdr:=Ya hdr;have Hv:=Ya (show dvB 10 l=n by rw[hx.2.2,hn]);clear hx hs hN hat hn hdr;have wr0:IntKind.i64.wrap ((N:Int)-1)=(N:Int)-1:=by rw[Yp _ (by omega)]
 unfold Zib;go_enter func66,ntmps66
 go_wp2_with fail
 go_loopw [3,4] (λ v3 v4 wr=>∃k v:Int,-1<=k/\k<N/\v4=.int .i64 k/\v3=.int .i64 v/\Hid (v=dvB 10 (l.drop (k+1).toNat))/\∃q,wr=(w.alloc (.cells #[.bool neg,.slice A N c] 56)).drewN q) (λ _ v4 _=>(intOf v4+1).toNat)
 case atStart =>
  refine⟨(N:Int)-1,0,by omega,by omega,rfl,rfl,Ya ?_,0,rfl⟩;rw[show((N:Int)-1+1).toNat=N by omega,List.drop_eq_nil_of_le (by rw[<- HN.out];exact Yd _)];rfl
 case round =>
  obtain⟨k,v,hk0,hk1,rfl,rfl,hv,q0,rfl⟩:=hrel;by_cases c0:0<=k
  .obtain⟨q,rfl⟩:=Ybi c0
   have hq:q<N:=by omega
   obtain⟨b,off,hAe,hbB,hc1⟩:=H.out.at_.at_ (k:=q) (by rw[<- HN.out];exact hq);obtain⟨u,hu⟩:∃x,x=l.getD q 0:=⟨_,rfl⟩
   rw[<- hu] at hc1;have Hu:=Ya hu;have hub:=Zgz (by decide) Hx.out.1 q;rw[<- hu] at hub;have hd1:=Hdr.out q;have hd2:=Hdr.out (q+1);have hd3:=Zwy (b:=10) l q;have hv2:=hv.out;rw[show((q:Int)+1).toNat=q+1 by omega] at hv2;have hnx:=Ya (show 10*v+u=dvB 10 (l.drop q) by omega);have hb1:0<=10*v+u/\10*v+u<=1000000000000000000:=by have:=Hv.out;omega
   have hb2:0<=v:=by omega
   have e2:IntKind.i64.wrap ((q:Int)-1)=(q:Int)-1:=by rw[Yp _ (by omega)]
   have e3:IntKind.i64.wrap (q:Int)=(q:Int):=by rw[Yp _ (by omega)]
   have i3:(q:Int)<(N:Int):=by omega
   have i4:(0:Int)<=(q:Int):=by omega
   have e4:IntKind.i64.wrap (10*v)=10*v:=by rw[Yp _ (by omega)]
   have e5:IntKind.i64.wrap (10*v+u)=10*v+u:=by rw[Yp _ (by omega)]
   have hc2:(w.alloc (.cells #[.bool neg,.slice A N c] 56)).cell? ⟨b,off+q,none⟩=some (.int .i64 u):=(((Yj B w).alloc hB _).cell (p:=⟨b,off+q,none⟩) hbB).trans hc1;have hbw:b<w.heap.size:=by omega
   subst hAe;clear hu hd1 hd2 hd3 hv2;go_wp2_with fail
   go_roundw
   case rel =>
    refine⟨(q:Int)-1,10*v+u,by omega,by omega,by go_num,rfl,Ya ?_,_,rfl⟩;rw[hnx.out,show((q:Int)-1+1).toNat=q by omega]
   case measure=>simp[intOf] <;> omega
  .have ek:k=-1:=by omega
   subst ek;have hvn:v=n:=by
    have:=hv.out;rw[show((-1:Int)+1).toNat=0 by decide,Ybc,Hv.out] at this;exact this
   have e4:IntKind.i64.wrap (-v)=-v:=by rw[Yp _ (by have:=(Zay (show(0:Int)<=10 by decide) Hx.out.1);have:=Hv.out;omega)]
   have HV:=Ya hvn;clear hvn
   cases neg with
   | false =>
    have Hr:=Ya (show v=z by rw[HV.out,Hn.out,if_neg (of_decide_eq_false Hs.out.symm)]);go_wp2_with fail
    go_ret
    exact⟨by rw[<- Hr.out];rfl,by repeat (first|exact(Yj _ _).alloc (Yd _) _|refine below_drewN ?_ _)⟩
   | true =>
    have Hr:=Ya (show -v=z by rw[HV.out,Hn.out,if_pos (of_decide_eq_true Hs.out.symm),Int.neg_neg]);go_wp2_with fail
    go_ret
    exact⟨by rw[<- Hr.out];rfl,by repeat (first|exact(Yj _ _).alloc (Yd _) _|refine below_drewN ?_ _)⟩
theorem Zwz (s1 s2:ByteArray)(p1 p2:Nat)(n1 n2:Bool)(k1 k2:List Int)(ht1:Tz s1 p1 n1 k1)(ht2:Tz s2 p2 n2 k2)(hs1:s1.size<=1000000)(hs2:s2.size<=1000000)(neg:Bool)(A:Option Addr)(N c:Nat)(l:List Int)(z:Int)(w:World)(B:Nat)(hB:B<=w.heap.size)(h:NumW w B z neg A N c l) :
 Calls prog 65 #[Zib neg A N c,.string s1,.string s2] w λ e w'=>e=.returned (.bool (decide (tz n1 k1<=z) && decide (z<=tz n2 k2)))/\Below w.heap.size w w':=by
 have H:=Ya h;have H1:=Ya ht1;have H2:=Ya ht2;clear h ht1 ht2;unfold Zib;go_enter func65,ntmps65
 go_wp2_with fail
 refine(Znv s1 p1 n1 k1 H1.out hs1 _).mono ?_;rintro e w1 ⟨neg1,A1,m1,c1,l1,rfl,hn1,hb1⟩;have HN1:=Ya hn1;have hq0:=(Yj w.heap.size w).alloc (Yd _) (.cells #[.bool neg,.slice A N c] 56);have hsz0:w.heap.size<(w.alloc (.cells #[.bool neg,.slice A N c] 56)).heap.size:=by simp
 have HB1:=Ya (hq0.trans (hb1.mono (Yay hsz0)));have hx1:=(hb1.block w.heap.size hsz0).trans (heap_alloc_new w _);have hz1:w.heap.size<w1.heap.size:=Yr hsz0 hb1.size;clear hn1 hb1;unfold Zib;go_wp2_with fail
 refine(Znv s2 p2 n2 k2 H2.out hs2 _).mono ?_;rintro e w2 ⟨neg2,A2,m2,c2,l2,rfl,hn2,hb2⟩;have HN2:=Ya hn2;have hq1:=(Yj w1.heap.size w1).alloc (Yd _) (.cells #[.bool neg1,.slice A1 m1 c1] 56);have hsz1:w1.heap.size<(w1.alloc (.cells #[.bool neg1,.slice A1 m1 c1] 56)).heap.size:=by simp
 have HB12:=Ya (hq1.trans (hb2.mono (Yay hsz1)));have hx2:=(hb2.block w1.heap.size hsz1).trans (heap_alloc_new w1 _);have hx1':=(HB12.out.block w.heap.size hz1).trans hx1;have hz2:w1.heap.size<w2.heap.size:=Yr hsz1 hb2.size;have q00:w2.cell? ⟨w.heap.size,0,none⟩=some (.bool neg):=by rw[Yb hx1'];rfl
 have q01:w2.cell? ⟨w.heap.size,1,none⟩=some (.slice A N c):=by rw[Yb hx1'];rfl
 have q10:w2.cell? ⟨w1.heap.size,0,none⟩=some (.bool neg1):=by rw[Yb hx2];rfl
 have q11:w2.cell? ⟨w1.heap.size,1,none⟩=some (.slice A1 m1 c1):=by rw[Yb hx2];rfl
 have hzz:w.heap.size<w2.heap.size:=by omega
 have hal:=(Yj w2.heap.size w2).alloc (Yd _) (.cells #[.bool neg2,.slice A2 m2 c2] 56);have HAL:=Ya hal;have HB3:=Ya (HB1.out.trans ((HB12.out.trans (hal.mono (Yay hz2))).mono (Yay hz1)));have K0:=Ya ((H.out.below (HB3.out.mono hB)).more (Yaa hB HB3.out.size));have K1:=Ya ((HN1.out.below (HB12.out.trans (hal.mono (Yay hz2)))).more (HB12.out.trans (hal.mono (Yay hz2))).size);have K2:=Ya ((HN2.out.below hal).more hal.size);clear hn2 hb2 hq1 hx1 hx1' hx2 hsz1 hsz0 hq0 hal;unfold Zib;go_wp2_with fail
 refine(Z1r neg neg1 A A1 N c m1 c1 l l1 z _ _ _ (Yd _) K0.out K1.out).mono ?_;rintro e w4 ⟨rfl,hb4⟩;have hx3:=(hb4.block w2.heap.size (by simp)).trans (heap_alloc_new w2 (.cells #[.bool neg2,.slice A2 m2 c2] 56));have hx0:=(hb4.cell (p:=⟨w.heap.size,0,none⟩) (by show w.heap.size<_;simp;omega)).trans ((HAL.out.cell (p:=⟨w.heap.size,0,none⟩) hzz).trans q00);have hx1:=(hb4.cell (p:=⟨w.heap.size,1,none⟩) (by show w.heap.size<_;simp;omega)).trans ((HAL.out.cell (p:=⟨w.heap.size,1,none⟩) hzz).trans q01);have s0:w4.cell? ⟨w2.heap.size,0,none⟩=some (.bool neg2):=by rw[Yb hx3];rfl
 have s1:w4.cell? ⟨w2.heap.size,1,none⟩=some (.slice A2 m2 c2):=by rw[Yb hx3];rfl
 have HB4:=Ya (Zgd HB3.out hb4 HB3.out.size);have K0':=Ya ((K0.out.below hb4).more hb4.size);have K2':=Ya ((K2.out.below hb4).more hb4.size);clear hx3 q00 q01 q10 q11 hb4;by_cases c1':tz n1 k1<=z
 .have d1:decide (ae z (tz n1 k1)>=0)=true:=by
   unfold ae
   split
   .omega
   .split <;> simp
  have D1:=Ya (show decide (tz n1 k1<=z)=true from decide_eq_true c1');clear c1';generalize ae z (tz n1 k1)=o1 at *;go_wp2_with fail
  refine(Z1r neg neg2 A A2 N c m2 c2 l l2 z _ _ _ (Yd _) K0'.out K2'.out).mono ?_;rintro e w5 ⟨rfl,hb5⟩;have HB5:=Ya (Zgd HB4.out hb5 HB4.out.size);have d2:decide (ae z (tz n2 k2)<=0)=decide (z<=tz n2 k2):=by
   unfold ae
   split
   .simp;omega
   .split
    .simp;omega
    .simp;omega
  have D2:=Ya d2;clear hb5 d2;generalize ae z (tz n2 k2)=o2 at *;go_wp2_with fail
  go_ret
  refine⟨?_,HB5.out⟩;rw[D1.out,<- D2.out];rfl
 .have d1:decide (ae z (tz n1 k1)>=0)=false:=by
   unfold ae;rw[if_pos (by omega)];rfl
  have D1:=Ya (show decide (tz n1 k1<=z)=false from decide_eq_false c1');clear c1';generalize ae z (tz n1 k1)=o1 at *;go_wp2_with fail
  go_ret
  refine⟨?_,HB4.out⟩;rw[D1.out];rfl
def S.bk:ByteArray:=⟨#[45,53,51,54,56,55,48,57,49,50]⟩
def S.bo:ByteArray:=⟨#[53,51,54,56,55,48,57,49,49]⟩
theorem tz_least:Tz bk 1 true [2,1,9,0,7,8,6,3,5]/\tz true [2,1,9,0,7,8,6,3,5]=-536870912:=by
 refine⟨⟨rfl,by decide,(λ d hd=>by simp at hd;rcases hd with rfl|rfl|rfl|rfl|rfl|rfl|rfl|rfl|rfl <;> decide),λ i hi h=>?_,.inr ⟨rfl,rfl,λ h=>rfl⟩⟩,by decide⟩;have h2:i<10:=hi;have:i=1\/i=2\/i=3\/i=4\/i=5\/i=6\/i=7\/i=8\/i=9:=by omega
 rcases this with rfl|rfl|rfl|rfl|rfl|rfl|rfl|rfl|rfl <;> rfl
theorem tz_most:Tz bo 0 false [1,1,9,0,7,8,6,3,5]/\tz false [1,1,9,0,7,8,6,3,5]=536870911:=by
 refine⟨⟨rfl,by decide,(λ d hd=>by simp at hd;rcases hd with rfl|rfl|rfl|rfl|rfl|rfl|rfl|rfl <;> decide),λ i hi h=>?_,.inl ⟨rfl,rfl⟩⟩,by decide⟩;have h2:i<9:=hi;have:i=0\/i=1\/i=2\/i=3\/i=4\/i=5\/i=6\/i=7\/i=8:=by omega
 rcases this with rfl|rfl|rfl|rfl|rfl|rfl|rfl|rfl|rfl <;> rfl
section
def S.bg:List ByteArray:=kHead::((objs26++objs28++[oMainV]).map S.Obj.name++[kTail])
theorem Zqr:(nodupB bg && (objs26++objs28++[oMainV]).all (λ o=>!S.badN o))=true:=by kernel_rfl
theorem Zw0 (gw sw:List Int):NamesRes (wObjsV gw sw) 0:=by
 have h:=Zqr;rw[Bool.and_eq_true] at h;have hn:(wObjsV gw sw).map S.Obj.name=bg:=by
  show((oHead gw sw::(objs26++objs28++[oMainV]))++[oTail]).map S.Obj.name=_
  rw[Ya3,List.map_cons];rfl
 have hd:((wObjsV gw sw).map S.Obj.name).Nodup:=by rw[hn];exact Zjv h.1
 refine .inr (.inr ⟨?_,λ o ho=>?_,rfl⟩)
 .rintro⟨i,j,a,b,hij,hi,hj,hab⟩
  have e1:((wObjsV gw sw).map S.Obj.name)[i]?=some a.name:=by rw[Yac,hi];rfl
  have e2:((wObjsV gw sw).map S.Obj.name)[j]?=some b.name:=by rw[Yac,hj];rfl
  obtain⟨l1,q1⟩:=Yg.1 e1;obtain⟨l2,q2⟩:=Yg.1 e2;have:=(List.nodup_iff_pairwise_ne.1 hd)
  rw[List.pairwise_iff_getElem] at this;exact this j i l2 l1 hij (by rw[q1,q2,hab])
 .have ho':o∈(oHead gw sw::(objs26++objs28++[oMainV]))++[oTail]:=ho
  rcases List.mem_append.1 ho' with q|q
  .rcases Yu.1 q with rfl|q
   .show(kHead.data.toList.isEmpty || ownB kHead)=false
    decide
   .have:=List.all_eq_true.1 h.2 o q
    simpa using this
  .rw[List.mem_singleton] at q
   subst q
   show(kTail.data.toList.isEmpty || ownB kTail)=false
   decide
structure S.bl (gw sw F:List Int)(heap:Int)(inp:List Int):Prop where
 forms:FormsRes (joined (wObjsV gw sw)) 0 0 F
 ok:∀b,(aa b gw sw F ((ac gw sw F).length+heap)).Ok
 words:∀x∈ac gw sw F,0<=x/\x<=4294967295
 wd:WdV gw sw F ((ac gw sw F).length+heap) (wM (ac gw sw F) heap inp)
 fst:bz gw sw F heap (wM (ac gw sw F) heap inp)
 len:((ac gw sw F).length:Int)=(aa true gw sw F ((ac gw sw F).length+heap)).lab kEnd
 small:(ac gw sw F).length<=18000
def S.bm (gw sw F:List Int):List (ByteArray×Int):=placesTo (joined (wObjsV gw sw)) F 0 (joined (wObjsV gw sw)).length
section
variable {gw sw:List Int}(hg:∀x∈gw,0<=x/\x<=4294967295)(hs:∀x∈sw,0<=x/\x<=4294967295)(hgl:gw.length<=100)(hsl:sw.length<=100)
include hg hs hgl hsl
theorem Z2b {heap:Int}{inp:List Int}(hinp:∀x∈inp,0<=x/\x<=255)(h0:1<=heap/\heap<=1000000){r:Int}{L:List Int}{P:List (ByteArray×Int)}(h:Zgu (wObjsV gw sw) 0 r L P):r=0/\∃F,bl gw sw F heap inp/\L=ac gw sw F/\P=bm gw sw F:=by
 have hw:=Zoq gw sw hg hs;rcases h with⟨h1,h2,_⟩|⟨_,F,h1,h2,h3⟩
 .exact absurd (Zld h2 (Zw0 gw sw)) h1
 .obtain⟨a0,ha0⟩:=Yx (addr (joined (wObjsV gw sw)) F 0 (joined (wObjsV gw sw)).length)
  by_cases hr:r=0
  .subst hr
   have hF:FormOk (joined (wObjsV gw sw)) F:=by
    rcases h1 with⟨h,_⟩|⟨h,_⟩|⟨_,_,h,_⟩
    .exact absurd rfl h
    .omega
    .exact h.1
   have hsz:=(Zbv (base:=0) hF hw (joined (wObjsV gw sw)).length).1;have key:=λ size:Int=>Z1u (e:=0) (F:=F) (size:=size) h1 hg hs hgl hsl
   have hsm:addr (joined (wObjsV gw sw)) F 0 (joined (wObjsV gw sw)).length<=67108864:=by
    rcases h1 with⟨h,_⟩|⟨h,_⟩|⟨_,_,_,_,h5⟩
    .exact absurd rfl h
    .omega
    .exact h5
   obtain⟨-,hok,hle⟩:=key (addr (joined (wObjsV gw sw)) F 0 (joined (wObjsV gw sw)).length+heap) (λ _=>by omega) (by omega);have hlen:((ac gw sw F).length:Int)=addr (joined (wObjsV gw sw)) F 0 (joined (wObjsV gw sw)).length:=by
    have h5:=Znz (hok true);have h6:=(Zdx (hok true)).2.2;have h7:(aa true gw sw F (addr (joined (wObjsV gw sw)) F 0 (joined (wObjsV gw sw)).length+heap)).adr (aa true gw sw F (addr (joined (wObjsV gw sw)) F 0 (joined (wObjsV gw sw)).length+heap)).xs.length=addr (joined (wObjsV gw sw)) F 0 (joined (wObjsV gw sw)).length:=rfl;omega
   rw[<- hlen] at hok;have hwd:=λ x hx=>Zgm (F:=F) (base:=0) hw (joined (wObjsV gw sw)).length x hx
   obtain⟨k1,k2⟩:=Zui (inp:=inp) (hok true) hwd hinp (by omega);refine⟨rfl,F,⟨h1,hok,hwd,k1,k2,Znz (hok true),by omega⟩,?_,?_⟩
   .rw[h2,if_pos rfl];rfl
   .rw[h3,if_pos rfl];rfl
  .exfalso
   have:=(Z1u (e:=r) (F:=F) (size:=100000000) h1 hg hs hgl hsl (λ h=>absurd h hr) (by decide)).1;exact hr this
end
theorem Zci (gw sw:List Int)(hgl:gw.length<=100)(hsl:sw.length<=100):(joined (af gw sw (objs26++objs28++[oMainV]))).length<=1048576:=by
 have e:af gw sw (objs26++objs28++[oMainV])=wObjsV gw sw:=rfl;have hm:midV.length<=100000:=by
  have h:decide (midV.length<=100000)=true:=by kernel_rfl
  exact of_decide_eq_true h
 rw[e,Za5,Yc,Yc,Zbe,show tItems.length=3 from rfl];omega
end
def Pass (F:Nat->Prop)(w:World)(F':Nat->Prop)(w':World):Prop:=Only F w w'/\∀k,k<w.heap.size->F' k->F k
theorem Pass.of_only {F:Nat->Prop}{w w':World}(h:Only F w w'):Pass F w F w':=⟨h,λ _ _ q=>q⟩
theorem Pass.of_below {F:Nat->Prop}{w w':World}(h:Below w.heap.size w w'):Pass F w F w':=.of_only (.of_below h)
theorem Pass.trans {F F1 F2:Nat->Prop}{w w1 w2:World}(h:Pass F w F1 w1)(k:Pass F1 w1 F2 w2):Pass F w F2 w2 :=
 ⟨h.1.trans k.1 λ i hi q=>h.2 i hi q,λ i hi q=>h.2 i hi (k.2 i (Yr hi h.1.size) q)⟩
def Out (w:World)(F:Nat->Prop)(b:Nat):Prop:=b<w.heap.size/\¬F b
section
section
variable {w w':World}{F F':Nat->Prop}{gb:Nat}{a:Int}{lo b p:Nat}{H half:Int}{P:List (ByteArray×Int)}{m:S.Mach}
theorem Znx (i:Int)(h:KAt w lo b p F H half P m):Calls prog 15 #[.pointer (some ⟨b,0,none⟩),.int .i64 i] w λ e w'=>e=.returned (.int .u32 (m.memV i))/\Below w.heap.size w w':=by
 refine(Z0s i h).mono ?_;rintro e w' ⟨rfl,n,rfl⟩;exact⟨rfl,below_drewN (Yj _ _) n⟩
end
end
section
def S.bj (m2:S.Mach)(en:Int):Int:=if m2.state≠1 then -1 else if m2.place=en then 0 else 1+m2.code
def S.a9 (m:S.Mach)(st a:Int)(N:Int):S.Mach:=((m.setV 31 st).goV a).steps_ N.toNat
section
variable {w w':World}{F:Nat->Prop}{lo b p:Nat}{H half:Int}{P:List (ByteArray×Int)}{m:S.Mach}
end
end
section
attribute [local irreducible] midV
namespace S
end S
section
variable {gw sw F:List Int}{size:Int}(hI:(aa true gw sw F size).Ok)
include hI
theorem Z2c {a:Int}(h0:(aa true gw sw F size).lab kEnd<=a)(h1:a<size):Dat (aa true gw sw F size) a:=by
 have he:=Zdf hI;refine⟨by omega,h1,λ q=>?_,λ q=>?_⟩
 .have q1:=q.2
  have e2:(aa true gw sw F size).hi=1312:=rfl;omega
 .have:=(Ze6 hI).1 q
  omega
end
end
