/- Parts. -/
import Derived.Test.YtldbnjajjfgipaaGreatDoorZVKx
import Derived.Test.YtldbnjajjfgipaaGreatDoorZVCa
set_option linter.all false
set_option maxHeartbeats 8000000
open Go.Lib renaming hid->Ya,cell_of_heap->Yb
open Nat renaming le_refl->Yd,zero_add->Yw,le_trans->Yaa,zero_le->Ya2
open List renaming getElem?_eq_getElem->Ye,length_cons->Yk,mem_cons->Yu,not_mem_nil->Yy,length_nil->Yae,mem_singleton->Yaf,take_add_one->Yar,take_of_length_le->Yax,getElem_mem->Ya7
open Go.RowKit.Below renaming refl->Yj
open Go.IntWalk renaming i64_in->Yp
open Go.Value renaming int->Ys
open Array renaming getElem?_eq_some_iff->Yv
open Int renaming tmod_eq_emod_of_nonneg->Yas,tdiv_eq_ediv_of_nonneg->Ybw,le_trans->Yb8
namespace Go.Proofs.YtldbnjajjfgipaaGreatDoor
open S Go.Proofs.Tryz Go.RowKit
set_option maxRecDepth 100000
section
attribute [local irreducible] midV
def S.vI (F:List Int)(heap:Int):Img:=aa true [] [] F ((ac [] [] F).length+heap)
def S.vM (F:List Int)(heap:Int)(inp:List Int):S.Mach:=wM (ac [] [] F) heap inp
def S.vE (F:List Int)(heap:Int)(m:S.Mach)(op:Int)(N:Nat):Int:=ao (ab (vI F heap) m (kRt op) N) ((vI F heap).lab kMapped+1)
theorem Zdt (m:S.Mach){i:Int}(v:Int)(h0:0<i)(h1:i<32):(m.setV i v).input=m.input:=by rw[Za6 h0 h1]
theorem Zch (m:S.Mach)(i v:Int):(m.putV i v).input=m.input:=(Za3 m i v).2.2.1
theorem Zqc (L:List Int)(n:Nat)(inp:List Int):(Zh9 L n inp).input=inp:=by unfold Zh9;rfl
theorem Zwm (L:List Int)(heap:Int)(inp:List Int):(wM L heap inp).input=inp:=by
 unfold wM;rw[Zdt _ _ (by decide) (by decide),Zdt _ _ (by decide) (by decide),Zdt _ _ (by decide) (by decide),Zch,Zch,Zch,Zch,Zch,Zqc]
theorem Z3m (F:List Int)(heap:Int)(inp:List Int):vM F heap inp=wM (ac [] [] F) heap inp:=rfl
theorem Z1v {F:List Int}{size v:Int}{m0:S.Mach}(hI:(aa true [] [] F size).Ok)(hw:WdV [] [] F size m0)(hv:0<=v/\v<=4294967295):WdV [] [] F size (m0.setV 4 v)/\(m0.setV 4 v).rd 4=v/\(m0.setV 4 v).input=m0.input :=
 ⟨Zef hI hw (by decide) (λ h=>absurd h (by decide)) hv,by rw[Zbh hw.ok (by decide) (by decide),if_pos rfl],Zdt _ _ (by decide) (by decide)⟩
section
variable {F:List Int}{heap:Int}{inp:List Int}(hw:bl [] [] F heap inp)(hh:100<=heap)
include hw hh
theorem Zty {m1 M:S.Mach}{i:Int}(h1:m1=S.takeM (vM F heap inp) 4 [1554,1570])(hM:M=(m1.setV 4 (4*(ac [] [] F).length+1)).setV 5 (4*i))(hi:0<=i/\i<=2){N:Nat}(hN:4000<=N) :
 (i=1->vE F heap M 21 N=0/\(ab (vI F heap) M (kRt 21) N).rd 4=1570)/\(i=2->vE F heap M 21 N=4):=by
 have hI:=hw.ok true;have he:=Zdf hI;have hlen:=hw.len;have hs2:=hI.size2;have hs3:(aa true [] [] F ((ac [] [] F).length+heap)).size=(ac [] [] F).length+heap:=rfl;have hsm:=hw.small;obtain⟨t1,t2,t3,t4,t5,t6⟩:=Zo1 hI (m:=vM F heap inp) (H:=(ac [] [] F).length) (typ:=4) (ws:=[1554,1570]) hw.wd (λ x hx=>by
  simp only[Yu,Yy,or_false] at hx;omega) ((hw.fst.rd 26).trans rfl) (by decide) (by decide) (by omega) (by simp only[Yk,Yae];omega)
 rw[<- h1] at t1 t2 t3 t4 t5 t6;have w1:=Zef hI t1 (i:=4) (v:=4*((ac [] [] F).length:Int)+1) (by decide) (λ h=>absurd h (by decide)) (by omega);have w2:=Zef hI w1 (i:=5) (v:=4*i) (by decide) (λ h=>absurd h (by decide)) (by omega);rw[<- hM] at w2;have r4:M.rd 4=4*((ac [] [] F).length:Int)+1:=by
  rw[hM,Zbh w1.ok (by decide) (by decide),if_neg (by decide),Zbh t1.ok (by decide) (by decide),if_pos rfl]
 have r5:M.rd 5=4*i:=by rw[hM,Zbh w1.ok (by decide) (by decide),if_pos rfl]
 have mv:∀a,M.mv a=m1.mv a:=λ a=>by rw[hM,Zcp (by decide) (by decide),Zcp (by decide) (by decide)]
 have hd:HdAt (aa true [] [] F ((ac [] [] F).length+heap)) M.mv (ac [] [] F).length 4 2:=⟨by decide,by omega,λ j hj=>Z2c hI (by omega) (by omega),by rw[mv,t4];rfl⟩
 have key:=Z14 hI w2 r4 r5 (by omega) hd hN;refine⟨λ e=>?_,λ e=>?_⟩
 .obtain⟨k1,k2⟩:=key.1 (by omega)
  refine⟨k1,k2.trans ?_⟩;rw[mv,e];exact t5 1 (by decide)
 .exact key.2 (by omega)
theorem Zwn {M:S.Mach}{v:Int}(hM:M=(vM F heap inp).setV 4 v)(hv:0<=v/\v<=4294967295):WdV [] [] F ((ac [] [] F).length+heap) M/\M.rd 4=v/\M.input=(vM F heap inp).input:=by
 rw[hM,Z3m];exact Z1v (hw.ok true) hw.wd hv
theorem Zqd {M:S.Mach}(hM:M=(vM F heap inp).setV 4 4){N:Nat}(hN:4000<=N):vE F heap M 16 N=3:=by
 obtain⟨w,r,_⟩:=Zwn hw hh hM (by decide);exact Zuc (hw.ok true) w r hN
theorem Zqe {M:S.Mach}(hM:M=(vM F heap inp).setV 4 260){N:Nat}(hN:4000<=N):vE F heap M 17 N=0/\(ab (vI F heap) M (kRt 17) N).rd 4=1042:=by
 obtain⟨w,r,_⟩:=Zwn hw hh hM (by decide);exact Zud (hw.ok true) w r hN
theorem Zwo {M:S.Mach}(hM:M=(vM F heap inp).setV 4 800){N:Nat}(hN:4000<=N):vE F heap M 38 N=0/\(ab (vI F heap) M (kRt 38) N).out=[200]:=by
 obtain⟨w,r,_⟩:=Zwn hw hh hM (by decide);exact Zzr (hw.ok true) w r hN
theorem Zza {M:S.Mach}(hM:M=(vM F heap inp).setV 4 28){N:Nat}(hN:4000<=N):vE F heap M 39 N=8:=by
 obtain⟨w,r,_⟩:=Zwn hw hh hM (by decide);exact Z16 (hw.ok true) w r hN
theorem Zzb (hi:inp=[9]){N:Nat}(hN:4000<=N):vE F heap (vM F heap inp) 37 N=0/\(ab (vI F heap) (vM F heap inp) (kRt 37) N).rd 4=36:=by
 exact Z15 (hw.ok true) hw.wd ((Zwm _ _ _).trans hi) hN
theorem Zwp {M:S.Mach}(hM:M=((vM F heap inp).setV 4 8).setV 5 22){N:Nat}(hN:4000<=N) :
 vE F heap M 27 N=0/\(ab (vI F heap) M (kRt 27) N).rd 4=4*(ac [] [] F).length+1/\(ab (vI F heap) M (kRt 27) N).mv (ac [] [] F).length=71/\(ab (vI F heap) M (kRt 27) N).mv ((ac [] [] F).length+1)=22/\(ab (vI F heap) M (kRt 27) N).mv ((ac [] [] F).length+2)=22:=by
 have hI:=hw.ok true;have hlen:=hw.len;have w1:=Zef hI hw.wd (i:=4) (v:=8) (by decide) (λ h=>absurd h (by decide)) (by decide);have w2:=Zef hI w1 (i:=5) (v:=22) (by decide) (λ h=>absurd h (by decide)) (by decide);have hM':M=((wM (ac [] [] F) heap inp).setV 4 8).setV 5 22:=hM;rw[<- hM'] at w2;have rd:∀j,M.rd j=if j=5 then 22 else if j=4 then 8 else(wM (ac [] [] F) heap inp).rd j:=λ j=>by
  rw[hM',Zbh w1.ok (by decide) (by decide),Zbh hw.wd.ok (by decide) (by decide)]
 exact Zzs hI w2 (H:=(ac [] [] F).length) (half:=heap/2) (by rw[rd];rfl) (by rw[rd];rfl) ((rd 26).trans (hw.fst.rd 26)) ((rd 27).trans (hw.fst.rd 27)) (by
  rw[hM',Zcp (by decide) (by decide),Zcp (by decide) (by decide)];exact hw.fst.low 7 (by decide) (by decide)) (by omega) (by omega) (by omega) hN
end
end
section
theorem Zzc (a b:Int):(⟨#[114,116]⟩:ByteArray)++strOfNums [a,b]=⟨#[114,116,UInt8.ofNat a.toNat,UInt8.ofNat b.toNat]⟩:=by
 apply ByteArray.ext
 simp[strOfNums]
theorem Zzd (op:Int)(h:10<=op/\op<=99)(w:World):Calls prog 16 #[.int .i64 op] w λ e w'=>e=.returned (.string ⟨#[114,116,UInt8.ofNat (48+op/10).toNat,UInt8.ofNat (48+op%10).toNat]⟩)/\Below w.heap.size w w':=by
 have d1:decide (op<10)=false:=decide_eq_false (by omega);have q1:Int.tdiv op 10=op/10:=Ybw (by omega);have q2:Int.tmod op 10=op%10:=Yas (by omega);have e1:IntKind.i64.wrap (48+op/10)=48+op/10:=Yp _ ⟨by omega,by omega⟩;have e2:IntKind.i64.wrap (48+op%10)=48+op%10:=Yp _ ⟨by omega,by omega⟩;have e3:IntKind.u8.wrap (48+op/10)=48+op/10:=IntWalk.u8_in _ ⟨by omega,by omega⟩;have e4:IntKind.u8.wrap (48+op%10)=48+op%10:=IntWalk.u8_in _ ⟨by omega,by omega⟩;have hcv:(convert 46 9 (.slice (some ⟨w.heap.size,0,none⟩) 2 2)).run prog (w.alloc (.cells #[.int .u8 (48+op/10),.int .u8 (48+op%10)] 5))=.ok (.string (strOfNums [48+op/10,48+op%10])) (w.alloc (.cells #[.int .u8 (48+op/10),.int .u8 (48+op%10)] 5)):=Z1s w [48+op/10,48+op%10] 2 rfl;have hsz:(strOfNums [48+op/10,48+op%10]).size=2:=by rw[strOfNums_size];rfl
 have Hst:=Ya (Zzc (48+op/10) (48+op%10));generalize strOfNums [48+op/10,48+op%10]=sn at *;go_enter func16,ntmps16
 go_wp2_with fail
 go_ret
 exact⟨by rw[<- Hst.out];rfl,(Yj _ _).alloc (Yd _) _⟩
theorem Zot {op:Int}(h:op∈kPrims)(w:World):Calls prog 16 #[.int .i64 op] w λ e w'=>e=.returned (.string (kRt op))/\Below w.heap.size w w':=by
 have hk:(10<=op/\op<=99)/\(⟨#[114,116,UInt8.ofNat (48+op/10).toNat,UInt8.ofNat (48+op%10).toNat]⟩:ByteArray)=kRt op:=by
  unfold kPrims at h;simp only[Yu,Yy,or_false] at h;rcases h with rfl|rfl|rfl|rfl|rfl|rfl|rfl|rfl <;> exact⟨by decide,by kernel_rfl⟩
 have h2:=Zzd op hk.1 w;rw[hk.2] at h2;exact h2
namespace S
inductive Dd where
 | str (t:ByteArray)
 | int (t:ByteArray) (z:Int)
def Dd.cells:Dd->List Value
 | .str t=>[.int .i64 4,.int .i64 0,.string t,.slice none 0 0,.int .i64 0]
 | .int t _=>[.int .i64 2,.int .i64 0,.string t,.slice none 0 0,.int .i64 0]
def Dd.Ok:Dd->Prop
 | .str t=>t.size<=1000
 | .int t z=>t.size<=1000/\(0<=z/\z<=1000000)/\∃p neg l,Tz t p neg l/\tz neg l=z
def Dd.mach (m:Mach):Dd->Mach
 | .str t=>takeM m 4 (charsU (octs t))
 | .int _ _=>m
def Dd.word (m:Mach):Dd->Int
 | .str _=>4*m.rd 26+1
 | .int _ z=>4*z
def Dd.isStr:Dd->Bool
 | .str _=>true
 | .int _ _=>false
def askM (m:Mach):List Dd->Mach
 | []=>m
 | d::r=>askM (d.mach m) r
def askW (m:Mach):List Dd->List Int
 | []=>[]
 | d::r=>d.word m::askW (d.mach m) r
end S
theorem Zmb:∀(l:List S.Dd)(m:S.Mach)(d:S.Dd),S.askM m (l++[d])=d.mach (S.askM m l)
 | [],_,_=>rfl
 | x::l,m,d=>Zmb l (x.mach m) d
theorem Zmc:∀(l:List S.Dd)(m:S.Mach)(d:S.Dd),S.askW m (l++[d])=S.askW m l++[d.word (S.askM m l)]
 | [],_,_=>rfl
 | x::l,m,d=>by
  show _::S.askW (x.mach m) (l++[d])=_::(S.askW (x.mach m) l++_)
  rw[Zmc l (x.mach m) d];rfl
theorem Zou:∀(l:List S.Dd)(m:S.Mach),(S.askW m l).length=l.length
 | [],_=>rfl
 | x::l,m=>by
  show(S.askW (x.mach m) l).length+1=_
  rw[Zou l (x.mach m),Yk]
theorem Zjh:∀(l:List Int)(m:S.Mach)(i x:Int),setsV m i (l++[x])=(setsV m i l).setV (i+l.length) x
 | [],m,i,x=>by
  show m.setV i x=m.setV (i+((0:Nat):Int)) x
  rw[show i+((0:Nat):Int)=i by omega]
 | y::l,m,i,x=>by
  show setsV (m.setV i y) (i+1) (l++[x])=_
  rw[Zjh l (m.setV i y) (i+1) x]
  show(setsV (m.setV i y) (i+1) l).setV _ x=(setsV (m.setV i y) (i+1) l).setV _ x
  rw[show i+1+(l.length:Int)=i+((y::l).length:Int) by rw[Yk];omega]
theorem Zh0 (d:S.Dd):d.cells.length=5:=by cases d <;> rfl
theorem Zov (ds:List S.Dd)(k:Nat)(hk:k<ds.length)(j:Nat)(hj:j<5):(ds.flatMap S.Dd.cells)[k*5+j]?=ds[k].cells[j]?:=by
 induction ds generalizing k with
 | nil=>simp at hk
 | cons d r ih =>
  rw[List.flatMap_cons]
  cases k with
  | zero =>
   rw[Nat.zero_mul,Yw,List.getElem?_append_left (by rw[Zh0];exact hj)];rfl
  | succ k =>
   rw[List.getElem?_append_right (by rw[Zh0];omega),Zh0,show(k+1)*5+j-5=k*5+j by omega];exact ih k (by rw[Yk] at hk;omega)
section
variable {w:World}{F:Nat->Prop}{lo b p:Nat}{H half:Int}{P:List (ByteArray×Int)}{m:S.Mach}
theorem Zze (d:S.Dd)(hd:d.Ok)(hK:KAt w lo b p F H half P m)(h26:0<=m.rd 26/\m.rd 26<=100000000) :
 Calls prog 11 #[.pointer (some ⟨b,0,none⟩),.agg d.cells.toArray] w λ e w'=>e=.returned (.int .u32 (d.word m))/\KAt w' lo b p F H half P (d.mach m)/\Only F w w'/\(d.isStr=false->Below w.heap.size w w'):=by
 cases d with
 | str t =>
  refine(Zwk 0 t (Yaa hd (by decide)) hK h26).mono ?_;rintro e w' ⟨rfl,h1,h2⟩;exact⟨rfl,h1,h2,λ h=>by cases h⟩
 | int t z =>
  obtain⟨h1,h2,pz,neg,l,h3,h4⟩:=hd;refine(Zwj 0 t pz neg l h3 (Yaa h1 (by decide)) z h4 h2 w b).mono ?_;rintro e w' ⟨rfl,hb⟩;exact⟨rfl,hK.below hb,Only.of_below hb,λ _=>hb⟩
end
end
def S.al (F:List Int)(heap:Int)(inp:List Int)(ds:List S.Dd):S.Mach:=setsV (S.askM (vM F heap inp) ds) 4 (S.askW (vM F heap inp) ds)
structure S.ap (F:List Int)(inp:List Int)(ds:List S.Dd):Prop where
 r26:∀k,k<=ds.length->0<=(S.askM (vM F 8000 inp) (ds.take k)).rd 26/\(S.askM (vM F 8000 inp) (ds.take k)).rd 26<=100000000
 wd:∀x∈S.askW (vM F 8000 inp) ds,0<=x/\x<=4294967295
 st:(al F 8000 inp ds).state=0
 out:(al F 8000 inp ds).out=[]
 steps:(al F 8000 inp ds).steps=0
theorem Zqf {op:Int}(h:op∈kPrims):kRt op∈wTellsV/\op.toNat=op:=by
 unfold kPrims at h;simp only[Yu,Yy,or_false] at h;have q:=has_rtsV;rcases h with rfl|rfl|rfl|rfl|rfl|rfl|rfl|rfl
 .exact⟨q.1,rfl⟩
 .exact⟨q.2.1,rfl⟩
 .exact⟨q.2.2.1,rfl⟩
 .exact⟨q.2.2.2.1,rfl⟩
 .exact⟨q.2.2.2.2.1,rfl⟩
 .exact⟨q.2.2.2.2.2.1,rfl⟩
 .exact⟨q.2.2.2.2.2.2.1,rfl⟩
 .exact⟨q.2.2.2.2.2.2.2,rfl⟩
theorem Zqg:kMapped∈wTellsV:=Zd2 (by kernel_rfl)
theorem Zxq {Fs inp:List Int}{heap:Int}(hw:bl [] [] Fs heap inp){op:Int}(hop:op∈kPrims){w:World}{lo b p:Nat}{F:Nat->Prop}{H half:Int}{M:S.Mach}(hK:KAt w lo b p F H half (bm [] [] Fs) M)(h0:M.state=0)(h1:M.out=[])(h2:M.steps=0)(N:Nat)(hN:N<=1000000) :
 Calls prog 14 #[.pointer (some ⟨b,0,none⟩),.string (kRt op),.bool true,.int .i64 N] w λ e w'=>e=.returned (.int .i64 (vE Fs heap M op.toNat N))/\Z2f w lo b p F H half (bm [] [] Fs) (ab (vI Fs heap) M (kRt op) N) w':=by
 obtain⟨ht,hon⟩:=Zqf hop;have hI:=hw.ok true;obtain⟨f1,f2,f3⟩:=Zf6 (gw:=[]) (sw:=[]) (F:=Fs) (size:=(ac [] [] Fs).length+heap) hI ht;obtain⟨g1,g2,g3⟩:=Zf6 (gw:=[]) (sw:=[]) (F:=Fs) (size:=(ac [] [] Fs).length+heap) hI Zqg;obtain⟨s1,s2,s3⟩:=Zf6 (gw:=[]) (sw:=[]) (F:=Fs) (size:=(ac [] [] Fs).length+heap) hI Zru;have h:=Zy7 (kRt op) N _ _ _ hK f1 s1 g1 ⟨f2,Yb8 f3 (by decide)⟩ ⟨s2,Yb8 s3 (by decide)⟩ ⟨g2,Yb8 g3 (by decide)⟩ h0 h1 h2 (by omega);have e:a9 M ((aa true [] [] Fs ((ac [] [] Fs).length+heap)).lab kMapped) ((aa true [] [] Fs ((ac [] [] Fs).length+heap)).lab (kRt op)) N=ab (vI Fs heap) M (kRt op) N:=by
  unfold a9 ab;rw[Int.toNat_natCast];rfl
 rw[e] at h;unfold vE;rw[hon];exact h
def Zzf (op:Int)(ds:List S.Dd)(inp:List Int)(w:World)(e:Ending)(w':World):Prop :=
 ∃Fs b p F A n c,bl [] [] Fs 8000 inp/\e=.returned (.tuple #[.pointer (some ⟨b,0,none⟩),.slice A n c,.int .i64 (vE Fs 8000 (al Fs 8000 inp ds) op.toNat 400000)]) /\
  KAt w' w.heap.size b p F (ac [] [] Fs).length 4000 (bm [] [] Fs) (ab (vI Fs 8000) (al Fs 8000 inp ds) (kRt op) 400000)/\Below w.heap.size w w'
theorem Ztz (op:Int)(hop:op∈kPrims)(ds:List S.Dd)(hd:∀d∈ds,d.Ok)(hs1:∀k d,ds[k]?=some d->d.isStr=true->k=0)(hdl:ds.length<=3)(inp:List Int)(hib:∀x∈inp,0<=x/\x<=255)(hil:inp.length<=1000)(hok:∀Fs,bl [] [] Fs 8000 inp->ap Fs inp ds)
 (Aa Ai:Option Addr) (n ca ci ni:Nat) (hn:n=ds.length) (hni:ni=inp.length) (w:World) (hL:LVE w) (ha:Reads w w.heap.size Aa (ds.flatMap S.Dd.cells)) (hi:Reads w w.heap.size Ai (inp.map (Ys .u8))) (hA0:Ai=none->ni=0) :
 Calls prog 8 #[.int .i64 op,.slice Aa n ca,.slice Ai ni ci,.int .i64 (-1)] w (Zzf op ds inp w):=by
 have HOP:=Ya hop;have HD:=Ya hd;have HS:=Ya hs1;have HN:=Ya hn;have HA:=Ya ha;have HL:=Ya hL;have HOk:=Ya hok;have HLab:=Ya (λ W=>Zot hop W);have HW:=Ya (Zma 8000 (by decide) inp hib hil Ai ci ni hni w hL hi hA0);rw[<- hn] at hdl;clear hop hd hs1 hn ha hL hi hib hil hok hni hA0;go_enter func8,ntmps8
 go_wp2_with fail
 refine HW.out.mono ?_;rintro e w1 ⟨Fs,b,p,F,hwr,rfl,hk1,hb1⟩;have HWr:=Ya hwr;have HAk:=Ya (HOk.out Fs hwr);have HB1:=Ya hb1;have hsz1:=hb1.size;obtain⟨m0,hm0⟩:=Yx (vM Fs 8000 inp);have hk1':KAt w1 w.heap.size b p F (ac [] [] Fs).length 4000 (bm [] [] Fs) m0:=by rw[hm0];exact hk1
 have HM0:=Ya hm0;have HK1:=Ya hk1';clear hwr hk1 hk1' hb1 HW HOk hm0;obtain⟨L,hL0⟩:∃L:Int,L=(ac [] [] Fs).length:=⟨_,rfl⟩
 rw[<- hL0] at HK1;have HLe:=Ya hL0;obtain⟨PP,hPP⟩:=Yx (bm [] [] Fs);rw[<- hPP] at HK1;have HPP:=Ya hPP;clear hL0 hPP;go_wp2_with fail
 go_loopw [12,13] (λ v12 v13 wr=>∃(k:Nat)(A:Option Addr)(c:Nat)(wm:World),k<=n/\v13=.int .i64 k/\v12=.slice A k c/\Hid (KAt wm w.heap.size b p F L 4000 PP (S.askM m0 (ds.take k)))/\Hid (Below wm.heap.size wm wr)/\Hid (wr.ownsRow wm.heap.size 31 1 (.slice A k c) k ((S.askW m0 (ds.take k)).map (Ys .u32)))/\Hid (k=0->A=none/\c=0)/\Hid (Below w.heap.size w wr)) (λ _ v13 _=>n-(intOf v13).toNat)
 case atStart=>exact⟨0,none,0,w1,Ya2 _,rfl,rfl,HK1,Ya (Yj _ _),Ya ⟨rfl,.inl ⟨rfl,rfl⟩⟩,Ya (λ _=>⟨rfl,rfl⟩),HB1⟩
 case round =>
  clear HK1 HB1;obtain⟨k,A,c,wm,hk,rfl,rfl,HKm,HBm,HO,HZ,HB⟩:=hrel;by_cases hlt:k<n
  .have d1:decide ((k:Int)<(n:Int))=true:=decide_eq_true (by omega)
   have i3:(k:Int)<(n:Int):=by omega
   have hkd:k<ds.length:=by rw[<- HN.out];exact hlt
   obtain⟨d,hdk⟩:=Yx ds[k];have HDk:=Ya hdk;obtain⟨g,off,rfl,hg,hcell⟩:=HA.out (by
    have:=Zov ds k hkd 0 (by decide);have h2:(ds[k].cells)[0]?≠none:=by cases ds[k] <;> simp[S.Dd.cells]
    rw[<- this] at h2;by_cases q:0<(ds.flatMap S.Dd.cells).length
    .exact q
    .exact absurd (List.getElem?_eq_none (by omega)) h2)
   have hc4:∀j v,j<5->d.cells[j]?=some v->wr.cell? ⟨g,off+(k*5+j),none⟩=some v:=λ j v hj hv=>(HB.out.cell (p:=⟨g,off+(k*5+j),none⟩) hg).trans (hcell (k*5+j) v (by rw[Zov ds k hkd j hj,<- HDk.out];exact hv))
   obtain⟨y0,y1,y2,y3,y4,hy⟩:∃y0 y1 y2 y3 y4,d.cells=[y0,y1,y2,y3,y4]:=by cases d <;> exact⟨_,_,_,_,_,rfl⟩
   rw[hy] at hc4;have c0:wr.cell? ⟨g,off+k*5,none⟩=some y0:=by have:=hc4 0 y0 (by decide) rfl;simpa using this
   have c1:wr.cell? ⟨g,off+(k*5+1),none⟩=some y1:=hc4 1 y1 (by decide) rfl;have c2:wr.cell? ⟨g,off+(k*5+2),none⟩=some y2:=hc4 2 y2 (by decide) rfl;have c3:wr.cell? ⟨g,off+(k*5+3),none⟩=some y3:=hc4 3 y3 (by decide) rfl;have c4:wr.cell? ⟨g,off+(k*5+4),none⟩=some y4:=hc4 4 y4 (by decide) rfl;have hkm:=HKm.out.below HBm.out;have hdt:=Zze d (HD.out d (by rw[HDk.out];exact Ya7 hkd)) hkm (by rw[HM0.out];exact HAk.out.r26 k (by omega));rw[hy] at hdt;have HDt:=Ya hdt;clear hcell hc4 hy hdt hkm hdk;have c1':wr.cell? ⟨g,off+k*5+1,none⟩=some y1:=c1;have c2':wr.cell? ⟨g,off+k*5+2,none⟩=some y2:=c2;have c3':wr.cell? ⟨g,off+k*5+3,none⟩=some y3:=c3;have c4':wr.cell? ⟨g,off+k*5+4,none⟩=some y4:=c4;have e2:IntKind.i64.wrap ((k:Int)+1)=(k:Int)+1:=Yp _ ⟨by omega,by omega⟩;go_wp2_with fail
   refine HDt.out.mono ?_;rintro e w2 ⟨rfl,hk2,ho2,hbi⟩;have htk:ds.take (k+1)=ds.take k++[d]:=by rw[Yar,Ye hkd,HDk.out];rfl
   have hmM:S.askM m0 (ds.take (k+1))=d.mach (S.askM m0 (ds.take k)):=by rw[htk,Zmb]
   have hmW:S.askW m0 (ds.take (k+1))=S.askW m0 (ds.take k)++[d.word (S.askM m0 (ds.take k))]:=by rw[htk,Zmc]
   have hnew:∃wn,KAt wn w.heap.size b p F L 4000 PP (S.askM m0 (ds.take (k+1)))/\Below wn.heap.size wn w2/\w2.ownsRow wn.heap.size 31 1 (.slice A k c) k ((S.askW m0 (ds.take k)).map (Ys .u32)):=by
    rw[hmM]
    cases hst:d.isStr with
    | true =>
     have h0:=HS.out k d (by rw[Ye hkd,HDk.out]) hst;obtain⟨rfl,rfl⟩:=HZ.out h0;subst h0;exact⟨w2,hk2,Yj _ _,rfl,.inl ⟨rfl,rfl⟩⟩
    | false =>
     have hb:=hbi hst;have e:d.mach (S.askM m0 (ds.take k))=S.askM m0 (ds.take k):=by cases d <;> first|rfl|cases hst
     rw[e];exact⟨wm,HKm.out,HBm.out.trans (hb.mono HBm.out.size),Zc HO.out hb⟩
   obtain⟨wn,hkn,hbn,hon⟩:=hnew;have HKn:=Ya hkn;have HBn:=Ya hbn;have HOn:=Ya hon;have HMW:=Ya hmW;have hlo:=(HKm.out.below HBm.out)
   have HBt:=Ya (HB.out.trans (hlo.lobelow ho2 HB.out.size));have hzn:=hbn.size;obtain⟨wd,hwd⟩:=Yx (d.word (S.askM m0 (ds.take k)));rw[<- hwd] at HMW⊢;clear hk2 ho2 hbi htk hmM hmW hkn hbn hon hlo hwd HKm HBm HO HB HDt c0 c1 c2 c3 c4 c1' c2' c3' c4' HZ
   go_wp2_with (
    at_builtin;refine Zk rfl (.tmp 25) (.tmp 32) _ rfl wn.heap.size 31 Zmj underlying28 rfl (by decide) #[.int .u32 wd] _ _ _ rfl HOn.out rfl rfl rfl (by simp[Value.oneCell']) (by simp only[maxLen];omega) (by omega) hzn ?_;intro v' w3 ho3 hg3 hb3 hat3;obtain⟨A2,c2,rfl⟩:=Za ho3;have HO3:Hid (w3.ownsRow wn.heap.size 31 1 (.slice A2 (k+1) c2) (k+1) ((S.askW m0 (ds.take (k+1))).map (Ys .u32))):=Ya (by
      rw[HMW.out,List.map_append];exact ho3)
    have HBx:=Ya (HBn.out.trans hb3);have HBy:=Ya (HBt.out.trans (hb3.mono HKn.out.lolt));clear ho3 hg3 hb3 hat3 HOn HBn HBt)
   go_roundw
   case rel=>exact⟨k+1,A2,c2,wn,by omega,by go_num,rfl,HKn,HBx,HO3,Ya (λ h=>by omega),HBy⟩
   case measure=>simp[intOf] <;> omega
  .have hke:k=n:=by omega
   subst hke;have d1:decide ((k:Int)<(k:Int))=false:=by simp
   have d2:decide ((-1:Int)>=0)=false:=by decide
   have htl:ds.take k=ds:=by rw[HN.out,List.take_length]
   rw[htl] at HKm HO;go_upto_region 9 with fail
   refine Zp (by kernel_rfl) (by kernel_rfl) ?_
   repeat (first|go_big_quiet_step (fail))
   refine wpQuiet_nil ?_;rintro w2 ⟨y2,hw2⟩;have hb2:Below wr.heap.size wr w2:=by rw[hw2];exact y2.property
   clear hw2 y2;have HK2:=Ya ((HKm.out.below HBm.out).below hb2);have HO2:=Ya (Zc HO.out hb2);have HB2:=Ya (HB.out.trans (hb2.mono HB.out.size));have HnF:=Ya (λ(j:Nat) (hj:wm.heap.size<=j)=>HKm.out.newF hj);clear hb2 HKm HBm HO HB htl;obtain⟨M1,hM1⟩:=Yx (S.askM m0 ds);obtain⟨W1,hW1⟩:=Yx (S.askW m0 ds);have hWl:W1.length=k:=by rw[hW1,Zou,HN.out]
   rw[<- hM1] at HK2;rw[<- hW1] at HO2;have HM1:=Ya hM1;have HW1:=Ya hW1;have HWl:=Ya hWl;have HWd:=Ya (show ∀x∈W1,0<=x/\x<=4294967295 by rw[hW1,HM0.out];exact HAk.out.wd);clear hM1 hW1 hWl;go_wp2_with fail
   go_loopw [14] (λ v14 wr=>∃q:Nat,q<=k/\v14=.int .i64 q/\Hid (KAt wr w.heap.size b p F L 4000 PP (setsV M1 4 (W1.take q)))/\Hid (Only F w2 wr)) (λ v14 _=>k-(intOf v14).toNat)
   case atStart=>exact⟨0,Ya2 _,rfl,HK2,Ya (Only.of_below (Yj _ _))⟩
   case round =>
    obtain⟨q,hq,rfl,HKq,HOq⟩:=hrel;by_cases hlt:q<k
    .have d3:decide ((q:Int)<(k:Int))=true:=decide_eq_true (by omega)
     have i3:(q:Int)<(k:Int):=by omega
     have hqw:q<W1.length:=by rw[HWl.out];exact hlt
     obtain⟨g,e,gq1,gq2,_,gq4,_⟩:=Zae HO2.out (by omega)
     cases e
     obtain⟨u,hu⟩:=Yx W1[q];have HU:=Ya hu;have hub:=HWd.out W1[q] (Ya7 hqw);rw[<- hu] at hub;have hx:=gq4 q (by omega);rw[List.getElem?_map,Ye hqw,<- hu] at hx;have hxr:wr.cell? ⟨g,q,none⟩=some (.int .u32 u):=(World.cell?_of_block (a:=⟨g,q,none⟩) (HOq.out.block g gq2 (HnF.out g gq1))).trans hx;have hgl:g<wr.heap.size:=Nat.lt_of_lt_of_le gq2 HOq.out.size;have hbl:=HKq.out.blt;obtain⟨_,_,_,_,_,_,e0,e1,e2,e3,e4⟩:=HKq.out.cells;have p1:IntKind.i64.wrap (4+(q:Int))=4+q:=Yp _ ⟨by omega,by omega⟩;have p2:IntKind.i64.wrap ((q:Int)+1)=(q:Int)+1:=Yp _ ⟨by omega,by omega⟩;clear hu hx;go_upto_region 14 with fail
     refine Zm 10 (by kernel_rfl) (by kernel_rfl) ?_;have hE:=Zo wr;simp only[List.take_succ_cons,List.take_zero,List.drop_succ_cons,List.drop_zero]
     repeat (first|go_big_quiet_step (fail))
     refine wpQuiet_nil ?_;rintro w4 ⟨⟨_,hb4⟩,rfl⟩;have HK4:=Ya (HKq.out.below hb4);have HO4:=Ya (HOq.out.trans (Only.of_below (F:=F) hb4) λ _ _ q=>q);clear hE hb4 e0 e1 e2 e3 e4 hbl hgl hxr HKq HOq gq4;go_wp2_with fail
     try simp only[p1]
     refine(Zg2 (4+q) u HK4.out hub).mono ?_;rintro e w5 ⟨rv,rfl,hk5,ho5⟩;have HK5:Hid (KAt w5 w.heap.size b p F L 4000 PP (setsV M1 4 (W1.take (q+1)))):=Ya (by
      have e:=Zjh (W1.take q) M1 4 u;rw[List.length_take,Nat.min_eq_left (by omega)] at e;rw[Yar,Ye hqw]
      show KAt w5 w.heap.size b p F L 4000 PP (setsV M1 4 (W1.take q++[W1[q]]))
      rw[<- HU.out,e];exact hk5)
     have HO5:=Ya (HO4.out.trans ho5 λ _ _ q=>q);clear hk5 ho5 HK4 HO4;go_wp2_with fail
     go_roundw
     case rel=>exact⟨q+1,by omega,by go_num,HK5,HO5⟩
     case measure=>simp[intOf] <;> omega
    .have hqe:q=k:=by omega
     subst hqe;have d3:decide ((q:Int)<(q:Int))=false:=by simp
     have hfin:setsV M1 4 (W1.take q)=al Fs 8000 inp ds:=by
      rw[Yax (by rw[HWl.out];exact Yd _),HM1.out,HW1.out,HM0.out];rfl
     rw[hfin] at HKq;clear hfin;go_wp2_with fail
     refine(HLab.out _).mono ?_;rintro e w4 ⟨rfl,hb4⟩;have hk4:=HKq.out.below hb4;rw[HPP.out] at hk4;have HC:=Ya (Zxq HWr.out HOP.out hk4 HAk.out.st HAk.out.out HAk.out.steps 400000 (by decide));have HB4:=Ya ((HB2.out.trans (HK2.out.lobelow HOq.out HB2.out.size)).trans (hb4.mono HKq.out.lolt));have hlo4:=HB4.out.size;obtain⟨C,hC⟩:=Yx (ab (vI Fs 8000) (al Fs 8000 inp ds) (kRt op) 400000);obtain⟨E,hE⟩:=Yx (vE Fs 8000 (al Fs 8000 inp ds) op.toNat 400000);rw[<- hC,<- hE] at HC;have HCe:=Ya hC;have HEe:=Ya hE;clear hC hE hb4 hk4 HKq HOq;go_wp2_with fail
     refine HC.out.mono ?_;rintro e w5 ⟨rfl,F5,hk5,ho5,hf5⟩;have HK5:=Ya hk5;have HB5:=Ya (HB4.out.trans (ho5.below hlo4 λ j hj=>(HK2.out.lt j hj).1));clear hk5 ho5 hf5;go_wp2_with fail
     refine bodyPost_ret (v:=.tuple #[.pointer (some ⟨b,0,none⟩),.slice A q c,.int .i64 E]) (by simp[results,results8,go_sem]) rfl ?_;refine⟨Fs,b,p,F5,A,q,c,HWr.out,by rw[HEe.out],?_,HB5.out⟩;rw[<- HCe.out,<- HLe.out];exact HK5.out
section
attribute [local irreducible] midV
set_option maxRecDepth 100000
def S.aw (m m':S.Mach):Prop:=m'.state=m.state/\m'.out=m.out/\m'.steps=m.steps
theorem Zdu (m:S.Mach){i:Int}(v:Int)(h0:0<i)(h1:i<32):aw m (m.setV i v):=by rw[Za6 h0 h1];exact⟨rfl,rfl,rfl⟩
theorem Zwq (m:S.Mach)(i v:Int):aw m (m.putV i v):=⟨(Za3 m i v).2.2.2.2.1,(Za3 m i v).2.2.2.1,(Za3 m i v).2.2.2.2.2.1⟩
theorem S.aw.trans {a b c:S.Mach}(h:aw a b)(k:aw b c):aw a c:=⟨k.1.trans h.1,k.2.1.trans h.2.1,k.2.2.trans h.2.2⟩
theorem Zmd:∀(l:List Int)(m:S.Mach)(a:Int),aw m (putsV m a l)
 | [],_,_=>⟨rfl,rfl,rfl⟩
 | x::l,m,a=>(Zwq m a x).trans (Zmd l _ _)
theorem Zt0 (m:S.Mach)(typ:Int)(ws:List Int):aw m (S.takeM m typ ws):=(Zmd _ m _).trans (Zdu _ _ (by decide) (by decide))
def S.aq:ByteArray:=⟨#[97,98]⟩
theorem Zow:S.charsU (S.octs aq)=[1554,1570]:=by kernel_rfl
section
variable {F:List Int}{inp:List Int}(hw:bl [] [] F 8000 inp)
include hw
theorem Zwr:(vM F 8000 inp).rd 26=(ac [] [] F).length:=(hw.fst.rd 26).trans rfl
theorem Zzg:(vM F 8000 inp).state=0/\(vM F 8000 inp).out=[]/\(vM F 8000 inp).steps=0:=⟨hw.wd.run,hw.wd.out,hw.wd.steps⟩
theorem Z3n:WdV [] [] F ((ac [] [] F).length+8000) (vM F 8000 inp):=hw.wd
attribute [local irreducible] vM
theorem Zkk {ds:List S.Dd}(h26:∀k,k<=ds.length->0<=(S.askM (vM F 8000 inp) (ds.take k)).rd 26/\(S.askM (vM F 8000 inp) (ds.take k)).rd 26<=100000000)(hwd:∀x∈S.askW (vM F 8000 inp) ds,0<=x/\x<=4294967295)(hr:aw (vM F 8000 inp) (al F 8000 inp ds)):ap F inp ds:=by
 obtain⟨r1,r2,r3⟩:=Zzg hw;exact⟨h26,hwd,hr.1.trans r1,hr.2.1.trans r2,hr.2.2.trans r3⟩
theorem Zzh:0<=(vM F 8000 inp).rd 26/\(vM F 8000 inp).rd 26<=100000000:=by
 rw[Zwr hw];have:=hw.small;omega
theorem Zt1:ap F inp []:=Zkk hw (λ k hk=>by
 rw[List.take_nil];exact Zzh hw) (λ x hx=>by cases hx) ⟨rfl,rfl,rfl⟩
theorem Ze2 (t:ByteArray){z:Int}(hz:0<=z/\z<=1000000):ap F inp [.int t z]:=Zkk hw (λ k hk=>by
 have e:S.askM (vM F 8000 inp) (List.take k [.int t z])=vM F 8000 inp:=by cases k <;> first|rfl | (cases ‹Nat› <;> rfl)
 rw[e];exact Zzh hw) (λ x hx=>by
 have e:x=4*z:=Yaf.1 hx;omega) (Zdu (vM F 8000 inp) (i:=4) (4*z) (by decide) (by decide))
theorem Zzi:(S.takeM (vM F 8000 inp) 4 [1554,1570]).rd 26=(ac [] [] F).length+3:=by
 have hI:=hw.ok true;have hlen:=hw.len;have hs2:=hI.size2;have hs3:(aa true [] [] F ((ac [] [] F).length+8000)).size=(ac [] [] F).length+8000:=rfl;obtain⟨-,t2,-⟩:=Zo1 hI (m:=vM F 8000 inp) (H:=(ac [] [] F).length) (typ:=4) (ws:=[1554,1570]) (Z3n hw) (λ x hx=>by
  simp only[Yu,Yy,or_false] at hx;omega) (Zwr hw) (by decide) (by decide) (by omega) (by simp only[Yk,Yae];omega)
 rw[t2,if_pos rfl];simp only[Yk,Yae];omega
theorem Zkl (t:ByteArray)(z:Int):al F 8000 inp [.str aq,.int t z]=((S.takeM (vM F 8000 inp) 4 [1554,1570]).setV 4 (4*(ac [] [] F).length+1)).setV 5 (4*z):=by
 show((S.takeM (vM F 8000 inp) 4 (S.charsU (S.octs aq))).setV 4 (4*(vM F 8000 inp).rd 26+1)).setV (4+1) (4*z)=_
 rw[Zow,Zwr hw];rfl
theorem Zme (t:ByteArray){z:Int}(hz:0<=z/\z<=1000000):ap F inp [.str aq,.int t z]:=Zkk hw (λ k hk=>by
 have hsm:=hw.small;have h1:(S.askM (vM F 8000 inp) [.str aq]).rd 26=(ac [] [] F).length+3:=by
  show(S.takeM (vM F 8000 inp) 4 (S.charsU (S.octs aq))).rd 26=_
  rw[Zow];exact Zzi hw
 match k,hk with
 | 0,_=>exact Zzh hw
 | 1,_ =>
  show 0<=(S.askM (vM F 8000 inp) [.str aq]).rd 26/\(S.askM (vM F 8000 inp) [.str aq]).rd 26<=100000000
  rw[h1];omega
 | k+2,_ =>
  have e:List.take (k+2) [S.Dd.str aq,S.Dd.int t z]=[S.Dd.str aq,S.Dd.int t z]:=Yax (by simp);rw[e]
  show 0<=(S.askM (vM F 8000 inp) [.str aq]).rd 26/\(S.askM (vM F 8000 inp) [.str aq]).rd 26<=100000000
  rw[h1];omega) (λ x hx=>by
 have hsm:=hw.small;have hx2:x=4*(vM F 8000 inp).rd 26+1\/x=4*z:=by
  rcases Yu.1 hx with e|hx
  .exact .inl e
  .exact .inr (Yaf.1 hx)
 rw[Zwr hw] at hx2;omega) (by
 rw[Zkl hw];exact(Zt0 _ _ _).trans ((Zdu _ _ (by decide) (by decide)).trans (Zdu _ _ (by decide) (by decide))))
theorem Z33 (t:ByteArray):vE F 8000 (al F 8000 inp [.str aq,.int t 1]) 21 400000=0/\(ab (vI F 8000) (al F 8000 inp [.str aq,.int t 1]) (kRt 21) 400000).rd 4=1570:=by
 rw[Zkl hw];exact(Zty hw (by decide) (i:=1) rfl rfl (by decide) (by decide)).1 rfl
theorem Z4k (t:ByteArray):vE F 8000 (al F 8000 inp [.str aq,.int t 2]) 21 400000=4:=by
 rw[Zkl hw];exact(Zty hw (by decide) (i:=2) rfl rfl (by decide) (by decide)).2 rfl
theorem Z4l (t:ByteArray):vE F 8000 (al F 8000 inp [.int t 1]) 16 400000=3:=Zqd hw (by decide) rfl (by decide)
theorem Z34 (t:ByteArray):vE F 8000 (al F 8000 inp [.int t 65]) 17 400000=0/\(ab (vI F 8000) (al F 8000 inp [.int t 65]) (kRt 17) 400000).rd 4=1042:=Zqe hw (by decide) rfl (by decide)
theorem Z4m (t:ByteArray):vE F 8000 (al F 8000 inp [.int t 200]) 38 400000=0/\(ab (vI F 8000) (al F 8000 inp [.int t 200]) (kRt 38) 400000).out=[200]:=Zwo hw (by decide) rfl (by decide)
theorem Z4n (hi:inp=[9]):vE F 8000 (al F 8000 inp []) 37 400000=0/\(ab (vI F 8000) (al F 8000 inp []) (kRt 37) 400000).rd 4=36:=Zzb hw (by decide) hi (by decide)
theorem Z4o (t:ByteArray):vE F 8000 (al F 8000 inp [.int t 7]) 39 400000=8:=Zza hw (by decide) rfl (by decide)
end
end
section
attribute [local irreducible] midV
structure S.b5 (L:Int)(C:S.Mach):Prop where
 r4:C.regV 4=4*L+1
 m0:C.memV L=71
 m1:C.memV (L+1)=22
 m2:C.memV (L+2)=22
theorem Zh1 {m:S.Mach}{a v:Int}(h0:0<=a)(h:m.mv a=v)(hv:v≠0):m.memV a=v:=by
 by_cases q:a<m.mem.length
 .rw[Z0m h0 q];exact h
 .exfalso
  have e:m.mv a=m.mem.getD a.toNat 0:=rfl;rw[e,List.getD_eq_getElem?_getD,List.getElem?_eq_none (by omega)] at h;exact hv h.symm
theorem Znp {F:List Int}(hw:bl [] [] F 200 []){M:S.Mach}(hM:M=((vM F 200 []).setV 4 8).setV 5 22) :
 vE F 200 M 27 5000=0/\b5 (ac [] [] F).length (ab (vI F 200) M (kRt 27) 5000):=by
 obtain⟨h1,h2,h3,h4,h5⟩:=Zwp hw (by decide) hM (N:=5000) (by decide);exact⟨h1,(Zk7 (by decide) (by decide)).trans h2,Zh1 (by omega) h3 (by decide),Zh1 (by omega) h4 (by decide),Zh1 (by omega) h5 (by decide)⟩
theorem Zzj (w:World)(hL:LVE w):Calls prog 7 #[] w λ e w'=>e=.returned (.bool true)/\Below w.heap.size w w':=by
 have HW:=Ya (Zma 200 (by decide) [] (λ x hx=>by cases hx) (by decide) none 0 0 rfl w hL (λ h=>by simp at h) (λ _=>rfl));have HLab:=Ya (λ W=>Zot (op:=27) (by decide) W);clear hL;go_enter func7,ntmps7
 go_wp2_with fail
 refine HW.out.mono ?_;rintro e w1 ⟨Fs,b,p,F,hwr,rfl,hk1,hb1⟩;have HWr:=Ya hwr;have HB1:=Ya hb1;have hsz:=hb1.size;have hsm:=hwr.small;obtain⟨m0,hm0⟩:=Yx (vM Fs 200 []);have hk1':KAt w1 w.heap.size b p F (ac [] [] Fs).length (200/2) (bm [] [] Fs) m0:=by rw[hm0];exact hk1
 have HK1:=Ya hk1';have hst:((m0.setV 4 8).setV 5 22).state=0/\((m0.setV 4 8).setV 5 22).out=[]/\((m0.setV 4 8).setV 5 22).steps=0:=by
  have q:=(Zdu m0 (i:=4) 8 (by decide) (by decide)).trans (Zdu _ (i:=5) 22 (by decide) (by decide));have r1:m0.state=0:=by rw[hm0];exact hwr.wd.run
  have r2:m0.out=[]:=by rw[hm0];exact hwr.wd.out
  have r3:m0.steps=0:=by rw[hm0];exact hwr.wd.steps
  exact⟨q.1.trans r1,q.2.1.trans r2,q.2.2.trans r3⟩
 have HSt:=Ya hst;have hpl:=Znp hwr (M:=(m0.setV 4 8).setV 5 22) (by rw[hm0]);obtain⟨C,hC⟩:=Yx (ab (vI Fs 200) ((m0.setV 4 8).setV 5 22) (kRt 27) 5000);rw[<- hC] at hpl;have HCe:=Ya hC;have HPl:=Ya hpl;obtain⟨L,hL⟩:∃L:Int,L=(ac [] [] Fs).length:=⟨_,rfl⟩
 rw[<- hL] at HPl HK1;have hLb:0<=L/\L<=18000:=by omega
 obtain⟨PP,hPP⟩:=Yx (bm [] [] Fs);rw[<- hPP] at HK1;have HPP:=Ya hPP;clear hk1 hk1' hwr hb1 hst hpl hC hm0 hL hPP hsm HW;have hbl:=HK1.out.blt;obtain⟨_,_,_,_,_,_,e0,e1,e2,e3,e4⟩:=HK1.out.cells;go_wp2_with fail
 refine(Zg2 4 8 HK1.out (by decide)).mono ?_;rintro e w2 ⟨r2,rfl,hk2,ho2⟩;have HK2:=Ya hk2;have HB2:=Ya (HB1.out.trans (HK1.out.lobelow ho2 hsz));clear hk2 ho2 hbl e0 e1 e2 e3 e4 HK1 HB1 hsz;have hbl:=HK2.out.blt;obtain⟨_,_,_,_,_,_,e0,e1,e2,e3,e4⟩:=HK2.out.cells;go_wp2_with fail
 refine(Zg2 5 22 HK2.out (by decide)).mono ?_;rintro e w3 ⟨r3,rfl,hk3,ho3⟩;have HK3:=Ya hk3;have HB3:=Ya (HB2.out.trans (HK2.out.lobelow ho3 HB2.out.size));clear hk3 ho3 hbl e0 e1 e2 e3 e4 HK2 HB2;go_wp2_with fail
 refine(HLab.out _).mono ?_;rintro e w4 ⟨rfl,hb4⟩;have hk4:=HK3.out.below hb4;rw[HPP.out] at hk4;have hcl:=Zxq HWr.out (op:=27) (by decide) hk4 HSt.out.1 HSt.out.2.1 HSt.out.2.2 5000 (by decide);rw[show vE Fs 200 ((m0.setV 4 8).setV 5 22) (27:Int).toNat 5000=0 from HPl.out.1,<- HCe.out] at hcl;have HC:=Ya hcl;have HB4:=Ya (HB3.out.trans (hb4.mono HB3.out.size));have HLt:=Ya (λ(j:Nat) (hj:F j)=>(HK3.out.lt j hj).1);clear hb4 hk4 hcl HB3 HK3;go_wp2_with fail
 refine HC.out.mono ?_;rintro e w5 ⟨rfl,F5,hk5,ho5,hf5⟩;have HK5:=Ya hk5;have HB5:=Ya (HB4.out.trans (ho5.below HB4.out.size HLt.out));clear hk5 ho5 hf5 HC HB4;have hbl:=HK5.out.blt;obtain⟨_,_,_,_,_,_,e0,e1,e2,e3,e4⟩:=HK5.out.cells;have hr:=Zrr 4 HK5.out;rw[HPl.out.2.r4] at hr;have HR:=Ya hr;clear hr;have t1:Int.tdiv (4*L+1) 4=L:=by rw[Ybw (by omega)];omega
 have t2:Int.tmod (4*L+1) 4=1:=by rw[Yas (by omega)];omega
 have t3:IntKind.i64.wrap L=L:=Yp _ ⟨by omega,by omega⟩;have t4:IntKind.i64.wrap (L+1)=L+1:=Yp _ ⟨by omega,by omega⟩;have t5:IntKind.i64.wrap (L+2)=L+2:=Yp _ ⟨by omega,by omega⟩;go_wp2_with fail
 refine HR.out.mono ?_;rintro e _ ⟨rfl,rfl⟩;go_wp2_with fail
 refine HR.out.mono ?_;rintro e _ ⟨rfl,rfl⟩;go_wp2_with fail
 have hw0:=Znx L HK5.out;rw[HPl.out.2.m0] at hw0;refine hw0.mono ?_;rintro e w6 ⟨rfl,hb6⟩;have HK6:=Ya (HK5.out.below hb6);have HB6:=Ya (HB5.out.trans (hb6.mono HB5.out.size));clear hw0 hb6 HK5 HB5 HR hbl e0 e1 e2 e3 e4;go_wp2_with fail
 have hw1:=Znx (L+1) HK6.out;rw[HPl.out.2.m1] at hw1;refine hw1.mono ?_;rintro e w7 ⟨rfl,hb7⟩;have HK7:=Ya (HK6.out.below hb7);have HB7:=Ya (HB6.out.trans (hb7.mono HB6.out.size));clear hw1 hb7 HK6 HB6;go_wp2_with fail
 have hw2:=Znx (L+2) HK7.out;rw[HPl.out.2.m2] at hw2;refine hw2.mono ?_;rintro e w8 ⟨rfl,hb8⟩;have HB8:=Ya (HB7.out.trans (hb8.mono HB7.out.size));clear hw2 hb8 HK7 HB7;go_wp2_with fail
 go_ret
 exact⟨rfl,HB8.out⟩
end
section
attribute [local irreducible] midV ab vE
set_option maxRecDepth 100000
def Zfw (W:World)(E:Int)(Q:S.Mach->Prop)(e:Ending)(w':World):Prop :=
 ∃(b p:Nat)(F:Nat->Prop)(A:Option Addr)(n c:Nat)(lo:Nat)(H half:Int)(P:List (ByteArray×Int)) (C:S.Mach),e=.returned (.tuple #[.pointer (some ⟨b,0,none⟩),.slice A n c,.int .i64 E])/\KAt w' lo b p F H half P C/\Q C/\Below W.heap.size W w'
theorem Z1w (W:World)(ds:List S.Dd):Reads (W.alloc (.cells (ds.flatMap S.Dd.cells).toArray 24)) (W.alloc (.cells (ds.flatMap S.Dd.cells).toArray 24)).heap.size (some ⟨W.heap.size,0,none⟩) (ds.flatMap S.Dd.cells):=λ _=>⟨W.heap.size,0,rfl,by simp,λ i x hx=>by
 rw[Yb (heap_alloc_new _ _),Yw]
 simpa using hx⟩
theorem Zji {op:Int}{on:Nat}(hon:op.toNat=on)(hop:op∈kPrims){ds:List S.Dd}(hd:∀d∈ds,d.Ok)(hs1:∀k d,ds[k]?=some d->d.isStr=true->k=0)(hdl:ds.length<=3)(hok:∀Fs,bl [] [] Fs 8000 []->ap Fs [] ds){E:Int}{Q:S.Mach->Prop}
 (hQ:∀Fs,bl [] [] Fs 8000 []->vE Fs 8000 (al Fs 8000 [] ds) on 400000=E/\Q (ab (vI Fs 8000) (al Fs 8000 [] ds) (kRt op) 400000)) (n:Nat) (hn:n=ds.length) (W:World) (hL:LVE W) :
 Calls prog 8 #[.int .i64 op,.slice (some ⟨W.heap.size,0,none⟩) n n,.slice none 0 0,.int .i64 (-1)] (W.alloc (.cells (ds.flatMap S.Dd.cells).toArray 24)) (Zfw W E Q):=by
 have hb:Below W.heap.size W (W.alloc (.cells (ds.flatMap S.Dd.cells).toArray 24)):=(Yj _ _).alloc (Yd _) _;refine(Ztz op hop ds hd hs1 hdl [] (λ x hx=>by cases hx) (by decide) hok (some ⟨W.heap.size,0,none⟩) none n n 0 0 hn rfl _ (hL.on hb) (Z1w W ds) (λ h=>by simp at h) (λ _=>rfl)).mono ?_;rintro e w' ⟨Fs,b,p,F,A,m,c,hwr,rfl,hk,hb2⟩;obtain⟨q1,q2⟩:=hQ Fs hwr;refine⟨b,p,F,A,m,c,_,_,_,_,_,by rw[hon,q1],hk,q2,hb.trans (hb2.mono (by simp))⟩
theorem Zxr:Tz ⟨#[49]⟩ 0 false [1]/\tz false [1]=1:=⟨⟨rfl,by decide,(λ d hd=>by simp at hd;subst hd;decide),(λ i hi h=>by
 have:i=0:=by have h2:i<1:=hi;omega
 subst this;rfl),.inl ⟨rfl,rfl⟩⟩,by decide⟩
theorem Z1x:Tz ⟨#[50]⟩ 0 false [2]/\tz false [2]=2:=⟨⟨rfl,by decide,(λ d hd=>by simp at hd;subst hd;decide),(λ i hi h=>by
 have:i=0:=by have h2:i<1:=hi;omega
 subst this;rfl),.inl ⟨rfl,rfl⟩⟩,by decide⟩
theorem Zws:Tz ⟨#[55]⟩ 0 false [7]/\tz false [7]=7:=⟨⟨rfl,by decide,(λ d hd=>by simp at hd;subst hd;decide),(λ i hi h=>by
 have:i=0:=by have h2:i<1:=hi;omega
 subst this;rfl),.inl ⟨rfl,rfl⟩⟩,by decide⟩
theorem Z3o:Tz ⟨#[54,53]⟩ 0 false [5,6]/\tz false [5,6]=65:=⟨⟨rfl,by decide,(λ d hd=>by simp at hd;rcases hd with rfl|rfl <;> decide),(λ i hi h=>by
 have:i=0\/i=1:=by have h2:i<2:=hi;omega
 rcases this with rfl|rfl <;> rfl),.inl ⟨rfl,rfl⟩⟩,by decide⟩
theorem Z1y:Tz ⟨#[50,48,48]⟩ 0 false [0,0,2]/\tz false [0,0,2]=200:=⟨⟨rfl,by decide,(λ d hd=>by simp at hd;rcases hd with rfl|rfl <;> decide),(λ i hi h=>by
 have:i=0\/i=1\/i=2:=by have h2:i<3:=hi;omega
 rcases this with rfl|rfl|rfl <;> rfl),.inl ⟨rfl,rfl⟩⟩,by decide⟩
theorem Zqh {t:ByteArray}{z:Int}{l:List Int}(h:Tz t 0 false l/\tz false l=z)(ht:t.size<=1000)(hz:0<=z/\z<=1000000):(S.Dd.int t z).Ok:=⟨ht,hz,0,false,l,h.1,h.2⟩
theorem Zt2 {t:ByteArray}{z:Int}:∀k d,[S.Dd.str aq,S.Dd.int t z][k]?=some d->d.isStr=true->k=0:=λ k d h1 h2=>by
 match k,h1 with
 | 0,_=>rfl
 | 1,h1=>cases h1;cases h2
 | k+2,h1=>simp at h1
theorem Zox {t:ByteArray}{z:Int}:∀k d,[S.Dd.int t z][k]?=some d->d.isStr=true->k=0:=λ k d h1 h2=>by
 match k,h1 with
 | 0,_=>rfl
 | k+1,h1=>simp at h1
section
variable (W:World)(hL:LVE W)
include hL
theorem Z4p:Calls prog 8 #[.int .i64 21,.slice (some ⟨W.heap.size,0,none⟩) 2 2,.slice none 0 0,.int .i64 (-1)] (W.alloc (.cells #[.int .i64 4,.int .i64 0,.string ⟨#[97,98]⟩,.slice none 0 0,.int .i64 0,.int .i64 2,.int .i64 0,.string ⟨#[49]⟩,.slice none 0 0,.int .i64 0] 24)) (Zfw W 0 λ C=>C.regV 4=1570) :=
 Zji rfl (ds:=[.str aq,.int ⟨#[49]⟩ 1]) (by decide) (λ d hd=>by
  rcases Yu.1 hd with rfl|hd
  .show aq.size<=1000;decide
  .rw[Yaf.1 hd];exact Zqh Zxr (by decide) (by decide)) Zt2 (by decide) (λ Fs h=>Zme h _ (by decide)) (λ Fs h=>⟨(Z33 h _).1,(Zk7 (by decide) (by decide)).trans (Z33 h _).2⟩) 2 rfl W hL
theorem Z4q:Calls prog 8 #[.int .i64 21,.slice (some ⟨W.heap.size,0,none⟩) 2 2,.slice none 0 0,.int .i64 (-1)] (W.alloc (.cells #[.int .i64 4,.int .i64 0,.string ⟨#[97,98]⟩,.slice none 0 0,.int .i64 0,.int .i64 2,.int .i64 0,.string ⟨#[50]⟩,.slice none 0 0,.int .i64 0] 24)) (Zfw W 4 λ _=>True) :=
 Zji rfl (ds:=[.str aq,.int ⟨#[50]⟩ 2]) (by decide) (λ d hd=>by
  rcases Yu.1 hd with rfl|hd
  .show aq.size<=1000;decide
  .rw[Yaf.1 hd];exact Zqh Z1x (by decide) (by decide)) Zt2 (by decide) (λ Fs h=>Zme h _ (by decide)) (λ Fs h=>⟨Z4k h _,trivial⟩) 2 rfl W hL
theorem Z4r:Calls prog 8 #[.int .i64 16,.slice (some ⟨W.heap.size,0,none⟩) 1 1,.slice none 0 0,.int .i64 (-1)] (W.alloc (.cells #[.int .i64 2,.int .i64 0,.string ⟨#[49]⟩,.slice none 0 0,.int .i64 0] 24)) (Zfw W 3 λ _=>True) :=
 Zji rfl (ds:=[.int ⟨#[49]⟩ 1]) (by decide) (λ d hd=>by rw[Yaf.1 hd];exact Zqh Zxr (by decide) (by decide)) Zox (by decide) (λ Fs h=>Ze2 h _ (by decide)) (λ Fs h=>⟨Z4l h _,trivial⟩) 1 rfl W hL
theorem Z4s:Calls prog 8 #[.int .i64 17,.slice (some ⟨W.heap.size,0,none⟩) 1 1,.slice none 0 0,.int .i64 (-1)] (W.alloc (.cells #[.int .i64 2,.int .i64 0,.string ⟨#[54,53]⟩,.slice none 0 0,.int .i64 0] 24)) (Zfw W 0 λ C=>C.regV 4=1042) :=
 Zji rfl (ds:=[.int ⟨#[54,53]⟩ 65]) (by decide) (λ d hd=>by rw[Yaf.1 hd];exact Zqh Z3o (by decide) (by decide)) Zox (by decide) (λ Fs h=>Ze2 h _ (by decide)) (λ Fs h=>⟨(Z34 h _).1,(Zk7 (by decide) (by decide)).trans (Z34 h _).2⟩) 1 rfl W hL
theorem Z4t:Calls prog 8 #[.int .i64 38,.slice (some ⟨W.heap.size,0,none⟩) 1 1,.slice none 0 0,.int .i64 (-1)] (W.alloc (.cells #[.int .i64 2,.int .i64 0,.string ⟨#[50,48,48]⟩,.slice none 0 0,.int .i64 0] 24)) (Zfw W 0 λ C=>C.out=[200]) :=
 Zji rfl (ds:=[.int ⟨#[50,48,48]⟩ 200]) (by decide) (λ d hd=>by rw[Yaf.1 hd];exact Zqh Z1y (by decide) (by decide)) Zox (by decide) (λ Fs h=>Ze2 h _ (by decide)) (λ Fs h=>Z4m h _) 1 rfl W hL
theorem Z4u:Calls prog 8 #[.int .i64 39,.slice (some ⟨W.heap.size,0,none⟩) 1 1,.slice none 0 0,.int .i64 (-1)] (W.alloc (.cells #[.int .i64 2,.int .i64 0,.string ⟨#[55]⟩,.slice none 0 0,.int .i64 0] 24)) (Zfw W 8 λ _=>True) :=
 Zji rfl (ds:=[.int ⟨#[55]⟩ 7]) (by decide) (λ d hd=>by rw[Yaf.1 hd];exact Zqh Zws (by decide) (by decide)) Zox (by decide) (λ Fs h=>Ze2 h _ (by decide)) (λ Fs h=>⟨Z4o h _,trivial⟩) 1 rfl W hL
theorem Z4v:Calls prog 8 #[.int .i64 37,.slice none 0 0,.slice (some ⟨W.heap.size,0,none⟩) 1 1,.int .i64 (-1)] (W.alloc (.cells #[.int .u8 9] 5)) (Zfw W 0 λ C=>C.regV 4=36):=by
 have hb:Below W.heap.size W (W.alloc (.cells #[.int .u8 9] 5)):=(Yj _ _).alloc (Yd _) _;refine(Ztz 37 (by decide) [] (λ d hd=>by cases hd) (λ k d h=>by simp at h) (by decide) [9] (by decide) (by decide) (λ Fs h=>Zt1 h) none (some ⟨W.heap.size,0,none⟩) 0 0 1 1 rfl rfl _ (hL.on hb) (λ h=>by simp at h) (λ _=>⟨W.heap.size,0,rfl,by simp,λ i x hx=>by
  rw[Yb (heap_alloc_new _ _),Yw]
  match i,hx with
  | 0,hx=>cases hx;rfl
  | i+1,hx=>simp at hx⟩) (λ h=>by cases h)).mono ?_
 rintro e w' ⟨Fs,b,p,F,A,m,c,hwr,rfl,hk,hb2⟩;obtain⟨q1,q2⟩:=Z4n hwr rfl;refine⟨b,p,F,A,m,c,_,_,_,_,_,by rw[show(((37:Int).toNat:Nat):Int)=37 from rfl,q1],hk,(Zk7 (by decide) (by decide)).trans q2,hb.trans (hb2.mono (by simp))⟩
end
end
section
attribute [local irreducible] midV ab vE
theorem Z3p {w:World}{F:Nat->Prop}{lo b p:Nat}{H half:Int}{P:List (ByteArray×Int)}{m:S.Mach}(h:KAt w lo b p F H half P m)(hol:m.out.length<=1000000):Calls prog 17 #[.pointer (some ⟨p,0,none⟩)] w
 λ e w'=>∃A' c',e=.returned (.slice A' m.out.length c')/\w'.ownsRow w.heap.size 5 1 (.slice A' m.out.length c') m.out.length (m.out.map (Ys .u8))/\Below w.heap.size w w':=by
 obtain⟨vm,vo,A,c,inp,rd,k1,k2,k3⟩:=h.mach;exact Zvy k1 hol
structure KnV (W:World)(q:Nat):Prop where
 a:W.heap[q]?=some (.cells #[.int .i64 4,.int .i64 0,.string ⟨#[97,98]⟩,.slice none 0 0,.int .i64 0] 24 (0,0))
 b:W.heap[q+1]?=some (.cells #[.int .i64 2,.int .i64 0,.string ⟨#[49]⟩,.slice none 0 0,.int .i64 0] 24 (0,0))
 c:W.heap[q+1+1]?=some (.cells #[.int .i64 2,.int .i64 0,.string ⟨#[50]⟩,.slice none 0 0,.int .i64 0] 24 (0,0))
theorem KnV.below {W W':World}{q:Nat}(h:KnV W q)(hb:Below W.heap.size W W'):KnV W' q :=
 ⟨(hb.block _ (Yv.1 h.a).1).trans h.a,(hb.block _ (Yv.1 h.b).1).trans h.b,(hb.block _ (Yv.1 h.c).1).trans h.c⟩
theorem Zh2 {W:World}{g:Nat}{x0 x1 x2 x3 x4:Value}{T:TypeId}(h:W.heap[g]?=some (.cells #[x0,x1,x2,x3,x4] T (0,0))):W.cell? ⟨g,0,none⟩=some x0/\W.cell? ⟨g,1,none⟩=some x1/\W.cell? ⟨g,2,none⟩=some x2/\W.cell? ⟨g,3,none⟩=some x3/\W.cell? ⟨g,4,none⟩=some x4 :=
 ⟨by rw[Yb h];rfl,by rw[Yb h];rfl,by rw[Yb h];rfl,by rw[Yb h];rfl,by rw[Yb h];rfl⟩
theorem Zim (w:World)(hL:LVE w):Calls prog 4 #[] w λ e w'=>e=.returned (.bool true)/\Below w.heap.size w w':=by
 have HL:=Ya hL;clear hL;go_enter func4,ntmps4
 go_upto_region 4 with fail
 obtain⟨w0,hw0⟩:=Yx (((w.alloc (.cells #[.int .i64 4,.int .i64 0,.string ⟨#[97,98]⟩,.slice none 0 0,.int .i64 0] 24)).alloc (.cells #[.int .i64 2,.int .i64 0,.string ⟨#[49]⟩,.slice none 0 0,.int .i64 0] 24)).alloc (.cells #[.int .i64 2,.int .i64 0,.string ⟨#[50]⟩,.slice none 0 0,.int .i64 0] 24));rw[<- hw0];have HV0:=Ya (show KnV w0 w.heap.size from by
  have ha:=heap_alloc_new w (.cells #[.int .i64 4,.int .i64 0,.string ⟨#[97,98]⟩,.slice none 0 0,.int .i64 0] 24);have z1:(w.alloc (.cells #[.int .i64 4,.int .i64 0,.string ⟨#[97,98]⟩,.slice none 0 0,.int .i64 0] 24)).heap.size=w.heap.size+1:=by simp
  generalize w.alloc (.cells #[.int .i64 4,.int .i64 0,.string ⟨#[97,98]⟩,.slice none 0 0,.int .i64 0] 24)=wa at *;have hb:=heap_alloc_new wa (.cells #[.int .i64 2,.int .i64 0,.string ⟨#[49]⟩,.slice none 0 0,.int .i64 0] 24);have yb:Below wa.heap.size wa (wa.alloc (.cells #[.int .i64 2,.int .i64 0,.string ⟨#[49]⟩,.slice none 0 0,.int .i64 0] 24)):=(Yj _ _).alloc (Yd _) _;have z2:(wa.alloc (.cells #[.int .i64 2,.int .i64 0,.string ⟨#[49]⟩,.slice none 0 0,.int .i64 0] 24)).heap.size=w.heap.size+1+1:=by simp[z1]
  generalize wa.alloc (.cells #[.int .i64 2,.int .i64 0,.string ⟨#[49]⟩,.slice none 0 0,.int .i64 0] 24)=wb at *;have hc:=heap_alloc_new wb (.cells #[.int .i64 2,.int .i64 0,.string ⟨#[50]⟩,.slice none 0 0,.int .i64 0] 24);have yc:Below wb.heap.size wb (wb.alloc (.cells #[.int .i64 2,.int .i64 0,.string ⟨#[50]⟩,.slice none 0 0,.int .i64 0] 24)):=(Yj _ _).alloc (Yd _) _;rw[z1] at hb;rw[z2] at hc;rw[hw0];exact⟨(yc.block _ (by omega)).trans ((yb.block _ (by omega)).trans ha),(yc.block _ (by omega)).trans hb,hc⟩)
 have HB0:=Ya (show Below w.heap.size w w0 by
  rw[hw0];exact(((Yj _ _).alloc (Yd _) _).alloc (by simp) _).alloc (by simp;omega) _)
 clear hw0;obtain⟨a0,a1,a2,a3,a4⟩:=Zh2 HV0.out.a;obtain⟨b0,b1,b2,b3,b4⟩:=Zh2 HV0.out.b;go_wp2_with fail
 refine(Z4p w0 (HL.out.on HB0.out)).mono ?_;rintro e w1 ⟨q1,p1,F1,A1,n1,k1,lo1,H1,f1,P1,C1,rfl,hk,hq,hb⟩;have HK1:=Ya hk;have HQ1:=Ya hq;have HB1:=Ya (HB0.out.trans (hb.mono HB0.out.size));have HV1:=Ya (HV0.out.below hb);clear hk hq hb HB0 HV0 a0 a1 a2 a3 a4 b0 b1 b2 b3 b4;obtain⟨a0,a1,a2,a3,a4⟩:=Zh2 HV1.out.a;obtain⟨c0,c1,c2,c3,c4⟩:=Zh2 HV1.out.c;go_wp2_with fail
 refine(Z4q w1 (HL.out.on HB1.out)).mono ?_;rintro e w2 ⟨q2,p2,F2,A2,n2,k2,lo2,H2,f2,P2,C2,rfl,hk,hq,hb⟩;have HK2:=Ya hk;have HQ2:=Ya hq;have HB2:=Ya (HB1.out.trans (hb.mono HB1.out.size));have HV2:=Ya (HV1.out.below hb);have HK1n:=Ya (HK1.out.below hb);clear HK1;have HK1:=HK1n;clear HK1n;clear hk hq hb HB1 HV1 a0 a1 a2 a3 a4 c0 c1 c2 c3 c4;obtain⟨b0,b1,b2,b3,b4⟩:=Zh2 HV2.out.b;go_wp2_with fail
 refine(Z4r w2 (HL.out.on HB2.out)).mono ?_;rintro e w3 ⟨q3,p3,F3,A3,n3,k3,lo3,H3,f3,P3,C3,rfl,hk,hq,hb⟩;have HK3:=Ya hk;have HQ3:=Ya hq;have HB3:=Ya (HB2.out.trans (hb.mono HB2.out.size));have HV3:=Ya (HV2.out.below hb);have HK1n:=Ya (HK1.out.below hb);clear HK1;have HK1:=HK1n;clear HK1n;have HK2n:=Ya (HK2.out.below hb);clear HK2;have HK2:=HK2n;clear HK2n;clear hk hq hb HB2 HV2 b0 b1 b2 b3 b4;go_wp2_with fail
 refine(Z4s w3 (HL.out.on HB3.out)).mono ?_;rintro e w4 ⟨q4,p4,F4,A4,n4,k4,lo4,H4,f4,P4,C4,rfl,hk,hq,hb⟩;have HK4:=Ya hk;have HQ4:=Ya hq;have HB4:=Ya (HB3.out.trans (hb.mono HB3.out.size));have HV4:=Ya (HV3.out.below hb);have HK1n:=Ya (HK1.out.below hb);clear HK1;have HK1:=HK1n;clear HK1n;have HK2n:=Ya (HK2.out.below hb);clear HK2;have HK2:=HK2n;clear HK2n;have HK3n:=Ya (HK3.out.below hb);clear HK3;have HK3:=HK3n;clear HK3n;clear hk hq hb HB3 HV3;go_wp2_with fail
 refine(Z4t w4 (HL.out.on HB4.out)).mono ?_;rintro e w5 ⟨q5,p5,F5,A5,n5,k5,lo5,H5,f5,P5,C5,rfl,hk,hq,hb⟩;have HK5:=Ya hk;have HQ5:=Ya hq;have HB5:=Ya (HB4.out.trans (hb.mono HB4.out.size));have HV5:=Ya (HV4.out.below hb);have HK1n:=Ya (HK1.out.below hb);clear HK1;have HK1:=HK1n;clear HK1n;have HK2n:=Ya (HK2.out.below hb);clear HK2;have HK2:=HK2n;clear HK2n;have HK3n:=Ya (HK3.out.below hb);clear HK3;have HK3:=HK3n;clear HK3n;have HK4n:=Ya (HK4.out.below hb);clear HK4;have HK4:=HK4n;clear HK4n;clear hk hq hb HB4 HV4;go_wp2_with fail
 refine(Z4v w5 (HL.out.on HB5.out)).mono ?_;rintro e w6 ⟨q6,p6,F6,A6,n6,k6,lo6,H6,f6,P6,C6,rfl,hk,hq,hb⟩;have HK6:=Ya hk;have HQ6:=Ya hq;have HB6:=Ya (HB5.out.trans (hb.mono HB5.out.size));have HV6:=Ya (HV5.out.below hb);have HK1n:=Ya (HK1.out.below hb);clear HK1;have HK1:=HK1n;clear HK1n;have HK2n:=Ya (HK2.out.below hb);clear HK2;have HK2:=HK2n;clear HK2n;have HK3n:=Ya (HK3.out.below hb);clear HK3;have HK3:=HK3n;clear HK3n;have HK4n:=Ya (HK4.out.below hb);clear HK4;have HK4:=HK4n;clear HK4n;have HK5n:=Ya (HK5.out.below hb);clear HK5;have HK5:=HK5n;clear HK5n;clear hk hq hb HB5 HV5;go_wp2_with fail
 refine(Z4u w6 (HL.out.on HB6.out)).mono ?_;rintro e w7 ⟨q7,p7,F7,A7,n7,k7,lo7,H7,f7,P7,C7,rfl,hk,hq,hb⟩;have HK7:=Ya hk;have HQ7:=Ya hq;have HB7:=Ya (HB6.out.trans (hb.mono HB6.out.size));have HV7:=Ya (HV6.out.below hb);have HK1n:=Ya (HK1.out.below hb);clear HK1;have HK1:=HK1n;clear HK1n;have HK2n:=Ya (HK2.out.below hb);clear HK2;have HK2:=HK2n;clear HK2n;have HK3n:=Ya (HK3.out.below hb);clear HK3;have HK3:=HK3n;clear HK3n;have HK4n:=Ya (HK4.out.below hb);clear HK4;have HK4:=HK4n;clear HK4n;have HK5n:=Ya (HK5.out.below hb);clear HK5;have HK5:=HK5n;clear HK5n;have HK6n:=Ya (HK6.out.below hb);clear HK6;have HK6:=HK6n;clear HK6n;clear hk hq hb HB6 HV6;obtain⟨_,_,_,_,_,_,x1,_⟩:=HK1.out.cells;obtain⟨_,_,_,_,_,_,x4,_⟩:=HK4.out.cells;obtain⟨_,_,_,_,_,_,x5,_⟩:=HK5.out.cells;obtain⟨_,_,_,_,_,_,x6,_⟩:=HK6.out.cells;have y1:=HK1.out.blt;have y4:=HK4.out.blt;have y5:=HK5.out.blt;have y6:=HK6.out.blt;have r1:=Zrr 4 HK1.out;rw[HQ1.out] at r1;have r4:=Zrr 4 HK4.out;rw[HQ4.out] at r4;have R1:=Ya r1;have R4:=Ya r4;clear r1 r4;go_wp2_with fail
 refine R1.out.mono ?_;rintro e _ ⟨rfl,rfl⟩;go_wp2_with fail
 refine R4.out.mono ?_;rintro e _ ⟨rfl,rfl⟩;go_wp2_with fail
 have ho:=Z3p HK5.out (by rw[HQ5.out];decide);rw[HQ5.out] at ho;refine ho.mono ?_;rintro e w8 ⟨A8,c8,rfl,ho8,hb8⟩;obtain⟨g8,e8,gg1,gg2,_,gg4,_⟩:=Zae ho8 (by decide)
 cases e8
 have hcv:(convert 46 9 (.slice (some ⟨g8,0,none⟩) 1 c8)).run prog w8=.ok (.string ⟨#[200]⟩) w8:=by
  refine run_convert_bytes_arg w8 46 5 underlying46 underlying5 g8 0 1 c8 [200] rfl (λ i hi=>?_) 9 underlying9;have hi0:i=0:=by omega
  subst hi0;rw[Yw,gg4 0 (by decide)];rfl
 have HK6n:=Ya (HK6.out.below hb8);have HB8:=Ya (HB7.out.trans (hb8.mono HB7.out.size));clear ho ho8 hb8 gg1 gg2 gg4 HK1 HK4 HK5 HK6 x1 x4 x5 x6 y1 y4 y5 y6 R1 R4 HB7;obtain⟨_,_,_,_,_,_,x6,_⟩:=HK6n.out.cells;have y6:=HK6n.out.blt;have r6:=Zrr 4 HK6n.out;rw[HQ6.out] at r6;have R6:=Ya r6;clear r6;go_wp2_with fail
 refine R6.out.mono ?_;rintro e _ ⟨rfl,rfl⟩;go_wp2_with fail
 refine(Zzj w8 (HL.out.on HB8.out)).mono ?_;rintro e w9 ⟨rfl,hb9⟩;have HB9:=Ya (HB8.out.trans (hb9.mono HB8.out.size));clear hb9;go_wp2_with fail
 go_ret
 exact⟨rfl,HB9.out⟩
end
