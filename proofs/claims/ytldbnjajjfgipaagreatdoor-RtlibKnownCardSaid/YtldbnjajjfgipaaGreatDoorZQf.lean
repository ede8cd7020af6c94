/- Parts. -/
import Derived.Test.YtldbnjajjfgipaaGreatDoorZBBln
import Derived.Test.YtldbnjajjfgipaaGreatDoorZMachX
set_option linter.all false
set_option maxHeartbeats 2000000
open Go.Lib renaming cell_of_heap->Yb
open List renaming length_append->Yc,getElem?_eq_getElem->Ye,getElem?_eq_some_iff->Yg,mem_cons->Yu,not_mem_nil->Yy,replicate->Y1,mem_of_getElem?->Y2,mem_cons_self->Y4,mem_cons_of_mem->Y5,length_take->Y9,cons_append->Yab,getElem?_take->Ybe,nodup_cons->Yc8
open Nat renaming le_refl->Yd,zero_add->Yw,add_mul->Yda
open Go.IntWalk renaming i64_in->Yp
open Go.Result renaming andThen_ok->Y0
open Option renaming isSome_iff_exists->Y8,map_some->Yb7
open Go.Sem renaming run_bind->Yad,run_pure->Yam
open Int renaming tmod_eq_emod_of_nonneg->Yas
namespace Go.Proofs.YtldbnjajjfgipaaGreatDoor
open S Go.Proofs.Tryz Go.RowKit
set_option maxRecDepth 100000
def Z3b (w:World)(g:Nat)(l:List Int):Prop:=∀j,j<l.length->w.cell? ⟨g,j,none⟩=some (.int .u8 (l.getD j 0))
theorem Ztc (w:World)(l:List Int):Z3b (w.alloc (.cells (l.map (Value.int .u8)).toArray 5)) w.heap.size l:=λ j hj=>by
 rw[Yb (heap_alloc_new _ _)];simp[List.getD_eq_getElem?_getD,Ye hj]
theorem Zp2 {c:Int}(h:isU c=true):∀x∈bytesU c,0<=x/\x<=255:=λ x hx=>by
 have hb:=Zoe h;unfold bytesU at hx
 split at hx
 .simp only[Yu,Yy,or_false] at hx;omega
 .split at hx
  .simp only[Yu,Yy,or_false] at hx;omega
  .split at hx <;> (simp only[Yu,Yy,or_false] at hx;omega)
theorem Zwd (c:Int)(hu:isU c=true)(w:World):Calls prog 249 #[.int .i64 c] w λ e w'=>e=.returned (.slice (some ⟨w.heap.size,0,none⟩) (bytesU c).length (bytesU c).length)/\w'=w.alloc (.cells ((bytesU c).map (Value.int .u8)).toArray 5):=by
 have hb:=Zoe hu;clear hu;have q (d:Int):Int.tdiv c d=c/d:=Int.tdiv_eq_ediv_of_nonneg hb.1;have m (d:Int):Int.tmod c d=c%d:=Yas hb.1;have q1:=q 64;have q2:=q 4096;have q3:=q 262144;have m1:=m 64;have m2:Int.tmod (c/64) 64=c/64%64:=Yas (by omega);have m3:Int.tmod (c/4096) 64=c/4096%64:=Yas (by omega);clear q m;by_cases a1:c<128
 .have d1:decide (c<128)=true:=decide_eq_true a1
  have e1:IntKind.u8.wrap c=c:=IntWalk.u8_in _ ⟨by omega,by omega⟩;have hr:bytesU c=[c]:=by unfold bytesU;rw[if_pos a1]
  rw[hr];go_enter func249,ntmps249
  go_wp2_with fail
  go_ret
  exact⟨rfl,rfl⟩
 have d1:decide (c<128)=false:=decide_eq_false a1;by_cases a2:c<2048
 .have d2:decide (c<2048)=true:=decide_eq_true a2
  have s1:IntKind.i64.wrap (192+c/64)=192+c/64:=Yp _ ⟨by omega,by omega⟩;have s2:IntKind.i64.wrap (128+c%64)=128+c%64:=Yp _ ⟨by omega,by omega⟩;have e1:IntKind.u8.wrap (192+c/64)=192+c/64:=IntWalk.u8_in _ ⟨by omega,by omega⟩;have e2:IntKind.u8.wrap (128+c%64)=128+c%64:=IntWalk.u8_in _ ⟨by omega,by omega⟩;have hr:bytesU c=[192+c/64,128+c%64]:=by unfold bytesU;rw[if_neg a1,if_pos a2]
  rw[hr];go_enter func249,ntmps249
  go_wp2_with fail
  go_ret
  exact⟨rfl,rfl⟩
 have d2:decide (c<2048)=false:=decide_eq_false a2;by_cases a3:c<65536
 .have d3:decide (c<65536)=true:=decide_eq_true a3
  have s1:IntKind.i64.wrap (224+c/4096)=224+c/4096:=Yp _ ⟨by omega,by omega⟩;have s2:IntKind.i64.wrap (128+c/64%64)=128+c/64%64:=Yp _ ⟨by omega,by omega⟩;have s3:IntKind.i64.wrap (128+c%64)=128+c%64:=Yp _ ⟨by omega,by omega⟩;have e1:IntKind.u8.wrap (224+c/4096)=224+c/4096:=IntWalk.u8_in _ ⟨by omega,by omega⟩;have e2:IntKind.u8.wrap (128+c/64%64)=128+c/64%64:=IntWalk.u8_in _ ⟨by omega,by omega⟩;have e3:IntKind.u8.wrap (128+c%64)=128+c%64:=IntWalk.u8_in _ ⟨by omega,by omega⟩;have hr:bytesU c=[224+c/4096,128+c/64%64,128+c%64]:=by unfold bytesU;rw[if_neg a1,if_neg a2,if_pos a3]
  rw[hr];go_enter func249,ntmps249
  go_wp2_with fail
  go_ret
  exact⟨rfl,rfl⟩
 .have d3:decide (c<65536)=false:=decide_eq_false a3
  have s1:IntKind.i64.wrap (240+c/262144)=240+c/262144:=Yp _ ⟨by omega,by omega⟩;have s4:IntKind.i64.wrap (128+c/4096%64)=128+c/4096%64:=Yp _ ⟨by omega,by omega⟩;have s2:IntKind.i64.wrap (128+c/64%64)=128+c/64%64:=Yp _ ⟨by omega,by omega⟩;have s3:IntKind.i64.wrap (128+c%64)=128+c%64:=Yp _ ⟨by omega,by omega⟩;have e1:IntKind.u8.wrap (240+c/262144)=240+c/262144:=IntWalk.u8_in _ ⟨by omega,by omega⟩;have e4:IntKind.u8.wrap (128+c/4096%64)=128+c/4096%64:=IntWalk.u8_in _ ⟨by omega,by omega⟩;have e2:IntKind.u8.wrap (128+c/64%64)=128+c/64%64:=IntWalk.u8_in _ ⟨by omega,by omega⟩;have e3:IntKind.u8.wrap (128+c%64)=128+c%64:=IntWalk.u8_in _ ⟨by omega,by omega⟩;have hr:bytesU c=[240+c/262144,128+c/4096%64,128+c/64%64,128+c%64]:=by unfold bytesU;rw[if_neg a1,if_neg a2,if_neg a3]
  rw[hr];go_enter func249,ntmps249
  go_wp2_with fail
  go_ret
  exact⟨rfl,rfl⟩
namespace S
def tells:List Item->List ByteArray
 | []=>[]
 | x::r=>if x.kind=2 then x.label::tells r else tells r
def names:List Item->List ByteArray
 | []=>[]
 | x::r=>if named x=true then x.label::names r else names r
def allChk (xs:List Item):Prop:=∀x∈xs,chkItem x=0
def bulk:List Item->Int
 | []=>0
 | x::r=>(if x.kind=8 then x.word else 4)+bulk r
end S
theorem Zaq (a b:List S.Item):S.tells (a++b)=S.tells a++S.tells b:=by
 induction a with
 | nil=>rfl
 | cons x r ih =>
  rw[Yab,S.tells,S.tells,ih]
  split <;> rfl
theorem Zbt (a b:List S.Item):S.names (a++b)=S.names a++S.names b:=by
 induction a with
 | nil=>rfl
 | cons x r ih =>
  rw[Yab,S.names,S.names,ih]
  split <;> rfl
theorem Zbq (a b:List S.Item):S.bulk (a++b)=S.bulk a+S.bulk b:=by
 induction a with
 | nil=>simp[S.bulk]
 | cons x r ih=>rw[Yab,S.bulk,S.bulk,ih];omega
theorem Ztd {xs:List S.Item}{s:ByteArray}(h:s∈S.tells xs):∃x∈xs,x.kind=2/\x.label=s:=by
 induction xs with
 | nil=>cases h
 | cons y r ih =>
  rw[S.tells] at h
  split at h
  .rename_i c
   rcases Yu.1 h with rfl|h
   .exact⟨y,Y4,c,rfl⟩
   .obtain⟨x,hx,h⟩:=ih h
    exact⟨x,Y5 _ hx,h⟩
  .obtain⟨x,hx,h⟩:=ih h
   exact⟨x,Y5 _ hx,h⟩
theorem Zl2 {xs:List S.Item}{x:S.Item}(h:x∈xs)(hk:x.kind=2):x.label∈S.tells xs:=by
 induction xs with
 | nil=>cases h
 | cons y r ih =>
  rw[S.tells];rcases Yu.1 h with rfl|h
  .rw[if_pos hk];exact Y4
  .split
   .exact Y5 _ (ih h)
   .exact ih h
theorem Zte {xs:List S.Item}{x:S.Item}(h:x∈xs)(hk:S.named x=true):x.label∈S.names xs:=by
 induction xs with
 | nil=>cases h
 | cons y r ih =>
  rw[S.names];rcases Yu.1 h with rfl|h
  .rw[if_pos hk];exact Y4
  .split
   .exact Y5 _ (ih h)
   .exact ih h
theorem Ztf {xs:List S.Item}(hd:(S.tells xs).Nodup){i j:Nat}{x y:S.Item}(hx:xs[i]?=some x)(hy:xs[j]?=some y)(kx:x.kind=2)(ky:y.kind=2)(h:x.label=y.label):i=j:=by
 induction xs generalizing i j with
 | nil=>simp at hx
 | cons z r ih =>
  rw[S.tells] at hd;have hr:(S.tells r).Nodup:=by
   split at hd
   .exact(Yc8.1 hd).2
   .exact hd
  cases i with
  | zero =>
   cases j with
   | zero=>rfl
   | succ j =>
    exfalso
    simp at hx hy;subst hx;rw[if_pos kx] at hd;exact(Yc8.1 hd).1 (h ▸ Zl2 (Y2 hy) ky)
  | succ i =>
   cases j with
   | zero =>
    exfalso
    simp at hx hy;subst hy;rw[if_pos ky] at hd;exact(Yc8.1 hd).1 (h ▸ Zl2 (Y2 hx) kx)
   | succ j =>
    simp at hx hy;rw[ih hr hx hy]
theorem Z1h {xs:List S.Item}(hd:(S.tells xs).Nodup):¬Dup xs:=by
 rintro⟨i,x,hx,hk,hs⟩;rcases Zag xs x.label with⟨h1,h2⟩|⟨j,y,h1,h2,h3,h4,_⟩
 .exact h2 i x hx ⟨hk,rfl⟩
 .exact hs (by rw[h1,Ztf hd h2 hx h3 hk h4])
theorem Zyx {xs:List S.Item}(hn:∀s∈S.names xs,s∈S.tells xs):¬Miss xs:=by
 rintro⟨i,x,hx,hk,hs⟩;obtain⟨y,hy,ky,ly⟩:=Ztd (hn _ (Zte (Y2 hx) hk));obtain⟨j,hj,rfl⟩:=List.getElem_of_mem hy;rcases Zag xs x.label with⟨h1,h2⟩|⟨j,y,h1,h2,h3,h4,_⟩
 .exact h2 j _ (Ye hj) ⟨ky,ly⟩
 .omega
theorem Zp3 {xs:List S.Item}(h:S.allChk xs):firstErr xs=0:=by
 induction xs with
 | nil=>rfl
 | cons x r ih =>
  rw[firstErr,if_neg (by rw[h x Y4];simp)];exact ih λ y hy=>h y (Y5 _ hy)
theorem Zl3 {xs:List S.Item}{F:List Int}(hF:FormOk xs F)(hc:S.allChk xs):∀n:Nat,n<=xs.length->addr xs F 0 n<=S.bulk (xs.take n)
 | 0,_=>by simp[addr,S.bulk]
 | n+1,h=>by
  have h1:=Zl3 hF hc n (by omega);have hx:xs[n]?=some xs[n]:=Ye h;have h2:=hF.2 n _ hx;have h3:=hc xs[n] (List.getElem_mem h);have e:xs.take (n+1)=xs.take n++[xs[n]]:=by rw[List.take_add_one,hx];rfl
  rw[e,Zbq]
  show addr xs F 0 n+sizeAt xs F n<=_
  unfold sizeAt;rw[hx];have h4:size xs[n] (F.getD n 0)<=(if xs[n].kind=8 then xs[n].word else 4):=by
   unfold size;generalize xs[n]=x at *
   grind
  simp only[S.bulk];omega
theorem Z1i {xs:List S.Item}{e:Int}{F:List Int}(h:FormsRes xs 0 e F)(hc:S.allChk xs)(hd:(S.tells xs).Nodup)(hn:∀s∈S.names xs,s∈S.tells xs)(hb:S.bulk xs<=67108864) :
 e=0/\FormOk xs F/\addr xs F 0 xs.length<=S.bulk xs:=by
 have h0:CheckRes xs 0 0:=.inr (.inr (.inr (.inr ⟨Int.le_refl _,by decide,Zp3 hc,Z1h hd,Zyx hn,rfl⟩)));have hl:∀G,FormOk xs G->addr xs G 0 xs.length<=S.bulk xs:=λ G hG=>by
  have:=Zl3 hG hc xs.length (Yd _)
  rwa[List.take_length] at this
 rcases h with⟨h1,h2,_⟩|⟨_,_,_,G,h3,h4⟩|⟨_,h2,h3,_,_⟩
 .exact absurd (Zks h2 h0) h1
 .have:=hl G h3.1
  have:(67108864:Int)<addr xs G 0 xs.length:=h4;omega
 .exact⟨h2,h3.1,hl F h3.1⟩
theorem Zxk {xs:List S.Item}{F:List Int}(hF:FormOk xs F)(hk:∀x∈xs,1<=x.kind/\x.kind<=8)(hw:∀x∈xs,0<=x.word/\x.word<=4294967295){i j:Nat}{w:Int}(hj:(wordsAt xs F 0 i)[j]?=some w) :
 ∀n:Nat,i<n->(outTo xs F 0 n)[(addr xs F 0 i).toNat+j]?=some w
 | 0,h=>by omega
 | n+1,h=>by
  rw[outTo];have hl:=Zao (base:=0) hF hk hw n;have hli:=Zao (base:=0) hF hk hw i;have hj2:=(Yg.1 hj).1;have hwi:=Zaf (base:=0) hF hk hw i;by_cases c:i=n
  .subst c
   rw[List.getElem?_append_right (by omega)];have e:(addr xs F 0 i).toNat+j-(outTo xs F 0 i).length=j:=by omega
   rw[e];exact hj
  .have h1:=Zxk hF hk hw hj n (by omega)
   rw[List.getElem?_append_left (Yg.1 h1).1];exact h1
theorem Zwe {y:Inst}{s:ByteArray}{w:Int}(h:good y=true):S.chkItem ⟨1,y,s,w⟩=0:=by
 simp[S.chkItem,chk,h]
section
theorem Z2i {d:Int}(hd:0<=d/\d<=31):good ⟨34,d,0,0,0⟩=true:=by
 have hf:form 34=6:=by decide
 have hl:least 34=0/\most 34=0:=by decide
 simp[good,hf,hl.1,hl.2,reg,hasD,hasA,hasB];omega
theorem Ztg {op a:Int}(ho:op=35\/op=36)(ha:0<=a/\a<=31):good ⟨op,0,a,0,0⟩=true:=by
 rcases ho with rfl|rfl
 .have hf:form 35=7:=by decide
  have hl:least 35=0/\most 35=0:=by decide
  simp[good,hf,hl.1,hl.2,reg,hasD,hasA,hasB];omega
 .have hf:form 36=7:=by decide
  have hl:least 36=0/\most 36=0:=by decide
  simp[good,hf,hl.1,hl.2,reg,hasD,hasA,hasB];omega
theorem Zjd:S.allChk []:=λ _ h=>by cases h
theorem Zbc {a b:List S.Item}(h:S.allChk a)(k:S.allChk b):S.allChk (a++b):=λ x hx=>(List.mem_append.1 hx).elim (h x) (k x)
theorem Z1 {x:S.Item}{b:List S.Item}(h:S.chkItem x=0)(k:S.allChk b):S.allChk (x::b):=λ y hy=>(Yu.1 hy).elim (λ e=>e ▸ h) (k y)
theorem Zje {x:S.Item}(h:S.chkItem x=0):S.allChk [x]:=Z1 h Zjd
theorem Z1j {op d a b n:Int}(h:good ⟨op,d,a,b,n⟩=true):S.chkItem (bI op d a b n)=0:=Zwe h
theorem Zjf (s:ByteArray):S.chkItem (bL s)=0:=by simp[S.chkItem,bL]
section
variable {L:Int}(hL:0<=L/\L<=200)
include hL
end
end
namespace S
def Zxl:ByteArray:=⟨#[115,116,97,114,116]⟩
def bW (w:Int):Item:=⟨6,⟨0,0,0,0,0⟩,bNo,w⟩
def viewOf (m:Mach):Vw:=⟨m.rd,m.mv,m.input,m.out⟩
end S
section
namespace S
def eC (n:Int):BE:=.mk 1 n bNo []
def eL (n:Int):BE:=.mk 2 n bNo []
def eR (n:Int):BE:=.mk 3 n bNo []
def eB (op:Int)(a b:BE):BE:=.mk 4 op bNo [a,b]
def eM (a:BE)(n:Int):BE:=.mk 5 n bNo [a]
def eF (name:ByteArray)(l:List BE):BE:=.mk 6 0 name l
def eQ (a b:BE):BE:=.mk 7 0 bNo [a,b]
def eI:BE:=.mk 8 0 bNo []
def eA (name:ByteArray):BE:=.mk 9 0 name []
def eK:BE:=.mk 10 0 bNo []
def sAs (n:Int)(e:BE):BS:=.mk 1 n bNo [e] [] [] []
def sPut (a:BE)(n:Int)(e:BE):BS:=.mk 2 n bNo [a,e] [] [] []
def sIf (e:BE)(b l:List BS):BS:=.mk 3 0 bNo [e] [] b l
def sWh (e:BE)(b:List BS):BS:=.mk 4 0 bNo [e] [] b []
def sRet (regs:List Int)(l:List BE):BS:=.mk 5 0 bNo l regs [] []
def sDo (e:BE):BS:=.mk 6 0 bNo [e] [] [] []
def sOut (e:BE):BS:=.mk 7 0 bNo [e] [] [] []
def sHlt (e:BE):BS:=.mk 8 0 bNo [e] [] [] []
def sSet (n:Int)(e:BE):BS:=.mk 9 n bNo [e] [] [] []
def Z4j (name:ByteArray):BS:=.mk 10 0 name [] [] [] []
def sGo (e:BE):BS:=.mk 11 0 bNo [e] [] [] []
def sBk (e:BE):BS:=sRet [4] [e]
end S
section
variable {I:Img}{dep lk:Int}{env:List Int}{at_:Nat}{st:S.Vw}{c:Nat}{Q:Int->S.Vw->Nat->Prop}{H:Int->S.Vw->Nat->Prop}
theorem Zez (op n:Int)(nm:ByteArray)(l:List S.BE):wpE I dep lk env (.mk op n nm l) at_ st c Q H=wpEs I dep lk env l at_ st c (λ vs st1 c1=>S.wpOp I dep lk op n nm at_ env vs st1 c1 Q H) H:=by rw[wpE]
theorem Z3c (n:Int):wpE I dep lk env (S.eC n) at_ st c Q H=Q (n%4294967296) st (c+2):=by
 rw[S.eC,Zez,wpEs,S.wpOp,if_pos rfl]
theorem Z3d (n:Int):wpE I dep lk env (S.eL n) at_ st c Q H=Q (env.getD n.toNat 0) st (c+1):=by
 rw[S.eL,Zez,wpEs,S.wpOp,if_neg (by decide),if_pos rfl]
theorem Z3e (n:Int):wpE I dep lk env (S.eR n) at_ st c Q H=Q (st.reg n) st (c+1):=by
 rw[S.eR,Zez,wpEs,S.wpOp,if_neg (by decide),if_neg (by decide),if_pos rfl]
theorem Z3f (op:Int)(a b:S.BE):wpE I dep lk env (S.eB op a b) at_ st c Q H =
 wpE I dep lk env a at_ st c (λ v st1 c1=>wpE I dep lk env b (at_+1) st1 c1 (λ u st2 c2=>(u=0->op≠5/\op≠6)/\Q (alu op v u) st2 (c2+1)) H) H:=by
 rw[S.eB,Zez,wpEs];refine congrArg (λ q=>wpE I dep lk env a at_ st c q H) (funext λ v=>funext λ st1=>funext λ c1=>?_);rw[wpEs];refine congrArg (λ q=>wpE I dep lk env b (at_+1) st1 c1 q H) (funext λ u=>funext λ st2=>funext λ c2=>?_);rw[wpEs,S.wpOp,if_neg (by decide),if_neg (by decide),if_neg (by decide),if_pos rfl];rfl
theorem Z3g (a:S.BE)(n:Int):wpE I dep lk env (S.eM a n) at_ st c Q H =
 wpE I dep lk env a at_ st c (λ v st1 c1=>u32m (v+n)<I.size/\¬I.stk (u32m (v+n))/\Q (st1.mem (u32m (v+n))) st1 (c1+1)) H:=by
 rw[S.eM,Zez,wpEs];refine congrArg (λ q=>wpE I dep lk env a at_ st c q H) (funext λ v=>funext λ st1=>funext λ c1=>?_);rw[wpEs,S.wpOp,if_neg (by decide),if_neg (by decide),if_neg (by decide),if_neg (by decide),if_pos rfl];rfl
def S.bp (I:Img)(dep:Int)(name:ByteArray)(at_:Nat)(vs:List Int)(st:S.Vw)(c:Nat)(Q H:Int->S.Vw->Nat->Prop):Prop :=
 ∃d R,Real I name false (st.args vs) d R/\d<=dep/\∀ret o k,R ret o k->(match o with
  | .ret st2=>Q (st2.reg 4) st2 (c+2*at_+vs.length+4+k)
  | .halt code st2=>H code st2 (c+2*at_+vs.length+4+k)
  | .left _ _=>False)
theorem Zyy (nm:ByteArray)(l:List S.BE):wpE I dep lk env (S.eF nm l) at_ st c Q H=wpEs I dep lk env l at_ st c (λ vs st1 c1=>bp I dep nm at_ vs st1 c1 Q H) H:=by
 rw[S.eF,Zez];refine congrArg (λ q=>wpEs I dep lk env l at_ st c q H) (funext λ v=>funext λ st1=>funext λ c1=>?_);rw[S.wpOp,if_neg (by decide),if_neg (by decide),if_neg (by decide),if_neg (by decide),if_neg (by decide),if_pos rfl];rfl
theorem Z3h (a b:S.BE):wpE I dep lk env (S.eQ a b) at_ st c Q H =
 wpE I dep lk env a at_ st c (λ v st1 c1=>wpE I dep lk env b (at_+1) st1 c1 (λ u st2 c2=>Q (if v=u then 1 else 0) st2 (c2+3)) H) H:=by
 rw[S.eQ,Zez,wpEs];refine congrArg (λ q=>wpE I dep lk env a at_ st c q H) (funext λ v=>funext λ st1=>funext λ c1=>?_);rw[wpEs];refine congrArg (λ q=>wpE I dep lk env b (at_+1) st1 c1 q H) (funext λ u=>funext λ st2=>funext λ c2=>?_);rw[wpEs,S.wpOp,if_neg (by decide),if_neg (by decide),if_neg (by decide),if_neg (by decide),if_neg (by decide),if_neg (by decide),if_pos rfl];rfl
theorem Z3i:wpE I dep lk env S.eI at_ st c Q H=Q (inByte st.inp) { st with inp:=st.inp.tail } (c+1):=by
 rw[S.eI,Zez,wpEs,S.wpOp,if_neg (by decide),if_neg (by decide),if_neg (by decide),if_neg (by decide),if_neg (by decide),if_neg (by decide),if_neg (by decide),if_pos rfl]
theorem Z3j:wpE I dep lk env S.eK at_ st c Q H=Q lk st (c+1):=by
 rw[S.eK,Zez,wpEs,S.wpOp,if_neg (by decide),if_neg (by decide),if_neg (by decide),if_neg (by decide),if_neg (by decide),if_neg (by decide),if_neg (by decide),if_neg (by decide),if_neg (by decide),if_pos rfl]
end
section
variable {I:Img}{dep lk:Int}{behind:Bool}{env:List Int}{st:S.Vw}{c:Nat}{Q:List Int->S.Vw->Nat->Prop}{R:BO->Nat->Prop}
theorem Ze0 {a:S.BE}{at_:Nat}{T:List Int->S.Vw->Nat->Prop}{H:Int->S.Vw->Nat->Prop}:wpEs I dep lk env [a] at_ st c T H=wpE I dep lk env a at_ st c (λ v st1 c1=>T [v] st1 c1) H:=by
 rw[wpEs];refine congrArg (λ q=>wpE I dep lk env a at_ st c q H) (funext λ v=>funext λ st1=>funext λ c1=>?_);rw[wpEs]
theorem Z1k {a b:S.BE}{at_:Nat}{T:List Int->S.Vw->Nat->Prop}{H:Int->S.Vw->Nat->Prop}:wpEs I dep lk env [a,b] at_ st c T H =
 wpE I dep lk env a at_ st c (λ v st1 c1=>wpE I dep lk env b (at_+1) st1 c1 (λ u st2 c2=>T [v,u] st2 c2) H) H:=by
 rw[wpEs];refine congrArg (λ q=>wpE I dep lk env a at_ st c q H) (funext λ v=>funext λ st1=>funext λ c1=>?_);rw[Ze0]
theorem Z1l:wpSs I dep lk behind [] env st c Q R=Q env st c:=by rw[wpSs]
theorem Zdd (s:S.BS)(r:List S.BS):wpSs I dep lk behind (s::r) env st c Q R=wpS I dep lk behind s env st c (λ Zzx st1 c1=>wpSs I dep lk behind r Zzx st1 c1 Q R) R:=by rw[wpSs]
theorem Zxm (n:Int)(e:S.BE):wpS I dep lk behind (S.sAs n e) env st c Q R=wpE I dep lk env e 0 st c (λ v st1 c1=>Q (env.set n.toNat v) st1 (c1+1)) (λ code st c=>R (.halt code st) c):=by
 rw[S.sAs,wpS,if_neg (by decide),Ze0];refine congrArg (λ q=>wpE I dep lk env e 0 st c q _) (funext λ v=>funext λ st1=>funext λ c1=>?_);rw[if_pos rfl];rfl
theorem Zyz (a:S.BE)(n:Int)(e:S.BE):wpS I dep lk behind (S.sPut a n e) env st c Q R =
 wpE I dep lk env a 0 st c (λ p st1 c1=>wpE I dep lk env e 1 st1 c1 (λ v st2 c2=>u32m (p+n)<I.size/\¬I.stk (u32m (p+n))/\¬I.code (u32m (p+n))/\Q env (st2.sto (u32m (p+n)) v) (c2+1)) (λ code st c=>R (.halt code st) c)) (λ code st c=>R (.halt code st) c):=by
 rw[S.sPut,wpS,if_neg (by decide),Z1k];refine congrArg (λ q=>wpE I dep lk env a 0 st c q _) (funext λ p=>funext λ st1=>funext λ c1=>?_);refine congrArg (λ q=>wpE I dep lk env e 1 st1 c1 q _) (funext λ v=>funext λ st2=>funext λ c2=>?_);rw[if_neg (by decide),if_pos rfl];rfl
theorem Z1m (e:S.BE)(b l:List S.BS):wpS I dep lk behind (S.sIf e b l) env st c Q R =
 wpE I dep lk env e 0 st c (λ v st1 c1=>if v=0 then wpSs I dep lk behind l env st1 (c1+4) Q R else wpSs I dep lk behind b env st1 (c1+4) (λ Zkn st2 c2=>Q Zkn st2 (c2+3)) R) (λ code st c=>R (.halt code st) c):=by
 rw[S.sIf,wpS,if_neg (by decide),Ze0];refine congrArg (λ q=>wpE I dep lk env e 0 st c q _) (funext λ v=>funext λ st1=>funext λ c1=>?_);rw[if_neg (by decide),if_neg (by decide),if_pos rfl];rfl
theorem Z1n (e:S.BE)(b:List S.BS):wpS I dep lk behind (S.sWh e b) env st c Q R =
 ∃J:List Int->S.Vw->Nat->Nat->Prop,(∃k,J env st c k)/\∀env st c k,J env st c k ->
  wpE I dep lk env e 0 st c (λ v st1 c1=>if v=0 then Q env st1 (c1+4) else wpSs I dep lk behind b env st1 (c1+4) (λ Zkn st2 c2=>∃k2,k2<k/\J Zkn st2 (c2+3) k2) R) (λ code st c=>R (.halt code st) c):=by
 rw[S.sWh,wpS,if_pos rfl];simp only[Ze0];rfl
theorem Zy0 (regs:List Int)(l:List S.BE):wpS I dep lk behind (S.sRet regs l) env st c Q R=wpEs I dep lk env l 0 st c (λ vs st1 c1=>R (.ret (st1.regs regs vs)) (c1+regs.length+(if behind=true then 5 else 3))) (λ code st c=>R (.halt code st) c):=by
 rw[S.sRet,wpS,if_neg (by decide)];refine congrArg (λ q=>wpEs I dep lk env l 0 st c q _) (funext λ v=>funext λ st1=>funext λ c1=>?_);rw[if_neg (by decide),if_neg (by decide),if_neg (by decide),if_pos rfl]
theorem Zxn (e:S.BE):wpS I dep lk behind (S.sBk e) env st c Q R=wpE I dep lk env e 0 st c (λ v st1 c1=>R (.ret (st1.set 4 v)) (c1+1+(if behind=true then 5 else 3))) (λ code st c=>R (.halt code st) c):=by
 rw[S.sBk,Zy0,Ze0];rfl
theorem Z1o (e:S.BE):wpS I dep lk behind (S.sDo e) env st c Q R=wpE I dep lk env e 0 st c (λ v st1 c1=>Q env st1 c1) (λ code st c=>R (.halt code st) c):=by
 rw[S.sDo,wpS,if_neg (by decide),Ze0];refine congrArg (λ q=>wpE I dep lk env e 0 st c q _) (funext λ v=>funext λ st1=>funext λ c1=>?_);rw[if_neg (by decide),if_neg (by decide),if_neg (by decide),if_neg (by decide),if_pos rfl]
theorem Zy1 (e:S.BE):wpS I dep lk behind (S.sOut e) env st c Q R=wpE I dep lk env e 0 st c (λ v st1 c1=>Q env { st1 with out:=st1.out++[v%256] } (c1+1)) (λ code st c=>R (.halt code st) c):=by
 rw[S.sOut,wpS,if_neg (by decide),Ze0];refine congrArg (λ q=>wpE I dep lk env e 0 st c q _) (funext λ v=>funext λ st1=>funext λ c1=>?_);rw[if_neg (by decide),if_neg (by decide),if_neg (by decide),if_neg (by decide),if_neg (by decide),if_pos rfl];rfl
theorem Zy2 (e:S.BE):wpS I dep lk behind (S.sHlt e) env st c Q R=wpE I dep lk env e 0 st c (λ v st1 c1=>R (.halt v st1) (c1+1)) (λ code st c=>R (.halt code st) c):=by
 rw[S.sHlt,wpS,if_neg (by decide),Ze0];refine congrArg (λ q=>wpE I dep lk env e 0 st c q _) (funext λ v=>funext λ st1=>funext λ c1=>?_);rw[if_neg (by decide),if_neg (by decide),if_neg (by decide),if_neg (by decide),if_neg (by decide),if_neg (by decide),if_pos rfl];rfl
theorem Zy3 (n:Int)(e:S.BE):wpS I dep lk behind (S.sSet n e) env st c Q R=wpE I dep lk env e 0 st c (λ v st1 c1=>Q env (st1.set n v) (c1+1)) (λ code st c=>R (.halt code st) c):=by
 rw[S.sSet,wpS,if_neg (by decide),Ze0];refine congrArg (λ q=>wpE I dep lk env e 0 st c q _) (funext λ v=>funext λ st1=>funext λ c1=>?_);rw[if_neg (by decide),if_neg (by decide),if_neg (by decide),if_neg (by decide),if_neg (by decide),if_neg (by decide),if_neg (by decide),if_pos rfl];rfl
end
end
section
section
variable {P:Program}{B N:Nat}{w0:World}{H0:Zl}{s:St}{a:Act}{w:World}{H:Zl}{φ:Nat->Nat}{o:Oper}{e:Eff}{l:List Nat}
theorem Zht (z:Array Value)(hz:0<z.size):∀n:Nat,((Array.range (n*z.size)).map (z[·%z.size]!)).toList=(Y1 n z.toList).flatten
 | 0=>by simp
 | n+1=>by
  have ih:=Zht z hz n;rw[Array.toList_map,Array.toList_range] at ih⊢;rw[List.replicate_succ',List.flatten_append,<- ih,Yda,Nat.one_mul,List.range_add,List.map_append]
  congr 1
  rw[List.map_map]
  apply List.ext_getElem
  .simp
  .intro i h1 h2
   simp only[List.length_map,List.length_range] at h1;have e1:(n*z.size+i)%z.size=i:=by
    rw[Nat.mul_comm,Nat.mul_add_mod,Nat.mod_eq_of_lt h1]
   simp[e1,h1]
theorem Zl4 {z:List AV}{vz:List Value}(h:RepL H w z vz):∀n:Nat,RepL H w (timesA z n) ((Y1 n vz).flatten)
 | 0=>by rw[timesA,RepL];rfl
 | n+1=>by
  rw[timesA,List.replicate_succ,List.flatten_cons];exact RepL.append h (Zl4 h n)
theorem Ze1 (z:List AV):∀n:Nat,(timesA z n).length=n*z.length
 | 0=>by rw[timesA];simp
 | n+1=>by rw[timesA,Yc,Ze1 z n,Yda];omega
theorem Zfu {place:Nat->Option (Nat×Nat)}:∀{ps:List (Nat×List AV)} {cs out:List AV},fillA place cs ps=some out->out.length=cs.length
 | [],cs,out,h=>by simp[fillA] at h;subst h;rfl
 | (i,v)::r,cs,out,h=>by
  unfold fillA at h
  split at h
  .cases h
  .split at h
   .rename_i hh
    rw[Zfu h];simp only[Yc,Y9,List.length_drop];omega
   .cases h
theorem Zbr {t:TypeId}{n:Nat}(h:sizeA P t=some n):∃i,P.info? t=some i/\i.size=n:=by
 unfold sizeA at h
 cases hi:P.info? t with
 | none=>rw[hi] at h;cases h
 | some i=>rw[hi] at h;exact⟨i,rfl,by simpa using h⟩
theorem Zth (hG:Gam B N w0 H0 s a w H φ){d:Nat}(hd:d<N){n z:Nat}{cs:List AV}{cur:Array Value}{t:TypeId}{c:Nat}{w':World}{drop:Option Nat}
 (hw:w'=w.alloc (.cells cur t (0,0))\/w'=w.drew.alloc (.cells cur t (0,0))) {xs:List Value} (hx:RepL H w cs xs) (hcur:cur.toList.take cs.length=xs)
 (hn:n<=c) (hc:c<=maxLen) (hsz:cur.size=c*z) (hlen:cs.length=n*z) (hz:0<z) :
 GamX B N w0 H0 ((⟨some (d,.row n cs,some (t,z)),drop,none⟩:Eff).apply s) (a.put (some d) (.slice (some ⟨w.heap.size,0,none⟩) n c)) w':=by
 have hb:Below w.heap.size w w':=by
  rcases hw with rfl|rfl
  .exact(Below.refl _ _).alloc (Yd _) _
  .exact⟨rfl,rfl,rfl,by show w.heap.size<=(w.heap.push _).size;simp,λ k hk=>heap_alloc_old w.drew _ hk⟩
 have hsize:w'.heap.size=w.heap.size+1:=by
  rcases hw with rfl|rfl <;> (show(w.heap.push _).size=_;simp)
 have hnew:w'.heap[w.heap.size]?=some (.cells cur t (0,0)):=by
  rcases hw with rfl|rfl
  .exact heap_alloc_new w _
  .exact heap_alloc_new w.drew _
 obtain⟨H',hH'⟩:∃H':Zl,H'=λ b=>if b=w.heap.size then some cs.length else H b:=⟨_,rfl⟩
 have h1:H' w.heap.size=some cs.length:=by rw[hH'];simp
 have h2:∀b,b≠w.heap.size->H' b=H b:=λ b hb=>by rw[hH'];simp[hb]
 have hst:Stay H w H' w':=Zce hG hb λ b hb=>h2 b (by omega)
 have hrange:w'.rangeAt w.heap.size 0 xs:=λ j v hj=>by
  rw[Yb hnew,Yw];have hj2:j<cs.length:=by rw[<- RepL.length hx];exact(Yg.1 hj).1
  rw[<- hcur,Ybe,if_pos hj2] at hj
  simpa using hj
 have hrep:RepC H' w' cs w.heap.size 0:=Zho (RepL.stay hst cs xs hx) hrange;refine⟨H',φ,hG.next (.inr ⟨d,_,_,rfl,rfl,hd,.inr ?_,λ y hy=>⟨?_,λ t' g hne hdr hsm hg hg2=>?_⟩⟩) (hb.mono hG.base) hst (λ b hb'=>h2 b (by have:=hG.base;omega)) (λ b k hk=>?_) (λ _ _=>rfl) (λ i t' cs' hi=>?_) hG.inj (λ t' g _ _ hsm hg=>?_)⟩
 .rw[RepV]
  refine⟨_,c,rfl,λ h0=>List.eq_nil_of_length_eq_zero (by rw[hlen,h0];simp),λ h0=>(by cases h0),.inr ⟨_,0,_,rfl,h1,by omega,hrep⟩⟩
 .cases hy
  exact⟨n,cs,rfl,.inr ⟨_,c,cur,rfl,hG.base,h1,hnew,hn,hc,hsz,hlen,hz⟩⟩
 .simp only[Value.ownBlock,Option.some.injEq] at hg2
  obtain⟨y',hy'⟩:=Y8.1 hsm;obtain⟨x,_,hok⟩:=hG.tail t' y' hy';obtain⟨⟨k,hk⟩,_⟩:=hok.own hg;have:=(hG.bnd g k hk).lt;omega
 .by_cases hbe:b=w.heap.size
  .rw[hbe]
   exact⟨_,_,hnew⟩
  .rw[h2 b hbe] at hk
   exact(hG.bnd b k hk).below hb
 .have hi':s.hp i=some (t',cs'):=hi
  obtain⟨h3,h4,vs',h5,h6⟩:=hG.ent i t' cs' hi';have hlt:=Zja hG (i:=i) (by rw[hi'];rfl);exact⟨h3,(h2 _ (by omega)).trans h4,vs',(hb.block _ hlt).trans h5,RepL.stay hst cs' vs' h6⟩
 .obtain⟨y',hy'⟩:=Y8.1 hsm
  obtain⟨x,_,hok⟩:=hG.tail t' y' hy';obtain⟨⟨k,hk⟩,_⟩:=hok.own hg;have:=(hG.bnd g k hk).lt;exact⟨hb.block g this,h2 g (by omega)⟩
theorem Zp4 (hG:Gam B N w0 H0 s a w H φ){t:TypeId}{len:Nat}{ps:Array (Nat×Operand)}(ho:o.op=.buildSlice t len ps)(he:((partsA ps.toList).bind λ vs=>effSlice P N o.dst t len vs).run s=some (e,l)):Zko P B N w0 H0 o s e a w:=by
 obtain⟨vs,_,_,h1,h2⟩:=Zg _ _ he;have hp:=Zfi hG h1;rw[<- Zjc] at hp;unfold effSlice at h2
 split at h2
 .rename_i e' hu
  split at h2
  .rename_i z n hz hn
   split at h2
   .rename_i hh
    obtain⟨hzl,hn0,hl0,hbig⟩:=hh;obtain⟨cs,_,_,h3,h4⟩:=Zg _ _ h2;obtain⟨i,zv,hi,hzz,hc⟩:=Zgc hz;obtain⟨i',hi',hin⟩:=Zbr hn;rw[hi] at hi'
    cases hi'
    subst hin;have hcr:=Zct hc H w;have hzsz:zv.cells.size=i.size:=by rw[<- hzl,<- RepL.length hcr];simp
    have hrep0:RepL H w (timesA z len) ((Array.range (len*i.size)).map (zv.cells[·%zv.cells.size]!)).toList:=by
     rw[<- hzsz,Zht _ (by omega)];exact Zl4 hcr len
    have hf:=Z2 h3;obtain⟨r,hr,hrr⟩:=Zkh hp hrep0 hf;have hlen:cs.length=len*i.size:=by rw[Zfu hf,Ze1,hzl]
    have hpos:0<len*i.size:=Nat.mul_pos hl0 hn0;have hrun:(execOp a.eval o).run P w=.ok (.value (.slice (some ⟨w.heap.size,0,none⟩) len len)) (w.alloc (.cells r e')):=by
     unfold execOp;simp only[ho,Yad,run_buildSlice w t e' len _ r i zv hu hi hzz (by omega) (by omega) hr,Y0,Yam]
    intro K Q hK;refine Zdr hrun (hK _ _ ?_);rcases Zbp h4 with⟨h5,rfl⟩|⟨d,h5,hd,rfl⟩
    .rw[h5]
     have hb:Below w.heap.size w (w.alloc (.cells r e')):=(Below.refl _ _).alloc (Yd _) _;exact⟨H,φ,hG.next (.inl ⟨rfl,rfl⟩) (hb.mono hG.base) (Zce hG hb λ _ _=>rfl) (λ _ _=>rfl) (λ b k hk=>(hG.bnd b k hk).below hb) (λ _ _=>rfl)
      (λ i t' cs' hi=>by
       have hi':s.hp i=some (t',cs'):=hi;obtain⟨h3,h4,vs',h5,h6⟩:=hG.ent i t' cs' hi';exact⟨h3,h4,vs',(hb.block _ (Zja hG (by rw[hi'];rfl))).trans h5,RepL.stay (Zce hG hb λ _ _=>rfl) cs' vs' h6⟩) hG.inj
      (λ t' g _ _ hsm hg=>by
       obtain⟨y',hy'⟩:=Y8.1 hsm;obtain⟨x,_,hok⟩:=hG.tail t' y' hy';obtain⟨⟨k,hk⟩,_⟩:=hok.own hg;exact⟨hb.block g (hG.bnd g k hk).lt,rfl⟩)⟩
    .rw[h5]
     have hrs:r.size=len*i.size:=by
      have:=RepL.length hrr;simp only[Array.length_toList] at this;rw[this,hlen]
     refine Zth hG hd (.inl rfl) hrr ?_ (Yd _) (by simp only[maxLen];have:len<=len*i.size:=Nat.le_mul_of_pos_right _ hn0;omega) hrs hlen hn0;rw[List.take_of_length_le (by simp[hrs,hlen])]
   .simp[Rd.run] at h2
  .simp[Rd.run] at h2
 .simp[Rd.run] at h2
theorem Zon {t:TypeId}{b off q:Nat}{cs:List AV}{vs:List Value}{v:AV}(hr:w.rangeAt b q vs)(hx:RepL H w cs vs)(h:loadA P t cs off=some v) :
 ∃u,(Instr.loadAt t (.pointer (some ⟨b,q+off,none⟩))).run P w=.ok u w/\RepV H w v u:=by
 unfold loadA at h
 cases hu:P.underlying t with
 | none=>simp[isAggA,hu] at h
 | some d =>
  cases hd:d.isRow with
  | true =>
   simp only[isAggA,hu,Yb7,hd] at h
   cases hn:sizeA P t with
   | none=>rw[hn] at h;cases h
   | some n =>
    rw[hn] at h;simp only at h
    split at h
    .rename_i hle
     cases h
     obtain⟨i,hi,hin⟩:=Zbr hn;have hl:=RepL.length hx;refine⟨.agg ((vs.drop off).take n).toArray,run_loadAt_mid w b (q+off) t ((vs.drop off).take n) d (λ j u hj=>?_) hu hd ?_,?_⟩
     .rw[Ybe] at hj
      split at hj
      .rw[List.getElem?_drop] at hj
       have:=hr (off+j) u hj;rw[<- Nat.add_assoc] at this;exact this
      .cases hj
     .rw[hi]
      simp only[Yb7,hin,Y9,List.length_drop]
      congr 1
      omega
     .rw[RepV]
      exact⟨_,rfl,RepL.take n (RepL.drop off hx)⟩
    .cases h
  | false =>
   simp only[isAggA,hu,Yb7,hd] at h;obtain⟨u,hu2,_,hv⟩:=RepL.at_ hx h;refine⟨u,?_,hv⟩;have hagg':(isAgg t).run P w=.ok false w:=by
    unfold isAgg;rw[Yad,run_underlying hu w]
    cases d <;> simp_all
   have hc:=hr off u hu2;simp only[Instr.loadAt,Instr.sureAddr,Yad,Yam,Y0,loadVar,hagg',Bool.false_eq_true,if_false,run_load,hc]
theorem Zfv {b:Nat}{vs:List Value}{t:TypeId}{fr:Nat×Nat}(h:w.heap[b]?=some (.cells vs.toArray t fr)):w.rangeAt b 0 vs:=λ j v hj=>by
 rw[Yb h,Yw]
 simpa using hj
theorem Zti (hG:Gam B N w0 H0 s a w H φ){t:TypeId}{x:Operand}(ho:o.op=.load t x)(he:((evalA x).bind λ v=>effLoad P N o.dst t v).run s=some (e,l)):Zko P B N w0 H0 o s e a w:=by
 obtain⟨v,_,_,h1,h2⟩:=Zg _ _ he;have hv:=Zj hG h1;have fin:∀(b off q:Nat)(cs:List AV)(vs:List Value)(l:List Nat),a.eval x=.pointer (some ⟨b,q+off,none⟩)->w.rangeAt b q vs->RepL H w cs vs->((Rd.ofOpt (loadA P t cs off)).bind λ v=>leave N o.dst v none none).run s=some (e,l)->Zko P B N w0 H0 o s e a w:=λ b off q cs vs l hx hr hl h=>by
  obtain⟨u,_,_,h3,h4⟩:=Zg _ _ h;obtain⟨r,hrun,hrep⟩:=Zon hr hl (Z2 h3);refine Zz hG h4 (.inr hrep) ?_;unfold execOp;simp only[ho,hx,Yad,hrun,Y0,Yam]
 unfold effLoad at h2
 split at h2
 .rename_i i off
  simp only[Rd.run] at h2;rcases hv with⟨i',off',hi,hsm,hx⟩|hv
  .cases hi
   obtain⟨⟨t',cs⟩,hcs⟩:=Y8.1 hsm;rw[hcs] at h2
   split at h2
   .rename_i e' l' h3
    simp only[Option.some.injEq,Prod.mk.injEq] at h2;obtain⟨rfl,_⟩:=h2;obtain⟨_,_,vs,h4,h5⟩:=hG.ent i t' cs hcs;exact fin (φ i) off 0 cs vs _ (by rw[Yw];exact hx) (Zfv h4) h5 h3
   .cases h2
  .rw[RepV] at hv
   exact hv.elim
 .rename_i cs off
  rcases hv with⟨i',off',hi,_⟩|hv
  .cases hi
  .rw[RepV] at hv
   obtain⟨b,q,k,hx,_,_,hc⟩:=hv;obtain⟨vs,h3,h4⟩:=Zb8 hc;exact fin b off q cs vs _ hx h4 h3 h2
 .simp[Rd.run] at h2
theorem Zp5 (hG:Gam B N w0 H0 s a w H φ){t:TypeId}{x y:Operand}(ho:o.op=.store t x y)(he:((evalA x).bind λ v=>(evalA y).bind λ u=>(Rd.ofOpt u.cells).bind λ cs=>effStore P o.dst t cs v).run s=some (e,l)):Zko P B N w0 H0 o s e a w:=by
 obtain⟨v,_,_,h1,h2⟩:=Zg _ _ he;obtain⟨u,_,_,h3,h4⟩:=Zg _ _ h2;obtain⟨ds,_,_,h5,h6⟩:=Zg _ _ h4;have hv:=Zj hG h1;have hc:=Z2 h5;obtain⟨us,eus,hus⟩:=Zhn (Zhr (Zj hG h3) hc) hc;unfold effStore at h6
 split at h6
 .rename_i i off
  simp only[Rd.run] at h6;rcases hv with⟨i',off',hi,hsm,hx⟩|hv
  .cases hi
   obtain⟨⟨t',cs⟩,hcs⟩:=Y8.1 hsm;rw[hcs] at h6
   split at h6
   .rename_i e' l' h7
    simp only[Option.some.injEq,Prod.mk.injEq] at h6;obtain⟨rfl,_⟩:=h6;simp only at h7
    split at h7
    .rename_i hh
     obtain⟨hdst,hsz,hle⟩:=hh;simp only[Rd.run,Option.some.injEq,Prod.mk.injEq] at h7;obtain⟨rfl,_⟩:=h7;obtain⟨hB,hHn,vs,h8,h9⟩:=hG.ent i t' cs hcs;have hlv:=RepL.length h9;have hlu:=RepL.length hus;obtain⟨inf,hi,hin⟩:=Zbr hsz;have hst:=run_storeCells_at P (φ i) off t' us 0 vs.toArray w h8 (by simp;omega) (RepL.one hus);simp only[Nat.add_zero] at hst;have hrun:(execOp a.eval o).run P w=.ok .skip (w.setRow (φ i) (vs.take off++us++vs.drop (off+us.length)).toArray):=by
      unfold execOp;simp only[ho,hx,Instr.storeAt,Instr.sureAddr,Yad,Yam,Y0,storeVar,sizeOf,typeInfo,run_program,hi];rw[eus];simp only[hin,List.size_toArray,hlu,ne_eq,not_true_eq_false,if_false,hst,Y0]
     have hother:∀k,k≠φ i->(w.setRow (φ i) (vs.take off++us++vs.drop (off+us.length)).toArray).heap[k]?=w.heap[k]?:=λ k hk=>setRow_other w _ k _ hk
     have hself:=setRow_heap w (φ i) vs.toArray (vs.take off++us++vs.drop (off+us.length)).toArray t' (0,0) h8;have hsize:(w.setRow (φ i) (vs.take off++us++vs.drop (off+us.length)).toArray).heap.size=w.heap.size:=by simp[World.setRow]
     have hb:Below B w (w.setRow (φ i) (vs.take off++us++vs.drop (off+us.length)).toArray):=⟨rfl,rfl,rfl,by rw[hsize];exact Yd _,λ k hk=>hother k (by omega)⟩
     have hst2:Stay H w H (w.setRow (φ i) (vs.take off++us++vs.drop (off+us.length)).toArray):=λ b k hb=>⟨k,hb,Yd _,λ q _=>World.cell?_of_block (hother b (λ e=>by rw[e,hHn] at hb;cases hb))⟩
     intro K Q hK;refine Zpz hrun (hK _ _ ?_);rw[hdst];refine⟨H,φ,hG.next (.inl ⟨rfl,rfl⟩) hb hst2 (λ _ _=>rfl) (λ b k hk=>(hG.bnd b k hk).of (hother b λ e=>by rw[e,hHn] at hk;cases hk)) (λ _ _=>rfl) (λ j t2 cs2 hj=>?_) (λ j j' hj hj' hjj=>?_) (λ t2 g _ _ hsm2 hg=>?_)⟩
     .unfold Eff.apply at hj
      simp only at hj;by_cases c:j=i
      .subst c
       rw[if_pos rfl] at hj
       cases hj
       refine⟨hB,hHn,_,hself,?_⟩;have:=RepL.append (RepL.append (RepL.take off h9) hus) (RepL.drop (off+ds.length) h9);rw[<- hlu] at this⊢;exact RepL.stay hst2 _ _ this
      .rw[if_neg c] at hj
       obtain⟨q1,q2,vs2,q3,q4⟩:=hG.ent j t2 cs2 hj;refine⟨q1,q2,vs2,(hother _ λ e=>c (hG.inj j i (by rw[hj];rfl) hsm e)).trans q3,RepL.stay hst2 _ _ q4⟩
     .have hlive:∀j,(((⟨none,none,some (i,(t',cs.take off++ds++cs.drop (off+ds.length)))⟩:Eff).apply s).hp j).isSome=true->(s.hp j).isSome=true:=λ j hj=>by
       unfold Eff.apply at hj;simp only at hj;by_cases c:j=i
       .rw[c];exact hsm
       .rw[if_neg c] at hj;exact hj
      exact hG.inj j j' (hlive j hj) (hlive j' hj') hjj
     .obtain⟨y',hy'⟩:=Y8.1 hsm2
      obtain⟨x2,_,hok⟩:=hG.tail t2 y' hy';obtain⟨⟨k,hk⟩,_⟩:=hok.own hg;exact⟨hother g (λ e=>by rw[e,hHn] at hk;cases hk),rfl⟩
    .simp[Rd.run] at h7
   .cases h6
  .rw[RepV] at hv
   exact hv.elim
 .simp[Rd.run] at h6
end
end
