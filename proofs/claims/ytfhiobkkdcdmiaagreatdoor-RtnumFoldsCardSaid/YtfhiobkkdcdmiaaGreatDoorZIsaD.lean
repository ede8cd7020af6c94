/- Parts. -/
import Derived.Test.YtfhiobkkdcdmiaaGreatDoorZBRun
import Derived.StillTailTactics
import Derived.Maps.OwnOps
import Derived.Maps.OwnSet
set_option linter.all false
set_option maxHeartbeats 16000000
open Nat renaming le_refl->Yb,lt_of_not_le->Ycl
open List renaming length_append->Yd,getElem?_eq_getElem->Yf,getElem?_eq_some_iff->Yg,length_cons->Yi,mem_cons_self->Yu,mem_cons_of_mem->Yw,mem_cons->Yz,mem_of_getElem?->Y1,cons_append->Yaa,all_eq_true->Ya9,getElem?_drop->Ybu,nodup_cons->Yb7,range->Yca,filterMap_cons->Ydg,mem_range->Ydm
open Go.RowKit.Below renaming refl->Yh
open Bool renaming and_eq_true->Yt,or_eq_true->Ycc
open Go.Region renaming wanted->Yal,ready->Ybg,binds->Yb1,chainB->Ycr,Mode->Yc4,waitsFor_spec->Ydc,noSelect->Ydf,noSelect_spec->Ydq
open Array renaming replicate->Yb3,setIfInBounds_comm->Ydo
namespace Go.Proofs.YtfhiobkkdcdmiaaGreatDoor
open Go.RowKit
section
theorem Zbo:∀k,(S.bParams k).length=k
 | 0=>rfl
 | k+1=>by rw[S.bParams,Yd,Zbo k];rfl
section
variable {I:S.Img}{L dep lk base:Int}(cx:S.Cx I L dep lk base){obj:ByteArray}
include cx
theorem Zio {V:S.Vw}{i:Nat}(hsp:V.reg 28=base):∀k:Nat,k<=4->S.Seg I obj i (S.bParams k)->∃V',S.Go I V (I.adr i) k V' (I.adr (i+k))/\V'.reg=V.reg/\(∀j:Nat,j<k->V'.mem (base+1+j)=V.reg (4+j)) /\
 (∀a:Int,a<base+1\/base+1+k<=a->V'.mem a=V.mem a)/\V'.inp=V.inp/\V'.out=V.out
 | 0,_,_=>⟨V,Zdi _ _ _,rfl,λ j hj=>by omega,λ _ _=>rfl,rfl,rfl⟩
 | k+1,hk,hs=>by
  obtain⟨V1,h1,h2,h3,h4,h5,h6⟩:=Zio hsp k (by omega) hs.left;have hs2:=hs.right;rw[Zbo] at hs2;obtain⟨ok,lo,top,dep0,L0,_,_,_⟩:=cx;have q1:=ok.lo0;have q2:=ok.hisz;have q3:=ok.size2;have ep:base+1+(k:Int)=S.u32m (V1.reg 28+(1+(k:Int))):=by rw[h2,hsp];unfold S.u32m;omega
  have hc:¬I.code (base+1+k):=by
   rintro⟨c0,c1⟩;rcases ok.apart with h|h <;> omega
  have h7:=Ztu ok hs2.lo hs2.lt (V:=V1) hs2.head (by decide) (by omega) ep (by omega) hc;refine⟨_,h1.trans h7,h2,λ j hj=>?_,λ a ha=>?_,h5,h6⟩
  .by_cases c:j=k
   .subst c
    rw[Zd9,h2]
   .rw[Zab _ _ (by omega)];exact h3 j (by omega)
  .rw[Zab _ _ (by omega)];exact h4 a (by omega)
end
theorem Zc5 {r:S.BR}(h:S.chkB r=0):S.labB r.name=true/\0<=r.params/\r.params<=4/\r.params<=r.locals/\r.locals<=200/\S.chkSs r.locals r.body 0=0:=by
 unfold S.chkB at h
 split at h
 .omega
 .rename_i hc
  simp only[Bool.not_eq_true,Bool.or_eq_false_iff,Bool.not_eq_false',decide_eq_false_iff_not] at hc;obtain⟨⟨⟨⟨h1,h2⟩,h3⟩,h4⟩,h5⟩:=hc;exact⟨h1,by omega,by omega,by omega,by omega,h⟩
theorem Zcx (f:Nat->Int)(n k:Nat)(h:k<n):((Yca n).map f).getD k 0=f k:=by
 simp[h]
theorem Zgu {I:S.Img}(hI:I.Ok)(r:S.BR)(hc:S.chkB r=0){i:Nat}(hs:S.Seg I r.name i (S.bItems r)){dep:Int}(hdep:0<=dep)(st:S.Vw)(R:Int->S.BO->Nat->Prop)
 (hw:∀(lk:Int)(env:List Int),0<=lk->lk<I.size->(env.length:Int)=r.locals->(∀k:Nat,(k:Int)<r.params->env.getD k 0=st.reg (4+k)) ->
  S.wpSs I dep lk r.behind r.body env st (r.params.toNat+2) (λ _ st' c'=>R lk (.ret st') (c'+(if r.behind=true then 5 else 3))) (R lk)) :
 S.Real I r.name r.behind st (r.locals+15+dep) R:=by
 obtain⟨hn,p0,p4,pL,L200,hbody⟩:=Zc5 hc;intro V top ret hmt hsp h31 r0 r1 hlo hhi;have cx:S.Cx I r.locals dep ret top:=⟨hI,hlo,by omega,hdep,by omega,L200,r0,r1⟩
 have q1:=hI.lo0;have q2:=hI.hisz;have q3:=hI.size2;have hfr:S.frameB r=r.locals+15:=by unfold S.frameB;rw[if_neg (by simp[hc])]
 obtain⟨np,hnp⟩:=Yx r.params.toNat;unfold S.bItems S.bHead at hs;rw[hfr,<- hnp] at hs;have hsA:S.Seg I r.name i ([S.bL r.name,S.bI 25 0 28 31 0]:List S.Item):=hs.left.left.left.left;have hsP:S.Seg I r.name (i+2) (S.bParams np):=hs.left.left.left.right;have hsQ:S.Seg I r.name (i+2+np) [S.bI 15 28 28 0 (r.locals+15)]:=by
  have h:=hs.left.left.right;rw[Yd,Zbo] at h;have e:i+(([S.bL r.name,S.bI 25 0 28 31 0]:List S.Item).length+np)=i+2+np:=by simp;omega
  rw[e] at h;exact h
 have hsB:S.Seg I r.name (i+2+np+1) (S.bStmts (r.locals+15) r.locals r.behind r.body 0).1:=by
  have h:=hs.left.right;rw[Yd,Yd,Zbo] at h;have e:i+(([S.bL r.name,S.bI 25 0 28 31 0]:List S.Item).length+np+([S.bI 15 28 28 0 (r.locals+15)]:List S.Item).length)=i+2+np+1:=by simp;omega
  rw[e] at h;exact h
 have hsR:S.Seg I r.name (i+2+np+1+(S.bStmts (r.locals+15) r.locals r.behind r.body 0).1.length) (S.bBack (r.locals+15) r.behind):=by
  have h:=hs.right;rw[Yd,Yd,Yd,Zbo] at h;have e:i+(([S.bL r.name,S.bI 25 0 28 31 0]:List S.Item).length+np+([S.bI 15 28 28 0 (r.locals+15)]:List S.Item).length+(S.bStmts (r.locals+15) r.locals r.behind r.body 0).1.length)=i+2+np+1+(S.bStmts (r.locals+15) r.locals r.behind r.body 0).1.length:=by simp;omega
  rw[e] at h;exact h
 have hlab:I.lab r.name=I.adr i:=by
  have:=Zkc cx hsA;rw[Zeo _ hn] at this;exact this
 have g0:=Zem hI hsA.lo hsA.lt (V:=V) hsA.head;have et:top=S.u32m (V.reg 28+0):=by rw[hsp];unfold S.u32m;omega
 have hct:¬I.code top:=by
  rintro⟨c0,c1⟩;rcases hI.apart with h|h <;> omega
 have g1:=Ztu hI hsA.tail.lo hsA.tail.lt (V:=V) (a:=28) (b:=31) (n:=0) hsA.tail.head (by decide) (by decide) et (by omega) hct;rw[h31] at g1;obtain⟨V2,g2,e2r,e2a,e2m,e2i,e2o⟩:=Zio cx (V:=V.sto top ret) hsp np (by omega) hsP;have g3:=Zd8 hI hsQ.lo hsQ.lt (V:=V2) (d:=28) (a:=28) (n:=r.locals+15) hsQ.head (by decide) (by decide) (by decide);have e3:S.u32m (V2.reg 28+(r.locals+15))=top+r.locals+15:=by
  have:V2.reg 28=top:=by rw[e2r];exact hsp
  rw[this];unfold S.u32m;omega
 rw[e3] at g3;have gg:S.Go I V (I.lab r.name) (np+2) (V2.set 28 (top+r.locals+15)) (I.adr (i+2+np+1)):=by
  rw[hlab];exact(((g0.trans g1).trans g2).trans g3).more (by omega)
 have hmem:∀a:Int,a<top\/top+1+np<=a->(V2.set 28 (top+r.locals+15)).mem a=V.mem a:=λ a ha=>by
  show V2.mem a=_
  rw[e2m a (by omega),Zab _ _ (by omega)]
 obtain⟨env,henv⟩:∃env:List Int,env=(Yca r.locals.toNat).map λ k:Nat=>(V2.set 28 (top+r.locals+15)).mem (top+1+(k:Int)):=⟨_,rfl⟩
 have hel:env.length=r.locals.toNat:=by rw[henv];simp
 have hge:∀k:Nat,k<env.length->env.getD k 0=(V2.set 28 (top+r.locals+15)).mem (top+1+(k:Int)):=λ k hk=>by
  rw[henv,Zcx _ _ _ (by rw[<- hel];exact hk)]
 have hF:S.Fm I (V2.set 28 (top+r.locals+15)) st top ret env []:=by
  refine⟨⟨λ j hj=>?_,λ a a0 a1 ha=>?_,?_,?_⟩,?_,?_,λ k hk=>(hge k hk).symm,λ k hk=>by simp at hk⟩
  .have:=Zke hj
   rw[Zg _ _ (by omega),e2r];exact hmt.vis j hj
  .by_cases hin:top<=a/\a<top+1+np
   .exact absurd ⟨by omega,by omega⟩ ha
   .rw[hmem a (by omega)];exact hmt.mem a a0 a1 ha
  .show V2.inp=_;rw[e2i];exact hmt.inp
  .show V2.out=_;rw[e2o];exact hmt.out
  .rw[Zj];omega
  .show V2.mem top=ret
   rw[e2m top (by omega),Zd9]
 have hargs:∀k:Nat,(k:Int)<r.params->env.getD k 0=st.reg (4+k):=λ k hk=>by
  rw[hge k (by omega)]
  show V2.mem (top+1+(k:Int))=_
  rw[e2a k (by omega)];exact hmt.vis _ (by unfold S.visB;rw[decide_eq_true_eq];omega)
 have hL:(env.length:Int)=r.locals:=by omega
 have hkp:S.Kp I top V (V2.set 28 (top+r.locals+15)):=λ a a0 a1=>hmem a (by omega)
 have hb:=hw ret env r0 r1 hL hargs;rw[<- hnp] at hb;have h:=Zen cx (obj:=r.name) (behind:=r.behind) r.body 0 0 env _ st _ (np+2) _ _ hL hbody hb hsB hF;rcases h with⟨env',st',c',V',h1,h2,h3,h4,h5,h6⟩|⟨o,c',h1,h2,h3⟩
 .have hbk:=Zpa cx (obj:=r.name) (behind:=r.behind) (r:=[]) h3 (by rw[List.append_nil];exact hsR) h5
  have hd:=Zbl h4 h6 hbk (Yb _);refine⟨.ret st',c'+(if r.behind=true then 5 else 3),h2,Zbl gg hkp hd ?_⟩;omega
 .exact⟨o,c',h2,Zbl gg hkp h3 (by omega)⟩
end
namespace S
def tells:List Item->List ByteArray
 | []=>[]
 | x::r=>if x.kind=2 then x.label::tells r else tells r
def names:List Item->List ByteArray
 | []=>[]
 | x::r=>if named x=true then x.label::names r else names r
def allChk (xs:List Item):Prop:=∀x∈xs,chkItem x=0
def bulk:List Item->Int
 | []=>0
 | x::r=>(if x.kind=8 then x.word else 4)+bulk r
end S
theorem Zhd (a b:List S.Item):S.tells (a++b)=S.tells a++S.tells b:=by
 induction a with
 | nil=>rfl
 | cons x r ih =>
  rw[Yaa,S.tells,S.tells,ih]
  split <;> rfl
theorem Zhe (a b:List S.Item):S.names (a++b)=S.names a++S.names b:=by
 induction a with
 | nil=>rfl
 | cons x r ih =>
  rw[Yaa,S.names,S.names,ih]
  split <;> rfl
theorem Zfg (a b:List S.Item):S.bulk (a++b)=S.bulk a+S.bulk b:=by
 induction a with
 | nil=>simp[S.bulk]
 | cons x r ih=>rw[Yaa,S.bulk,S.bulk,ih];omega
theorem Zu1 {xs:List S.Item}{s:ByteArray}(h:s∈S.tells xs):∃x∈xs,x.kind=2/\x.label=s:=by
 induction xs with
 | nil=>cases h
 | cons y r ih =>
  rw[S.tells] at h
  split at h
  .rename_i c
   rcases Yz.1 h with rfl|h
   .exact⟨y,Yu,c,rfl⟩
   .obtain⟨x,hx,h⟩:=ih h
    exact⟨x,Yw _ hx,h⟩
  .obtain⟨x,hx,h⟩:=ih h
   exact⟨x,Yw _ hx,h⟩
theorem Znf {xs:List S.Item}{x:S.Item}(h:x∈xs)(hk:x.kind=2):x.label∈S.tells xs:=by
 induction xs with
 | nil=>cases h
 | cons y r ih =>
  rw[S.tells];rcases Yz.1 h with rfl|h
  .rw[if_pos hk];exact Yu
  .split
   .exact Yw _ (ih h)
   .exact ih h
theorem Zu2 {xs:List S.Item}{x:S.Item}(h:x∈xs)(hk:S.named x=true):x.label∈S.names xs:=by
 induction xs with
 | nil=>cases h
 | cons y r ih =>
  rw[S.names];rcases Yz.1 h with rfl|h
  .rw[if_pos hk];exact Yu
  .split
   .exact Yw _ (ih h)
   .exact ih h
theorem Zu3 {xs:List S.Item}(hd:(S.tells xs).Nodup){i j:Nat}{x y:S.Item}(hx:xs[i]?=some x)(hy:xs[j]?=some y)(kx:x.kind=2)(ky:y.kind=2)(h:x.label=y.label):i=j:=by
 induction xs generalizing i j with
 | nil=>simp at hx
 | cons z r ih =>
  rw[S.tells] at hd;have hr:(S.tells r).Nodup:=by
   split at hd
   .exact(Yb7.1 hd).2
   .exact hd
  cases i with
  | zero =>
   cases j with
   | zero=>rfl
   | succ j =>
    exfalso
    simp at hx hy;subst hx;rw[if_pos kx] at hd;exact(Yb7.1 hd).1 (h ▸ Znf (Y1 hy) ky)
  | succ i =>
   cases j with
   | zero =>
    exfalso
    simp at hx hy;subst hy;rw[if_pos ky] at hd;exact(Yb7.1 hd).1 (h ▸ Znf (Y1 hx) kx)
   | succ j =>
    simp at hx hy;rw[ih hr hx hy]
theorem Z4b {xs:List S.Item}(hd:(S.tells xs).Nodup):¬S.Dup xs:=by
 rintro⟨i,x,hx,hk,hs⟩;rcases Zax xs x.label with⟨h1,h2⟩|⟨j,y,h1,h2,h3,h4,_⟩
 .exact h2 i x hx ⟨hk,rfl⟩
 .exact hs (by rw[h1,Zu3 hd h2 hx h3 hk h4])
theorem Z1v {xs:List S.Item}(hn:∀s∈S.names xs,s∈S.tells xs):¬S.Miss xs:=by
 rintro⟨i,x,hx,hk,hs⟩;obtain⟨y,hy,ky,ly⟩:=Zu1 (hn _ (Zu2 (Y1 hx) hk));obtain⟨j,hj,rfl⟩:=List.getElem_of_mem hy;rcases Zax xs x.label with⟨h1,h2⟩|⟨j,y,h1,h2,h3,h4,_⟩
 .exact h2 j _ (Yf hj) ⟨ky,ly⟩
 .omega
theorem Zsa {xs:List S.Item}(h:S.allChk xs):S.firstErr xs=0:=by
 induction xs with
 | nil=>rfl
 | cons x r ih =>
  rw[S.firstErr,if_neg (by rw[h x Yu];simp)];exact ih λ y hy=>h y (Yw _ hy)
theorem Zng {xs:List S.Item}{F:List Int}(hF:S.FormOk xs F)(hc:S.allChk xs):∀n:Nat,n<=xs.length->S.addr xs F 0 n<=S.bulk (xs.take n)
 | 0,_=>by simp[S.addr,S.bulk]
 | n+1,h=>by
  have h1:=Zng hF hc n (by omega);have hx:xs[n]?=some xs[n]:=Yf h;have h2:=hF.2 n _ hx;have h3:=hc xs[n] (List.getElem_mem h);have e:xs.take (n+1)=xs.take n++[xs[n]]:=by rw[List.take_add_one,hx];rfl
  rw[e,Zfg]
  show S.addr xs F 0 n+S.sizeAt xs F n<=_
  unfold S.sizeAt;rw[hx];have h4:S.size xs[n] (F.getD n 0)<=(if xs[n].kind=8 then xs[n].word else 4):=by
   unfold S.size;generalize xs[n]=x at *
   grind
  simp only[S.bulk];omega
theorem Z4c {xs:List S.Item}{e:Int}{F:List Int}(h:S.FormsRes xs 0 e F)(hc:S.allChk xs)(hd:(S.tells xs).Nodup)(hn:∀s∈S.names xs,s∈S.tells xs)(hb:S.bulk xs<=67108864) :
 e=0/\S.FormOk xs F/\S.addr xs F 0 xs.length<=S.bulk xs:=by
 have h0:S.CheckRes xs 0 0:=.inr (.inr (.inr (.inr ⟨Int.le_refl _,by decide,Zsa hc,Z4b hd,Z1v hn,rfl⟩)));have hl:∀G,S.FormOk xs G->S.addr xs G 0 xs.length<=S.bulk xs:=λ G hG=>by
  have:=Zng hG hc xs.length (Yb _)
  rwa[List.take_length] at this
 rcases h with⟨h1,h2,_⟩|⟨_,_,_,G,h3,h4⟩|⟨_,h2,h3,_,_⟩
 .exact absurd (Zmk h2 h0) h1
 .have:=hl G h3.1
  have:(67108864:Int)<S.addr xs G 0 xs.length:=h4;omega
 .exact⟨h2,h3.1,hl F h3.1⟩
theorem Zu4 {xs:List S.Item}{F:List Int}(hF:S.FormOk xs F)(hk:∀x∈xs,1<=x.kind/\x.kind<=8)(hw:∀x∈xs,0<=x.word/\x.word<=4294967295){i j:Nat}{w:Int}(hj:(S.wordsAt xs F 0 i)[j]?=some w) :
 ∀n:Nat,i<n->(S.outTo xs F 0 n)[(S.addr xs F 0 i).toNat+j]?=some w
 | 0,h=>by omega
 | n+1,h=>by
  rw[S.outTo];have hl:=Zbk (base:=0) hF hk hw n;have hli:=Zbk (base:=0) hF hk hw i;have hj2:=(Yg.1 hj).1;have hwi:=Za5 (base:=0) hF hk hw i;by_cases c:i=n
  .subst c
   rw[List.getElem?_append_right (by omega)];have e:(S.addr xs F 0 i).toNat+j-(S.outTo xs F 0 i).length=j:=by omega
   rw[e];exact hj
  .have h1:=Zu4 hF hk hw hj n (by omega)
   rw[List.getElem?_append_left (Yg.1 h1).1];exact h1
theorem Zym {y:S.Inst}{s:ByteArray}{w:Int}(h:S.good y=true):S.chkItem ⟨1,y,s,w⟩=0:=by
 simp[S.chkItem,S.chk,h]
section
theorem Z5c {d:Int}(hd:0<=d/\d<=31):S.good ⟨34,d,0,0,0⟩=true:=by
 have hf:S.form 34=6:=by decide
 have hl:S.least 34=0/\S.most 34=0:=by decide
 simp[S.good,hf,hl.1,hl.2,S.reg,S.hasD,S.hasA,S.hasB];omega
theorem Zu5 {op a:Int}(ho:op=35\/op=36)(ha:0<=a/\a<=31):S.good ⟨op,0,a,0,0⟩=true:=by
 rcases ho with rfl|rfl
 .have hf:S.form 35=7:=by decide
  have hl:S.least 35=0/\S.most 35=0:=by decide
  simp[S.good,hf,hl.1,hl.2,S.reg,S.hasD,S.hasA,S.hasB];omega
 .have hf:S.form 36=7:=by decide
  have hl:S.least 36=0/\S.most 36=0:=by decide
  simp[S.good,hf,hl.1,hl.2,S.reg,S.hasD,S.hasA,S.hasB];omega
theorem Zsb:S.allChk []:=λ _ h=>by cases h
theorem Zf2 {a b:List S.Item}(h:S.allChk a)(k:S.allChk b):S.allChk (a++b):=λ x hx=>(List.mem_append.1 hx).elim (h x) (k x)
theorem Z7 {x:S.Item}{b:List S.Item}(h:S.chkItem x=0)(k:S.allChk b):S.allChk (x::b):=λ y hy=>(Yz.1 hy).elim (λ e=>e ▸ h) (k y)
theorem Zkn {x:S.Item}(h:S.chkItem x=0):S.allChk [x]:=Z7 h Zsb
theorem Z4d {op d a b n:Int}(h:S.good ⟨op,d,a,b,n⟩=true):S.chkItem (S.bI op d a b n)=0:=Zym h
theorem Zip (s:ByteArray):S.chkItem (S.bL s)=0:=by simp[S.chkItem,S.bL]
theorem Zz2 {d:Int}(s:ByteArray)(hd:0<=d/\d<=31):S.chkItem (S.bJ d s)=0:=by
 have h:S.regOk d=true:=by unfold S.regOk;exact decide_eq_true hd
 simp[S.chkItem,S.bJ,h]
section
variable {L:Int}(hL:0<=L/\L<=200)
include hL
end
end
theorem Zyn (s:ByteArray)(h:0<s.size):S.ownB s=(s[0]==46):=by
 unfold S.ownB;have e:s.data.toList.head?=some s[0]:=by
  rw[List.head?_eq_getElem?,Yf (by simpa using h)];rfl
 rw[e];rfl
theorem Zu6 (s:ByteArray)(h:s.size=0):S.ownB s=false:=by
 unfold S.ownB;have e:s.data.toList=[]:=List.eq_nil_of_length_eq_zero (by simpa using h);rw[e];rfl
theorem Z1w (s:ByteArray)(h:0<s.size):((s.extract 0 1).toList==[46])=S.ownB s:=by
 rw[Zyn s h];have e:(s.extract 0 1).toList=[s[0]]:=by
  rw[ByteArray.toList_eq,ByteArray.data_extract]
  apply List.ext_getElem
  .simp;omega
  .intro i h1 h2
   simp at h2;subst h2;simp;rfl
 rw[e];simp
theorem Zjy (s:ByteArray)(w:World)(hs:s.size<=maxLen) :
 Calls Tryz.prog 181 #[.string s,.string ⟨#[46]⟩] w λ e w'=>e=.returned (.bool (S.ownB s))/\w=w':=by
 unfold maxLen at hs;by_cases h:0<s.size
 .go_enter Tryz.func181,Tryz.ntmps181
  go_wp2_with fail
  go_ret
  exact⟨Zi (Z1w s h),rfl⟩
 .go_enter Tryz.func181,Tryz.ntmps181
  go_wp2_with fail
  go_ret
  exact⟨Zi (Zu6 s (by omega)).symm,rfl⟩
theorem Zan (s:ByteArray)(w:World)(hs:s.size<=maxLen) :
 Calls Tryz.prog 143 #[.string s,.string ⟨#[46]⟩] w λ e w'=>e=.returned (.bool (S.ownB s))/\w=w':=by
 go_enter Tryz.func143,Tryz.ntmps143
 go_wp2_with fail
 refine(Zjy _ _ hs).mono ?_;rintro e w' ⟨rfl,rfl⟩;go_wp2_with fail
 go_ret
 exact⟨rfl,rfl⟩
theorem Zsc (n s:ByteArray)(w:World)(hs:s.size<=maxLen)(hns:n.size+s.size<=9223372036854775807) :
 Calls Tryz.prog 163 #[.string n,.string s] w λ e w'=>e=.returned (.string (S.owned n s))/\w=w':=by
 cases ho:S.ownB s
 .have H:=Lib.hid ho
  clear ho;go_enter Tryz.func163,Tryz.ntmps163
  go_wp2_with fail
  refine(Zan _ _ hs).mono ?_;rintro e w' ⟨rfl,rfl⟩;rw[H.out];go_wp2_with fail
  go_ret
  exact⟨by simp[S.owned,H.out],rfl⟩
 .have H:=Lib.hid ho
  clear ho;go_enter Tryz.func163,Tryz.ntmps163
  go_wp2_with fail
  refine(Zan _ _ hs).mono ?_;rintro e w' ⟨rfl,rfl⟩;rw[H.out];go_wp2_with fail
  go_ret
  exact⟨by simp[S.owned,H.out],rfl⟩
theorem Znh {P:Program}{ops:Array Oper}{rest:List Oper}{o:Oper}{a:Act}{Q:Exit->Act->World->Prop}{w:World}
 (hg:o.guard=none) (l c:Operand) (t:TypeId) (hop:o.op=Op.makeSlice t l c)
 (base:Nat) (e:TypeId) {z:Value} {bytes:Nat} (hinfo:(P.info? e).map (λ i=>(i.zero,i.size,i.bytes))=some (some z,1,bytes)) (h1:P.underlying t=some (.slice e)) (hz:z.cells=#[z])
 (kl kc:IntKind) (L C:Int) (n:Nat) (hl:a.eval l=.int kl L) (hc:a.eval c=.int kc C) (hL:L=(n:Int)) (hC:C=(n:Int)) (b2:bytes*n<=281474976710656) (b3:n<=maxLen) (b4:base<=w.heap.size)
 (hK:∀w',w'.ownsRow base e 1 (.slice (some ⟨w.heap.size,0,none⟩) n n) n (List.replicate n z)->Below w.heap.size w w'->wpList P ops Q rest (a.put o.dst (.slice (some ⟨w.heap.size,0,none⟩) n n)) w') :
 wpList P ops Q (o::rest) a w:=by
 obtain⟨i,hi,hzz,hsize,hby⟩:=info_parts hinfo;refine wpList_make_full w hg l c t hop base e i z 1 h1 hi hzz hsize kl kc L C n hl hc hL hC (by rw[hby];exact b2) b3 b4 λ w' ho hgr=>hK w' ?_ ((Yh _ _).grown hgr (Yb _) (by simp))
 rw[hz,Nat.mul_one,toList_madeCells_one] at ho;exact ho
theorem Zps {w:World}{base base':Nat}{e e':TypeId}{size size' n n':Nat}{v v':Value}{xs xs':List Value}(h:w.ownsRow base e size v n xs)(h':w.ownsRow base' e' size' v' n' xs')(hne:e≠e') :
 v.ownBlock=none\/v.ownBlock≠v'.ownBlock:=by
 rcases h.2 with⟨rfl,_⟩|⟨g,cap,cur,rfl,_,hg,_⟩
 .exact .inl rfl
 .right
  rcases h'.2 with⟨rfl,_⟩|⟨g',cap',cur',rfl,_,hg',_⟩
  .simp[Value.ownBlock]
  .intro he
   have:g=g':=by simpa[Value.ownBlock] using he
   subst this;rw[hg] at hg'
   injection hg' with hg'
   injection hg' with _ ht
   exact hne ht
theorem Zbu {w w':World}{base base':Nat}{e e':TypeId}{size size' n n':Nat}{v v':Value}{xs xs':List Value}(h:w.ownsRow base e size v n xs)(h':w.ownsRow base' e' size' v' n' xs')(hne:e≠e')
 (hg:w.grownBy w' v'.ownBlock):w'.ownsRow base e size v n xs:=h.kept hg (Zps h h' hne)
theorem Zct {w:World}{base:Nat}{e:TypeId}{size:Nat}{A:Option Addr}{m c n:Nat}{xs:List Value}(h:w.ownsRow base e size (.slice A m c) n xs)(hA:A=none):m=0:=by
 subst hA;rcases h.2 with⟨h1,_⟩|⟨g,cap,cur,h1,_⟩
 .simp only[Value.slice.injEq] at h1;exact h1.2.1
 .simp at h1
section
def Ext (w:World):={w':World // Below w.heap.size w w'}
instance extNonempty (w:World):Nonempty (Ext w):=⟨⟨w,Yh _ _⟩⟩
theorem Zu (w:World):(∀(x:Ext w)(b o:Nat),b<w.heap.size->x.val.cell? ⟨b,o,none⟩=w.cell? ⟨b,o,none⟩):=λ x b o h=>x.property.cell (p:=⟨b,o,none⟩) h
theorem Ze8 {P:Program}{f:FuncId}{args:Array Value}{w:World}{x:Ext w}{v:Value}(h:Calls P f args x.val λ e w'=>e=.returned v/\Below x.val.heap.size x.val w') :
 Calls P f args x.val λ e w''=>e=.returned v/\∃y:Ext w,w''=y.val :=
 h.mono λ _ w'' ⟨he,hm⟩=>⟨he,⟨w'',x.property.trans (hm.mono x.property.size)⟩,rfl⟩
theorem Zdp {P:Program}{f:FuncId}{args:Array Value}{w:World}{x:Ext w}{v:Value}(h:Calls P f args x.val λ e w'=>e=.returned v/\x.val=w') :
 Calls P f args x.val λ e w''=>e=.returned v/\∃y:Ext w,w''=y.val :=
 h.mono λ _ w'' ⟨he,hm⟩=>⟨he,x,hm.symm⟩
theorem Zhu (w:World):Below w.heap.size w { w with drawn:=w.drawn+1 }:=⟨rfl,rfl,rfl,Yb _,λ _ _=>rfl⟩
theorem Z9 {P:Program}{id:Nat}{Q:Exit->Act->World->Prop}{a:Act}{w:World}{l:List Oper}(hm:P.follows .mixedOrders=true)(hB:Region.lexB .any l.toArray=true)
 (h:wpQuiet P l.toArray (λ w'=>∃x:Ext w,w'=x.val) (λ a'=>∀w',(∃x:Ext w,w'=x.val)->Q .normal a' w') l a):(Code.region id l.toArray true).wp P Q a w :=
 wp_region_quiet (C:=λ w'=>∃x:Ext w,w'=x.val) hm hB ⟨⟨_,Zhu w⟩,rfl⟩ (by simpa using h)
section
variable {P:Program}{ops:Array Oper}{md:Yc4}{C:World->Prop}
def Zee (P:Program)(md:Yc4)(ops:Array Oper)(C:World->Prop)(n:Nat)(L:Array Bool->Act->Prop):Nat->Array Bool->Act->Prop
 | 0,listed,a=>L listed a
 | f+1,listed,a=>Ybg md ops listed≠[]/\∀i∈Ybg md ops listed,i<n/\qOp P ops C i (Zee P md ops C n L f (listed.setIfInBounds i true)) a
theorem Zdq {n g:Nat}{L:Array Bool->Act->Prop}{Q':Exit->Act->World->Prop}(hL:∀listed a w,C w->L listed a->wpAny P md ops Q' g listed a w) :
 ∀(f:Nat)(listed:Array Bool)(a:Act)(w:World),C w->Zee P md ops C n L f listed a->wpAny P md ops Q' (f+g) listed a w
 | 0,_,_,_,hw,h=>by rw[Nat.zero_add];exact hL _ _ _ hw h
 | f+1,listed,a,w,hw,h=>by
  have e:f+1+g=(f+g)+1:=by omega
  rw[e];exact⟨λ h0=>absurd h0 h.1,λ i hi=>wpOp_of_qOp hw (λ a' w' hw' h'=>Zdq hL f _ a' w' hw' h') (h.2 i hi).2⟩
theorem Zlo {n i:Nat}{oi:Oper}{v:Value}{L:Array Bool->Act->Prop}(hi:ops[i]?=some oi)(hsel:∀(j:Nat)(o:Oper) cs b,ops[j]?=some o->o.op≠.select cs b)
 (hs:Region.sinkB md ops n=true) (hc:Ycr md ops n=true) (hn:n<ops.size) (hin:i<n) (hdone:∀listed a,L listed a->∀j∈Ybg md ops listed,n<=j) :
 ∀(f:Nat)(listed:Array Bool)(a:Act),HeadInv md ops n listed ->
  (∀j oj,ops[j]?=some oj->j≠i->listed.getD j true=false->(∀e∈oj.after,Yb1 md e=true->e.on≠i)->oi.apart ops oj=true) ->
  i∈Ybg md ops listed->YieldsIn P ops C oi v a ->
  Zee P md ops C n L f (listed.setIfInBounds i true) (a.put oi.dst v)->Zee P md ops C n L (f+1) listed a:=by
 intro f
 induction f with
 | zero =>
  intro listed a inv _ hr hy H;have hun:=(mem_ready.1 hr).1;refine⟨λ h=>(by rw[h] at hr;cases hr),λ j hj=>?_⟩;have hjn:j<n:=Ycl λ h=>absurd hj (tail_waits hs hc hn inv _ i rfl hin hun j h)
  refine⟨hjn,?_⟩;by_cases hji:j=i
  .subst hji;exact hy.qOp hi H
  .exact absurd (hdone _ _ H j (ready_mono hj hji)) (by omega)
 | succ f ih =>
  intro listed a inv hfree hr hy H;have hun:=(mem_ready.1 hr).1;refine⟨λ h=>(by rw[h] at hr;cases hr),λ j hj=>?_⟩;have hjn:j<n:=Ycl λ h=>absurd hj (tail_waits hs hc hn inv _ i rfl hin hun j h)
  refine⟨hjn,?_⟩;by_cases hji:j=i
  .subst hji;exact hy.qOp hi H
  .have h1:=(H.2 j (ready_mono hj hji)).2
   obtain⟨hjun,oj,hoj,hall⟩:=mem_ready.1 hj;have hnot:∀e∈oj.after,Yb1 md e=true->e.on≠i:=λ e he hb heq=>by
    have h1:=hall e he hb;rw[heq,getD_both hun] at h1
    cases h1
   have h2:=qOp_put hoj (hfree j oj hoj hji hjun hnot) (λ cs b=>hsel i oi cs b hi) (λ cs b=>hsel j oj cs b hoj) hy h1;have hfree':∀k ok,ops[k]?=some ok->k≠i->(listed.setIfInBounds j true).getD k true=false ->
    (∀e∈ok.after,Yb1 md e=true->e.on≠i)->oi.apart ops ok=true:=λ k ok hk hki hku hno=>by
    refine hfree k ok hk hki ?_ hno;by_cases hjk:j=k
    .subst hjk;exact hjun
    .rw[getD_set_ne true hjk] at hku;exact hku
   refine qOp_mono (λ a' h3=>ih (listed.setIfInBounds j true) a' (inv.set hj hjn) hfree' (ready_mono hr (Ne.symm hji)) h3.1 ?_) h2;rw[Ydo _ _ hji];exact h3.2
theorem Ziq {n g:Nat}{Lq:Act->Prop}(hsel:Ydf ops=true)(hs:Region.sinkB md ops n=true)(hc:Ycr md ops n=true)(hn:n<ops.size) :
 ∀(l:List Oper)(k:Nat)(listed:Array Bool)(a:Act),(∀j,j<l.length->l[j]?=ops[k+j]?)->k+l.length=n->HeadInv md ops n listed ->
 Region.lexHead md ops g l.length k listed=true->wpQuiet P ops C Lq l a ->
 Zee P md ops C n (λ listed' a'=>Region.seqB md ops g n listed'=true/\Lq a') l.length listed a
 | [],k,listed,a,_,hk,_,hB,h=>by
  have:k=n:=by simpa using hk
  subst this;exact⟨by simpa[Region.lexHead] using hB,h⟩
 | o::l,k,listed,a,hl,hk,inv,hB,h=>by
  have h0:ops[k]?=some o:=by simpa using (hl 0 (by simp)).symm
  simp only[Yi,Region.lexHead,Yt] at hB;obtain⟨⟨hr,hf⟩,hB'⟩:=hB;have hkn:k<n:=by simp only[Yi] at hk;omega
  have hr':k∈Ybg md ops listed:=by simpa using hr
  have hst:qOp P ops C k (wpQuiet P ops C Lq l) a:=by unfold qOp;simp only[h0];exact h
  obtain⟨v,hy,hK⟩:=yieldsIn_of_qOp h0 hst;exact Zlo h0 (Ydq hsel) hs hc hn hkn (λ listed' a' hL=>seqB_ready hL.1) l.length listed a inv (Region.free_spec h0 hf) hr' hy
   (Ziq hsel hs hc hn l (k+1) _ _ (λ j hj=>by have:=hl (j+1) (by simp;omega);simpa[Nat.add_assoc,Nat.add_comm 1 j] using this) (by simp only[Yi] at hk;omega) (inv.set hr' hkn) hB' hK)
end
theorem Zm {P:Program}{id:Nat}{Q:Exit->Act->World->Prop}{a:Act}{w:World}{l:List Oper}(n:Nat)(hm:P.follows .mixedOrders=true)(hB:Region.lexTailB .any l.toArray n=true)
 (h:wpQuiet P l.toArray (λ w'=>∃x:Ext w,w'=x.val) (λ a'=>∀w',(∃x:Ext w,w'=x.val)->wpList P l.toArray Q (l.drop n) a' w') (l.take n) a):(Code.region id l.toArray true).wp P Q a w:=by
 simp only[Region.lexTailB,Yt,decide_eq_true_eq] at hB;obtain⟨⟨⟨⟨hsel,hn⟩,hs⟩,hc⟩,hlex⟩:=hB;have hn':n<l.length:=by simpa using hn
 have htl:(l.take n).length=n:=by simp;omega
 have hdl:(l.drop n).length=l.toArray.size-n:=by simp
 have inv0:HeadInv .any l.toArray n (Yb3 l.toArray.size false) :=
  ⟨by simp,λ j oj _ hl=>(by rw[getD_replicate_false] at hl;cases hl),λ t _ ht=>getD_in (by simpa using ht) (getD_replicate_false _ _)⟩
 have H:=Ziq (md:=.any) (g:=l.toArray.size-n) hsel hs hc hn (l.take n) 0 _ a (λ j hj=>by
  have hj':j<n:=by rw[htl] at hj;exact hj
  simp[hj']) (by simpa using htl) inv0 (by rw[htl];exact hlex) h
 refine wp_region_any hm ?_;have h2:=Zdq (Q':=Q) (g:=l.toArray.size-n) (λ listed a' w' hw' hL=>by
  have h3:=wpAny_of_seq (md:=.any) (Q':=Q) (l.drop n) n listed a' w' (λ j=>by simp[Ybu]) (by rw[hdl];exact hL.1) (hL.2 w' hw')
  rwa[hdl] at h3) _ _ _ _ (⟨⟨_,Zhu w⟩,rfl⟩:∃x:Ext w,{ w with drawn:=w.drawn+1 }=x.val) H
 have e:n+(l.toArray.size-n)=l.toArray.size:=by omega
 rw[htl,e] at h2;exact h2
section
variable {P:Program}{ops:Array Oper}{md:Yc4}{C:World->Prop}
def Zz3 (o:Oper):Bool:=o.guard.isNone && match o.op with | .move _=>true|_=>false
def Zyo (md:Yc4)(ops:Array Oper)(n:Nat)(l0:Array Bool):Bool :=
 (Yca n).all λ i=>l0.getD i false || (Yca (n+1)).any λ j=>decide (i<j) && Region.waitsFor md ops j i
theorem Zir {n:Nat}{l0 listed:Array Bool}(hs:Zyo md ops n l0=true)(hc:Ycr md ops n=true)(hn:n<ops.size)(inv:HeadInv md ops n listed)
 (hsub:∀i,l0.getD i false=true->listed.getD i false=true) :
 ∀(d i:Nat),n-i=d->i<n->listed.getD i true=false->∀t,n<=t->t ∉ Ybg md ops listed:=by
 intro d
 induction d using Nat.strongRecOn with
 | _ d ih =>
  intro i hd hi hun t ht hr;obtain⟨_,ot,hot,hall⟩:=mem_ready.1 hr;have htlt:t<ops.size:=(Array.getElem?_eq_some_iff.1 hot).1;by_cases htn:t=n
  .subst htn
   have h1:=Ya9.1 hs i (Ydm.2 hi);rw[Ycc] at h1;rcases h1 with h1|h1
   .have:=hsub i h1
    rw[getD_both hun] at this
    cases this
   obtain⟨j,hj,hj2⟩:=List.any_eq_true.1 h1;simp only[Yt,decide_eq_true_eq] at hj2;obtain⟨oj,hoj,e,he,hb,hon⟩:=Ydc hj2.2;have hjle:j<=t:=by have:=Ydm.1 hj;omega
   by_cases hjt:j=t
   .subst hjt
    have:oj=ot:=Option.some.inj (hoj.symm.trans hot);subst this;have h2:=hall e he hb;rw[hon,getD_both hun] at h2
    cases h2
   .cases hl:listed.getD j false with
    | true =>
     have h2:=inv.closed j oj hoj hl e he hb;rw[hon,getD_both hun] at h2
     cases h2
    | false =>
     have hjs:j<listed.size:=by rw[inv.size];omega
     exact ih (t-j) (by omega) j rfl (by omega) (getD_in hjs hl) t (Yb _) hr
  .have h1:=Ya9.1 hc t (Ydm.2 htlt)
   simp only[Ycc,decide_eq_true_eq] at h1;rcases h1 with h1|h1
   .omega
   .obtain⟨o',ho',e,he,hb,hon⟩:=Ydc h1
    have:o'=ot:=Option.some.inj (ho'.symm.trans hot);subst this;have h2:=hall e he hb;rw[hon,getD_both (inv.tail (t-1) (by omega) (by omega))] at h2
    cases h2
theorem Zjz {n i:Nat}{oi:Oper}{v:Value}{L:Array Bool->Act->Prop}{l0:Array Bool}(hi:ops[i]?=some oi)(hsel:∀(j:Nat)(o:Oper) cs b,ops[j]?=some o->o.op≠.select cs b)
 (hs:Zyo md ops n l0=true) (hc:Ycr md ops n=true) (hn:n<ops.size) (hin:i<n) (hdone:∀listed a,L listed a->∀j∈Ybg md ops listed,n<=j) :
 ∀(f:Nat)(listed:Array Bool)(a:Act),HeadInv md ops n listed->(∀i,l0.getD i false=true->listed.getD i false=true) ->
  (∀j oj,ops[j]?=some oj->j≠i->listed.getD j true=false->(∀e∈oj.after,Yb1 md e=true->e.on≠i)->oi.apart ops oj=true) ->
  i∈Ybg md ops listed->YieldsIn P ops C oi v a ->
  Zee P md ops C n L f (listed.setIfInBounds i true) (a.put oi.dst v)->Zee P md ops C n L (f+1) listed a:=by
 intro f
 induction f with
 | zero =>
  intro listed a inv hsub _ hr hy H;have hun:=(mem_ready.1 hr).1;refine⟨λ h=>(by rw[h] at hr;cases hr),λ j hj=>?_⟩;have hjn:j<n:=Ycl λ h=>absurd hj (Zir hs hc hn inv hsub _ i rfl hin hun j h)
  refine⟨hjn,?_⟩;by_cases hji:j=i
  .subst hji;exact hy.qOp hi H
  .exact absurd (hdone _ _ H j (ready_mono hj hji)) (by omega)
 | succ f ih =>
  intro listed a inv hsub hfree hr hy H;have hun:=(mem_ready.1 hr).1;refine⟨λ h=>(by rw[h] at hr;cases hr),λ j hj=>?_⟩;have hjn:j<n:=Ycl λ h=>absurd hj (Zir hs hc hn inv hsub _ i rfl hin hun j h)
  refine⟨hjn,?_⟩;by_cases hji:j=i
  .subst hji;exact hy.qOp hi H
  .have h1:=(H.2 j (ready_mono hj hji)).2
   obtain⟨hjun,oj,hoj,hall⟩:=mem_ready.1 hj;have hnot:∀e∈oj.after,Yb1 md e=true->e.on≠i:=λ e he hb heq=>by
    have h1:=hall e he hb;rw[heq,getD_both hun] at h1
    cases h1
   have h2:=qOp_put hoj (hfree j oj hoj hji hjun hnot) (λ cs b=>hsel i oi cs b hi) (λ cs b=>hsel j oj cs b hoj) hy h1;have hfree':∀k ok,ops[k]?=some ok->k≠i->(listed.setIfInBounds j true).getD k true=false ->
    (∀e∈ok.after,Yb1 md e=true->e.on≠i)->oi.apart ops ok=true:=λ k ok hk hki hku hno=>by
    refine hfree k ok hk hki ?_ hno;by_cases hjk:j=k
    .subst hjk;exact hjun
    .rw[getD_set_ne true hjk] at hku;exact hku
   refine qOp_mono (λ a' h3=>ih (listed.setIfInBounds j true) a' (inv.set hj hjn) (λ k hk=>getD_set_true (hsub k hk)) hfree' (ready_mono hr (Ne.symm hji)) h3.1 ?_) h2;rw[Ydo _ _ hji];exact h3.2
def Zu7 (md:Yc4)(ops:Array Oper)(n g:Nat):List Nat->Array Bool->Bool
 | [],listed=>Region.seqB md ops g n listed
 | k::js,listed=>decide (k<n) && (Ybg md ops listed).contains k && Region.free md ops listed k && Zu7 md ops n g js (listed.setIfInBounds k true)
theorem Zhf {n g:Nat}{Lq:Act->Prop}{l0:Array Bool}(hsel:Ydf ops=true)(hs:Zyo md ops n l0=true)(hc:Ycr md ops n=true)(hn:n<ops.size) :
 ∀(js:List Nat)(listed:Array Bool)(a:Act),HeadInv md ops n listed->(∀i,l0.getD i false=true->listed.getD i false=true) ->
 Zu7 md ops n g js listed=true->wpQuiet P ops C Lq (js.filterMap λ j=>ops[j]?) a ->
 Zee P md ops C n (λ listed' a'=>Region.seqB md ops g n listed'=true/\Lq a') js.length listed a
 | [],listed,a,_,_,hB,h=>⟨by simpa[Zu7] using hB,by simpa[wpQuiet] using h⟩
 | k::js,listed,a,inv,hsub,hB,h=>by
  simp only[Zu7,Yt,decide_eq_true_eq] at hB;obtain⟨⟨⟨hkn,hr⟩,hf⟩,hB'⟩:=hB;have hr':k∈Ybg md ops listed:=by simpa using hr
  obtain⟨_,o,h0,_⟩:=mem_ready.1 hr';rw[Ydg,h0] at h;have hst:qOp P ops C k (wpQuiet P ops C Lq (js.filterMap λ j=>ops[j]?)) a:=by unfold qOp;simp only[h0];exact h
  obtain⟨v,hy,hK⟩:=yieldsIn_of_qOp h0 hst;exact Zjz h0 (Ydq hsel) hs hc hn hkn (λ listed' a' hL=>seqB_ready hL.1) js.length listed a inv hsub (Region.free_spec h0 hf) hr' hy
   (Zhf hsel hs hc hn js _ _ (inv.set hr' hkn) (λ i hi=>getD_set_true (hsub i hi)) hB' hK)
def Zsd (md:Yc4)(ops:Array Oper)(n g:Nat):Nat->List Nat->Array Bool->Bool
 | 0,js,listed=>Zyo md ops n listed && Zu7 md ops n g js listed
 | p+1,k::js,listed=>decide (k<n) && ((ops[k]?).map Zz3).getD false && (Ybg md ops listed).contains k && Region.free md ops listed k && Zsd md ops n g p js (listed.setIfInBounds k true)
 | _+1,[],_=>false
theorem Zse {o:Oper}{a:Act}{v:Value}{x:Operand}(w:World)(hC:C w)(ho:o.op=.move x)(h:∀w,C w->o.quietAt P a C w v):v=a.eval x:=by
 have h1:=h w hC;unfold Oper.quietAt at h1;rw[BigFrame.run_move x ho] at h1;exact h1.2.symm
theorem Zko {n g:Nat}{Q:Exit->Act->World->Prop}{l:List Oper}(hops:ops=l.toArray)(hg:g=ops.size-n)(hsel:Ydf ops=true)(hc:Ycr md ops n=true)(hn:n<ops.size)
 (hQ:∀d c a v w,Q (.panic c) (a.put (some d) v) w->Q (.panic c) a w) :
 ∀(p:Nat)(js:List Nat)(listed:Array Bool)(a:Act)(w:World),C w->HeadInv md ops n listed->Zsd md ops n g p js listed=true ->
 wpQuiet P ops C (λ a'=>∀w',C w'->wpList P ops Q (l.drop n) a' w') (js.filterMap λ j=>ops[j]?) a->wpAny P md ops Q (js.length+g) listed a w
 | 0,js,listed,a,w,hw,inv,hB,h=>by
  simp only[Zsd,Yt] at hB;have hdl:(l.drop n).length=g:=by subst hops hg;simp
  refine Zdq (g:=g) (λ listed a' w' hw' hL=>?_) _ _ _ _ hw (Zhf (g:=g) hsel hB.1 hc hn js listed a inv (λ _ h=>h) hB.2 h);have h3:=wpAny_of_seq (md:=md) (Q':=Q) (l.drop n) n listed a' w' (λ j=>by subst hops;simp[Ybu]) (by rw[hdl];exact hL.1) (hL.2 w' hw')
  rwa[hdl] at h3
 | p+1,[],_,_,_,_,_,hB,_=>by simp[Zsd] at hB
 | p+1,k::js,listed,a,w,hw,inv,hB,h=>by
  simp only[Zsd,Yt,decide_eq_true_eq] at hB;obtain⟨⟨⟨⟨hkn,hmv⟩,hr⟩,hf⟩,hB'⟩:=hB;have hr':k∈Ybg md ops listed:=by simpa using hr
  obtain⟨_,o,h0,_⟩:=mem_ready.1 hr';rw[Ydg,h0] at h;rw[h0] at hmv;simp only[Option.map_some,Option.getD_some,Zz3,Yt,Option.isNone_iff_eq_none] at hmv;obtain⟨hgd,hmv⟩:=hmv;have hwant:Yal o (yielded ops a.tmps)=true:=by simp[Yal,hgd]
  cases hx:o.op <;> rw[hx] at hmv <;> try cases hmv
  rename_i x
  simp only[wpQuiet,hwant,if_true] at h;obtain⟨v,hv,hK⟩:=h;have hve:=Zse w hw hx hv;subst hve;have hy:Yields P ops o (a.eval x) a:=.inl ⟨hwant,λ w=>BigFrame.run_move x hx w⟩;have e:(k::js).length+g=(js.length+g)+1:=by simp;omega
  rw[e];refine wpAny_take h0 hsel hf hr ?_ hy (Zko hops hg hsel hc hn hQ p js _ _ w hw (inv.set hr' hkn) hB' hK);intro c a' w' hq
  cases hd:o.dst with
  | none=>rw[hd] at hq;exact hq
  | some d=>rw[hd] at hq;exact hQ d c a' _ w' hq
end
theorem Zbv {P:Program}{id:Nat}{Q:Exit->Act->World->Prop}{a:Act}{w:World}{l:List Oper}(n p:Nat)(js:List Nat)(hm:P.follows .mixedOrders=true)
 (hB:(Ydf l.toArray && decide (n<l.toArray.size) && Ycr .any l.toArray n && decide (js.length=n) && Zsd .any l.toArray n (l.toArray.size-n) p js (Yb3 l.toArray.size false))=true)
 (hQ:∀d c a v w,Q (.panic c) (a.put (some d) v) w->Q (.panic c) a w)
 (h:wpQuiet P l.toArray (λ w'=>∃x:Ext w,w'=x.val) (λ a'=>∀w',(∃x:Ext w,w'=x.val)->wpList P l.toArray Q (l.drop n) a' w') (js.filterMap λ j=>l[j]?) a):(Code.region id l.toArray true).wp P Q a w:=by
 simp only[Yt,decide_eq_true_eq] at hB;obtain⟨⟨⟨⟨hsel,hn⟩,hc⟩,hjs⟩,hplan⟩:=hB;have inv0:HeadInv .any l.toArray n (Yb3 l.toArray.size false) :=
  ⟨by simp,λ j oj _ hl=>(by rw[getD_replicate_false] at hl;cases hl),λ t _ ht=>getD_in (by simpa using ht) (getD_replicate_false _ _)⟩
 refine wp_region_any hm ?_;have h2:=Zko (C:=λ w'=>∃x:Ext w,w'=x.val) (Q:=Q) rfl rfl hsel hc hn hQ p js _ a { w with drawn:=w.drawn+1 } ⟨⟨_,Zhu w⟩,rfl⟩ inv0 hplan (by simpa using h);have e:js.length+(l.toArray.size-n)=l.toArray.size:=by omega
 rw[e] at h2;exact h2
theorem Zis {P:Program}{ops:Array Oper}{C:World->Prop}{Q:Act->Prop}{a:Act}{l:List Oper}{j:Nat}{js:List Nat}{o:Oper}(h:l[j]?=some o)
 (hh:wpQuiet P ops C Q (o::js.filterMap λ j=>l[j]?) a):wpQuiet P ops C Q ((j::js).filterMap λ j=>l[j]?) a:=by
 rw[Ydg,h];exact hh
end
theorem Zlp:Maps.Keyed Tryz.prog 9:=Maps.string_keyed Tryz.underlying9
theorem Zni (w:World):(zeroValue 3).run Tryz.prog w=.ok (.int .i64 0) w:=by kernel_rfl
abbrev Zxk (s:ByteArray):Lit:=.string s.data.toList
theorem Zyp {a b:ByteArray}(h:Zxk a=Zxk b):a=b:=by
 simp only[Zxk,Lit.string.injEq] at h;exact WideShapes.bytes_inj h
theorem Zpt (s:ByteArray):WideAt.IsKeyLit (Zxk s):=by first|trivial|simp[WideAt.IsKeyLit,Zxk]
def MapS (w:World)(m n:Nat)(f:ByteArray->Option Int):Prop :=
 ∃D:DataW Unit,w.ownsMap Tryz.prog 9 (plainElem Tryz.prog 3) m (Maps.size D) D/\Maps.Tidy D/\Maps.size D<=n /\
  ∀s,Maps.has D (Zxk s)=(f s).isSome/\D.atKey (Zxk s) (.lit (.int .i64 0))=.lit (.int .i64 ((f s).getD 0))
theorem Zlq {w:World}{m n:Nat}{D:DataW Unit}(h:w.ownsMap Tryz.prog 9 (plainElem Tryz.prog 3) m n D):w.ownsMap Tryz.prog 9 (plainElem Tryz.prog 3) m (Maps.size D) D:=by
 obtain⟨es,clock,hb,F,hs,rfl⟩:=h;refine⟨es,clock,hb,F,?_,rfl⟩;rw[Maps.size_eq,length_sorted];simp
theorem MapS.made (w:World):MapS (w.alloc (.map #[] 0)) w.heap.size 0 (λ _=>none) :=
 ⟨.map [],World.ownsMap_made w _ _ _,Maps.tidy_empty,Yb _,λ s=>⟨rfl,rfl⟩⟩
theorem MapS.lt {w:World}{m n:Nat}{f:ByteArray->Option Int}(h:MapS w m n f):m<w.heap.size:=by
 obtain⟨D,h1,_⟩:=h;exact h1.lt
theorem MapS.kept {w w':World}{m n:Nat}{f:ByteArray->Option Int}{row:Option Nat}(h:MapS w m n f)(hg:w.grownBy w' row)(hne:some m≠row):MapS w' m n f:=by
 obtain⟨D,h1,h2⟩:=h;exact⟨D,h1.kept hg hne,h2⟩
theorem MapS.below {w w':World}{m n:Nat}{f:ByteArray->Option Int}(h:MapS w m n f)(hb:Below w.heap.size w w'):MapS w' m n f :=
 h.kept (row:=none) ⟨hb.os,hb.tape,hb.output,hb.size,λ k hk _=>hb.block k hk⟩ (by simp)
theorem MapS.mono {w:World}{m n n':Nat}{f:ByteArray->Option Int}(h:MapS w m n f)(hn:n<=n'):MapS w m n' f:=by
 obtain⟨D,h1,h2,h3,h4⟩:=h;exact⟨D,h1,h2,Nat.le_trans h3 hn,h4⟩
theorem MapS.look {w:World}{m n:Nat}{f:ByteArray->Option Int}(h:MapS w m n f){s:ByteArray}(hs:s.size<=maxLen) :
 (Instr.lookup 179 (.map (some m)) (.string s) false).run Tryz.prog w=.ok (.int .i64 ((f s).getD 0)) w:=by
 obtain⟨D,h1,_,_,h4⟩:=h;obtain⟨c,hrun,hat,_⟩:=h1.lookup_int Zlp Tryz.underlying179 Tryz.underlying3 (Zni w) (WideMaps.keyOf_string_mk Tryz.underlying9 hs);rw[(h4 s).2] at hat;simp only[DataW.lit.injEq,Lit.int.injEq,true_and] at hat;rw[hrun,hat]
theorem MapS.lookOk {w:World}{m n:Nat}{f:ByteArray->Option Int}(h:MapS w m n f){s:ByteArray}(hs:s.size<=maxLen) :
 (Instr.lookup 179 (.map (some m)) (.string s) true).run Tryz.prog w=.ok (.tuple #[.int .i64 ((f s).getD 0),.bool (f s).isSome]) w:=by
 obtain⟨D,h1,_,_,h4⟩:=h;obtain⟨v,ps,hrun,hv⟩:=h1.look_ok Zlp Tryz.underlying179 (Zni w) (zd:=.lit (.int .i64 0)) (zp:=[]) (plainElem_int Tryz.underlying3 (by decide)) (WideMaps.keyOf_string_mk Tryz.underlying9 hs);obtain⟨c,rfl,hc,_⟩:=plainElem_int_inv Tryz.underlying3 hv;have hat:=congrArg Prod.fst hc;simp only[(h4 s).2] at hat;simp only[DataW.lit.injEq,Lit.int.injEq,true_and] at hat;rw[hrun,(h4 s).1,hat]
theorem Zf3 {ops:Array Oper}{rest:List Oper}{o:Oper}{a:Act}{Q:Exit->Act->World->Prop}{w:World}(hg:o.guard=none)(mo x v:Operand)(hop:o.op=Op.mapUpdate 179 mo x v)
 (m n:Nat) (f:ByteArray->Option Int) (hm:a.eval mo=.map (some m)) (h:MapS w m n f) (hn:n<1152921504606846976) (s:ByteArray) (q:Int) (hx:a.eval x=.string s) (hv:a.eval v=.int .i64 q) (hs:s.size<=maxLen) (hq:(Lit.int .i64 q).wf=true)
 (hK:∀w',MapS w' m (if (f s).isSome then n else n+1) (λ t=>if t=s then some q else f t)->w.grownBy w' (some m)->wpList Tryz.prog ops Q rest (a.put o.dst undef) w'):wpList Tryz.prog ops Q (o::rest) a w:=by
 obtain⟨D,h1,h2,h3,h4⟩:=h;refine wpList_mapUpdate_own w hg mo x v _ hop _ _ Zlp Tryz.underlying179 (plainElem Tryz.prog 3) m _ D hm h1 (by simp only[maxLen];omega) _ _ (Zxk s) hx hv (WideMaps.keyOf_string_mk Tryz.underlying9 hs) (.lit (.int .i64 q)) [] (plainElem_int Tryz.underlying3 hq) ?_;intro w' ho hgr;refine hK w' ⟨_,Zlq ho,h2.put (Zpt s) _,?_,λ t=>?_⟩ hgr
 .rw[Maps.size_put h2,(h4 s).1]
  split <;> simp_all
 .by_cases e:t=s
  .subst e
   simp only[if_pos rfl];exact⟨Maps.has_put_same h2.isMap (Zpt _) _,Maps.atKey_put_same h2.isMap (Zpt _) _ _⟩
  .have hne:Zxk t≠Zxk s:=λ h=>e (Zyp h)
   simp only[if_neg e];rw[Maps.has_put_other hne,Maps.atKey_put_other hne];exact h4 t
theorem Zcy {w w1:World}(h:∃x:Ext w,w1=x.val):Below w.heap.size w w1:=by
 obtain⟨x,rfl⟩:=h;exact x.property
theorem Zay (n:Int)(w:World) :
 Calls Tryz.prog 165 #[.int .i64 n] w λ e w'=>e=.returned (.int .i64 (S.form n))/\w=w':=by
 go_enter Tryz.func165,Tryz.ntmps165
 go_wp2
 all_goals
  go_ret
  exact⟨Z2 (by grind [S.form]),rfl⟩
theorem Zbw (f:Int)(w:World) :
 Calls Tryz.prog 164 #[.int .i64 f] w λ e w'=>e=.returned (.tuple #[.bool (S.hasD f),.bool (S.hasA f),.bool (S.hasB f),.int .i64 (S.bitsOf f)])/\w=w':=by
 go_enter Tryz.func164,Tryz.ntmps164
 go_wp2
 all_goals
  refine bodyPost_ret (Zmi rfl _ _ _) rfl ?_;refine⟨?_,rfl⟩;simp only[S.hasD,S.hasA,S.hasB,S.bitsOf];simp
  grind
theorem Zkp (n:Int)(w:World) :
 Calls Tryz.prog 200 #[.int .i64 n] w λ e w'=>e=.returned (.tuple #[.int .i64 (S.least n),.int .i64 (S.most n)])/\w=w':=by
 go_enter Tryz.func200,Tryz.ntmps200
 go_wp2_with (go_at_call 165;refine(Zay _ _).mono ?_;rintro e w' ⟨rfl,rfl⟩)
 all_goals
  go_ret2
  refine⟨?_,rfl⟩;simp
  grind [S.least,S.most]
theorem Zai (n:Int)(w:World) :
 Calls Tryz.prog 167 #[.int .i64 n] w λ e w'=>e=.returned (.bool (decide (S.least n<0)))/\w=w':=by
 go_enter Tryz.func167,Tryz.ntmps167
 go_wp2_with (go_at_call 200;refine(Zkp _ _).mono ?_;rintro e w' ⟨rfl,rfl⟩)
 all_goals
  go_ret
  exact⟨Zi rfl,rfl⟩
theorem Znj (is:Bool)(n:Int)(w:World) :
 Calls Tryz.prog 219 #[.bool is,.int .i64 n] w λ e w'=>e=.returned (.bool (S.reg is n))/\w=w':=by
 cases is
 all_goals
  go_enter Tryz.func219,Tryz.ntmps219
  go_wp2
  all_goals
   go_ret
   exact⟨Zi (by grind [S.reg]),rfl⟩
theorem asm_Turned (n:Int) (w:World) :
    Calls Tryz.prog 197 #[.int .i64 n] w λ e w'=>e=.returned (.int .i64 (S.turned n))/\w=w':=by
  go_enter Tryz.func197,Tryz.ntmps197
  go_wp2
  all_goals
    go_ret
    exact⟨Z2 (by grind [S.turned]),rfl⟩
theorem Zck (op d a b imm:Int)(w:World) :
 Calls Tryz.prog 201 #[.agg #[.int .i64 op,.int .i64 d,.int .i64 a,.int .i64 b,.int .i64 imm]] w
  λ e w'=>e=.returned (.int .i64 (S.chk ⟨op,d,a,b,imm⟩))/\Below w.heap.size w w':=by
 go_enter Tryz.func201,Tryz.ntmps201
 go_wp2_with (first
  | (go_at_call 165;refine(Zay _ _).mono ?_;rintro e w' ⟨rfl,rfl⟩)
  | (go_at_call 164;refine(Zbw _ _).mono ?_;rintro e w' ⟨rfl,rfl⟩)
  | (go_at_call 200;refine(Zkp _ _).mono ?_;rintro e w' ⟨rfl,rfl⟩)
  | (go_at_call 219;refine(Znj _ _ _).mono ?_;rintro e w' ⟨rfl,rfl⟩))
 all_goals
  go_ret
  exact⟨Z2 (by grind [S.good,S.chk]),(Yh _ _).alloc (Yb _) _⟩
theorem Zsf (op d a b imm:Int)(w:World)(hg:S.good ⟨op,d,a,b,imm⟩=true) :
 Calls Tryz.prog 168 #[.agg #[.int .i64 op,.int .i64 d,.int .i64 a,.int .i64 b,.int .i64 imm]] w
  λ e w'=>e=.returned (.tuple #[.int .u32 (S.enc ⟨op,d,a,b,imm⟩),.int .i64 0])/\Below w.heap.size w w':=by
 have hc:S.chk ⟨op,d,a,b,imm⟩=0:=by simp[S.chk,hg]
 obtain⟨o1,o2,d1,d2,a1,a2,b1,b2,hw⟩:=Zfm hg;clear hg;rcases hw with⟨h,hD,hA,hB,hI,i1,i2⟩|⟨h,hD,hA,hB,hI,i1,i2⟩|⟨h,hD,hA,hB,hI,i1,i2⟩|⟨h,hD,hA,hB,hI,i1,i2⟩|⟨h,hD,hA,hB,hI,i1,i2⟩|⟨h,hD,hA,hB,hI,i1,i2⟩|⟨h,hD,hA,hB,hI,i1,i2⟩
 all_goals
  have H:=Lib.hid h;clear h;go_enter Tryz.func168,Tryz.ntmps168
  go_wp2_with (first
   | (go_at_call 201;refine(Zck _ _ _ _ _ _).mono ?_;rintro e w' ⟨rfl,hb⟩;obtain⟨hc1,hc2⟩:=Zcr hb;have hz:=hb.size;simp at hz)
   | (go_at_call 165;refine(Zay _ _).mono ?_;rintro e w' ⟨rfl,rfl⟩)
   | (go_at_call 164;refine(Zbw _ _).mono ?_;rintro e w' ⟨rfl,rfl⟩))
  refine wp_loop_rounds 4 ?_;rw[rounds_succ]
  go_wp2
  rw[rounds_succ]
  go_wp2
  rw[rounds_succ]
  go_wp2
  rw[rounds_succ]
  go_wp2
  refine Ztb (λ w4=>w4.cell? ⟨w.heap.size,4,none⟩=some (.int .i64 imm)/\Below w.heap.size w w4) ⟨?_,?_⟩ ?_
  .have h4:w'.cell? ⟨w.heap.size,4,none⟩=some (.int .i64 imm):=by rw[hc1 _ _ (by simp)];go_simp
   refine(Below.cell (B:=w'.heap.size) (w:=w') ?_ ?_).trans h4
   .exact((((Yh _ _).alloc (by simp) _).alloc (by simp) _).alloc (by simp;omega) _).alloc (by simp;omega) _
   .simp;omega
  .have h0:Below w.heap.size w w':=((Yh _ _).alloc (Yb _) _).trans (hb.mono (by simp))
   exact(((h0.alloc (by omega) _).alloc (by simp;omega) _).alloc (by simp;omega) _).alloc (by simp;omega) _
  rintro w4 ⟨h4,hb4⟩
  go_quiet (fail)
  go_wp2
  go_ret2
  refine⟨Zxl ?_ rfl,below_drewN hb4 _⟩
  first
   | (with_reducible exact Z5f o1 o2 d1 d2 a1 a2 b1 b2 i1 i2 H.out)
   | (with_reducible exact Z5g o1 o2 d1 d2 a1 a2 i1 i2 H.out)
   | (with_reducible exact Z5h o1 o2 d1 d2 i1 i2 H.out)
   | (with_reducible exact Z5i o1 o2 a1 a2 b1 b2 i1 i2 H.out)
   | (with_reducible exact Z5j o1 o2 d1 d2 i1 i2 H.out)
   | (with_reducible exact Z5k o1 o2 d1 d2 i1 i2 H.out)
   | (with_reducible exact Z5l o1 o2 a1 a2 i1 i2 H.out)
theorem Zu8 {x:S.Inst}(h:S.good x=false):S.chk x=11:=by simp[S.chk,h]
theorem Zsg {x:S.Inst}(h:S.good x=false):S.wordOf x=0:=by simp[S.wordOf,h]
theorem Zlr {x:S.Inst}(h:S.good x=true):S.chk x=0:=by simp[S.chk,h]
theorem Zfh {x:S.Inst}(h:S.good x=true):S.wordOf x=S.enc x:=by simp[S.wordOf,h]
theorem Zq (op d a b imm:Int)(w:World) :
 Calls Tryz.prog 168 #[.agg #[.int .i64 op,.int .i64 d,.int .i64 a,.int .i64 b,.int .i64 imm]] w
  λ e w'=>e=.returned (.tuple #[.int .u32 (S.wordOf ⟨op,d,a,b,imm⟩),.int .i64 (S.chk ⟨op,d,a,b,imm⟩)])/\Below w.heap.size w w':=by
 cases hg:S.good ⟨op,d,a,b,imm⟩
 .have hc:=Zu8 hg
  have hw:=Zsg hg;rw[hw];clear hg hw;go_enter Tryz.func168,Tryz.ntmps168
  go_wp2_with (go_at_call 201;refine(Zck _ _ _ _ _ _).mono ?_;rintro e w' ⟨rfl,hb⟩)
  go_ret2
  exact⟨by simp[hc],((Yh _ _).alloc (Yb _) _).trans (hb.mono (by simp))⟩
 .rw[Zlr hg,Zfh hg]
  exact Zsf op d a b imm w hg
theorem asm_word (op d a b imm:Int) (w:World) :
    Calls Tryz.prog 196 #[.agg #[.int .i64 op,.int .i64 d,.int .i64 a,.int .i64 b,.int .i64 imm]] w
      λ e w'=>e=.returned (.int .u32 (S.wordOf ⟨op,d,a,b,imm⟩))/\Below w.heap.size w w':=by
  go_enter Tryz.func196,Tryz.ntmps196
  go_wp2_with (go_at_call 168;refine(Zq _ _ _ _ _ _).mono ?_;rintro e w' ⟨rfl,hb⟩)
  go_ret
  exact⟨rfl,((Yh _ _).alloc (Yb _) _).trans (hb.mono (by simp))⟩
