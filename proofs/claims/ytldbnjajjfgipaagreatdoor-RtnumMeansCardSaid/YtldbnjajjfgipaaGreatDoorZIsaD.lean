/- Parts. -/
import Derived.Test.YtldbnjajjfgipaaGreatDoorZBRun
import Derived.StillTailTactics
import Derived.Maps.OwnOps
import Derived.Maps.OwnSet
set_option linter.all false
set_option maxHeartbeats 16000000
open Nat renaming le_refl->Yb,lt_of_not_le->Ycr
open List renaming length_append->Yd,getElem?_eq_getElem->Yf,getElem?_eq_some_iff->Yg,length_cons->Yj,mem_cons_self->Yv,mem_cons_of_mem->Yy,mem_cons->Yz,mem_of_getElem?->Y0,cons_append->Y8,all_eq_true->Ya9,getElem?_drop->Ybx,nodup_cons->Yb7,range->Ycb,filterMap_cons->Ydf,mem_range->Ydm
open Go.RowKit.Below renaming refl->Yh
open Bool renaming and_eq_true->Yu,or_eq_true->Ycf
open Go.Region renaming wanted->Yan,ready->Ybi,binds->Yb1,chainB->Ycx,Mode->Yc2,waitsFor_spec->Ydb,noSelect->Yde,noSelect_spec->Ydr
open Array renaming replicate->Yb3,setIfInBounds_comm->Ydo
namespace Go.Proofs.YtldbnjajjfgipaaGreatDoor
open S Go.Proofs.Tryz Go.RowKit
section
theorem Zbn:∀k,(bParams k).length=k
 | 0=>rfl
 | k+1=>by rw[bParams,Yd,Zbn k];rfl
section
variable {I:Img}{L dep lk base:Int}(cx:Cx I L dep lk base){obj:ByteArray}
include cx
theorem Zi8 {V:Vw}{i:Nat}(d:V.reg 28=base):∀k:Nat,k<=4->Seg I obj i (bParams k)->∃V',S.Go I V (I.adr i) k V' (I.adr (i+k))/\V'.reg=V.reg/\(∀j:Nat,j<k->V'.mem (base+1+j)=V.reg (4+j)) /\
 (∀a:Int,a<base+1\/base+1+k<=a->V'.mem a=V.mem a)/\V'.inp=V.inp/\V'.out=V.out
 | 0,_,_=>⟨V,Zdl _ _ _,rfl,λ j n=>by omega,λ _ _=>rfl,rfl,rfl⟩
 | k+1,hk,hs=>by
  obtain⟨e,h1,h2,h3,g,p,f⟩:=Zi8 d k (by omega) hs.left;have b:=hs.right;rw[Zbn] at b;obtain⟨ok,lo,top,dep0,L0,_,_,_⟩:=cx;have q1:=ok.lo0;have q2:=ok.hisz;have q3:=ok.size2;have m:base+1+(k:Int)=u32m (e.reg 28+(1+(k:Int))):=by rw[h2,d];unfold u32m;omega
  have o:¬I.code (base+1+k):=by
   rintro⟨c0,c1⟩;rcases ok.apart with h|h <;> omega
  have l:=Zun ok b.lo b.lt (V:=e) b.head (by decide) (by omega) m (by omega) o;refine⟨_,h1.trans l,h2,λ j n=>?_,λ a ha=>?_,p,f⟩
  .by_cases c:j=k
   .subst c
    rw[Zeh,h2]
   .rw[Zaa _ _ (by omega)];exact h3 j (by omega)
  .rw[Zaa _ _ (by omega)];exact g a (by omega)
end
theorem Zc5 {r:BR}(h:chkB r=0):labB r.name=true/\0<=r.params/\r.params<=4/\r.params<=r.locals/\r.locals<=200/\chkSs r.locals r.body 0=0:=by
 unfold chkB at h
 split at h
 .omega
 .rename_i hc
  simp only[Bool.not_eq_true,Bool.or_eq_false_iff,Bool.not_eq_false',decide_eq_false_iff_not] at hc;obtain⟨⟨⟨⟨h1,h2⟩,h3⟩,h4⟩,h5⟩:=hc;exact⟨h1,by omega,by omega,by omega,by omega,h⟩
theorem Zcx (f:Nat->Int)(n k:Nat)(h:k<n):((Ycb n).map f).getD k 0=f k:=by
 simp[h]
theorem Zg4 {I:Img}(p:I.Ok)(r:BR)(hc:chkB r=0){i:Nat}(t:Seg I r.name i (bItems r)){dep:Int}(D:0<=dep)(st:Vw)(R:Int->BO->Nat->Prop)
 (hw:∀(lk:Int)(env:List Int),0<=lk->lk<I.size->(env.length:Int)=r.locals->(∀k:Nat,(k:Int)<r.params->env.getD k 0=st.reg (4+k)) ->
  wpSs I dep lk r.behind r.body env st (r.params.toNat+2) (λ _ w A=>R lk (.ret w) (A+(if r.behind=true then 5 else 3))) (R lk)) :
 Real I r.name r.behind st (r.locals+15+dep) R:=by
 obtain⟨hn,p0,p4,pL,F,s⟩:=Zc5 hc;intro V top ret l v X r0 r1 Z a4;have cx:Cx I r.locals dep ret top:=⟨p,Z,by omega,D,by omega,F,r0,r1⟩
 have q1:=p.lo0;have q2:=p.hisz;have q3:=p.size2;have M:frameB r=r.locals+15:=by unfold frameB;rw[if_neg (by simp[hc])]
 obtain⟨c,J⟩:=Yx r.params.toNat;unfold bItems bHead at t;rw[M,<- J] at t;have f:Seg I r.name i ([bL r.name,bI 25 0 28 31 0]:List S.Item):=t.left.left.left.left;have Q:Seg I r.name (i+2) (bParams c):=t.left.left.left.right;have x:Seg I r.name (i+2+c) [bI 15 28 28 0 (r.locals+15)]:=by
  have h:=t.left.left.right;rw[Yd,Zbn] at h;have e:i+(([bL r.name,bI 25 0 28 31 0]:List S.Item).length+c)=i+2+c:=by simp;omega
  rw[e] at h;exact h
 have a2:Seg I r.name (i+2+c+1) (bStmts (r.locals+15) r.locals r.behind r.body 0).1:=by
  have h:=t.left.right;rw[Yd,Yd,Zbn] at h;have e:i+(([bL r.name,bI 25 0 28 31 0]:List S.Item).length+c+([bI 15 28 28 0 (r.locals+15)]:List S.Item).length)=i+2+c+1:=by simp;omega
  rw[e] at h;exact h
 have K:Seg I r.name (i+2+c+1+(bStmts (r.locals+15) r.locals r.behind r.body 0).1.length) (bBack (r.locals+15) r.behind):=by
  have h:=t.right;rw[Yd,Yd,Yd,Zbn] at h;have e:i+(([bL r.name,bI 25 0 28 31 0]:List S.Item).length+c+([bI 15 28 28 0 (r.locals+15)]:List S.Item).length+(bStmts (r.locals+15) r.locals r.behind r.body 0).1.length)=i+2+c+1+(bStmts (r.locals+15) r.locals r.behind r.body 0).1.length:=by simp;omega
  rw[e] at h;exact h
 have H:I.lab r.name=I.adr i:=by
  have:=Zkt cx f;rw[Zey _ hn] at this;exact this
 have g0:=Zet p f.lo f.lt (V:=V) f.head;have et:top=u32m (V.reg 28+0):=by rw[v];unfold u32m;omega
 have U:¬I.code top:=by
  rintro⟨c0,c1⟩;rcases p.apart with h|h <;> omega
 have g1:=Zun p f.tail.lo f.tail.lt (V:=V) (a:=28) (b:=31) (n:=0) f.tail.head (by decide) (by decide) et (by omega) U;rw[X] at g1;obtain⟨g,g2,B,W,G,Y,O⟩:=Zi8 cx (V:=V.sto top ret) v c (by omega) Q;have g3:=Zee p x.lo x.lt (V:=g) (d:=28) (a:=28) (n:=r.locals+15) x.head (by decide) (by decide) (by decide);have e3:u32m (g.reg 28+(r.locals+15))=top+r.locals+15:=by
  have:g.reg 28=top:=by rw[B];exact v
  rw[this];unfold u32m;omega
 rw[e3] at g3;have gg:S.Go I V (I.lab r.name) (c+2) (g.set 28 (top+r.locals+15)) (I.adr (i+2+c+1)):=by
  rw[H];exact(((g0.trans g1).trans g2).trans g3).more (by omega)
 have m:∀a:Int,a<top\/top+1+c<=a->(g.set 28 (top+r.locals+15)).mem a=V.mem a:=λ a T=>by
  show g.mem a=_
  rw[G a (by omega),Zaa _ _ (by omega)]
 obtain⟨env,q⟩:∃env:List Int,env=(Ycb r.locals.toNat).map λ k:Nat=>(g.set 28 (top+r.locals+15)).mem (top+1+(k:Int)):=⟨_,rfl⟩
 have N:env.length=r.locals.toNat:=by rw[q];simp
 have E:∀k:Nat,k<env.length->env.getD k 0=(g.set 28 (top+r.locals+15)).mem (top+1+(k:Int)):=λ k y=>by
  rw[q,Zcx _ _ _ (by rw[<- N];exact y)]
 have hF:Fm I (g.set 28 (top+r.locals+15)) st top ret env []:=by
  refine⟨⟨λ j hj=>?_,λ a a0 a1 T=>?_,?_,?_⟩,?_,?_,λ k y=>(E k y).symm,λ k y=>by simp at y⟩
  .have:=Zkw hj
   rw[Zh _ _ (by omega),B];exact l.vis j hj
  .by_cases hin:top<=a/\a<top+1+c
   .exact absurd ⟨by omega,by omega⟩ T
   .rw[m a (by omega)];exact l.mem a a0 a1 T
  .show g.inp=_;rw[Y];exact l.inp
  .show g.out=_;rw[O];exact l.out
  .rw[Zj];omega
  .show g.mem top=ret
   rw[G top (by omega),Zeh]
 have u:∀k:Nat,(k:Int)<r.params->env.getD k 0=st.reg (4+k):=λ k y=>by
  rw[E k (by omega)]
  show g.mem (top+1+(k:Int))=_
  rw[W k (by omega)];exact l.vis _ (by unfold visB;rw[decide_eq_true_eq];omega)
 have hL:(env.length:Int)=r.locals:=by omega
 have z:Kp I top V (g.set 28 (top+r.locals+15)):=λ a a0 a1=>m a (by omega)
 have hb:=hw ret env r0 r1 hL u;rw[<- J] at hb;have h:=Zev cx (obj:=r.name) (behind:=r.behind) r.body 0 0 env _ st _ (c+2) _ _ hL s hb a2 hF;rcases h with⟨a3,w,A,V',h1,h2,h3,h4,h5,h6⟩|⟨o,A,h1,h2,h3⟩
 .have hbk:=Zpz cx (obj:=r.name) (behind:=r.behind) (r:=[]) h3 (by rw[List.append_nil];exact K) h5
  have hd:=Zbk h4 h6 hbk (Yb _);refine⟨.ret w,A+(if r.behind=true then 5 else 3),h2,Zbk gg z hd ?_⟩;omega
 .exact⟨o,A,h2,Zbk gg z h3 (by omega)⟩
end
namespace S
def tells:List Item->List ByteArray
 | []=>[]
 | x::r=>if x.kind=2 then x.label::tells r else tells r
def names:List Item->List ByteArray
 | []=>[]
 | x::r=>if named x=true then x.label::names r else names r
def allChk (xs:List Item):Prop:=∀x∈xs,chkItem x=0
def bulk:List Item->Int
 | []=>0
 | x::r=>(if x.kind=8 then x.word else 4)+bulk r
end S
theorem Zhp (a b:List S.Item):S.tells (a++b)=S.tells a++S.tells b:=by
 induction a with
 | nil=>rfl
 | cons x r ih =>
  rw[Y8,S.tells,S.tells,ih]
  split <;> rfl
theorem Zhq (a b:List S.Item):S.names (a++b)=S.names a++S.names b:=by
 induction a with
 | nil=>rfl
 | cons x r ih =>
  rw[Y8,S.names,S.names,ih]
  split <;> rfl
theorem Zfn (a b:List S.Item):S.bulk (a++b)=S.bulk a+S.bulk b:=by
 induction a with
 | nil=>simp[S.bulk]
 | cons x r ih=>rw[Y8,S.bulk,S.bulk,ih];omega
theorem Zvi {xs:List S.Item}{s:ByteArray}(h:s∈S.tells xs):∃x∈xs,x.kind=2/\x.label=s:=by
 induction xs with
 | nil=>cases h
 | cons y r ih =>
  rw[S.tells] at h
  split at h
  .rename_i c
   rcases Yz.1 h with rfl|h
   .exact⟨y,Yv,c,rfl⟩
   .obtain⟨x,hx,h⟩:=ih h
    exact⟨x,Yy _ hx,h⟩
  .obtain⟨x,hx,h⟩:=ih h
   exact⟨x,Yy _ hx,h⟩
theorem Zn5 {xs:List S.Item}{x:S.Item}(h:x∈xs)(a:x.kind=2):x.label∈S.tells xs:=by
 induction xs with
 | nil=>cases h
 | cons y r ih =>
  rw[S.tells];rcases Yz.1 h with rfl|h
  .rw[if_pos a];exact Yv
  .split
   .exact Yy _ (ih h)
   .exact ih h
theorem Zvj {xs:List S.Item}{x:S.Item}(h:x∈xs)(a:S.named x=true):x.label∈S.names xs:=by
 induction xs with
 | nil=>cases h
 | cons y r ih =>
  rw[S.names];rcases Yz.1 h with rfl|h
  .rw[if_pos a];exact Yv
  .split
   .exact Yy _ (ih h)
   .exact ih h
theorem Zvk {xs:List S.Item}(a:(S.tells xs).Nodup){i j:Nat}{x y:S.Item}(b:xs[i]?=some x)(c:xs[j]?=some y)(d:x.kind=2)(e:y.kind=2)(h:x.label=y.label):i=j:=by
 induction xs generalizing i j with
 | nil=>simp at b
 | cons z r ih =>
  rw[S.tells] at a;have f:(S.tells r).Nodup:=by
   split at a
   .exact(Yb7.1 a).2
   .exact a
  cases i with
  | zero =>
   cases j with
   | zero=>rfl
   | succ j =>
    exfalso
    simp at b c;subst b;rw[if_pos d] at a;exact(Yb7.1 a).1 (h ▸ Zn5 (Y0 c) e)
  | succ i =>
   cases j with
   | zero =>
    exfalso
    simp at b c;subst c;rw[if_pos e] at a;exact(Yb7.1 a).1 (h ▸ Zn5 (Y0 b) d)
   | succ j =>
    simp at b c;rw[ih f b c]
theorem Z46 {xs:List S.Item}(c:(S.tells xs).Nodup):¬Dup xs:=by
 rintro⟨i,x,a,b,e⟩;rcases Zav xs x.label with⟨h1,h2⟩|⟨j,y,h1,h2,h3,d,_⟩
 .exact h2 i x a ⟨b,rfl⟩
 .exact e (by rw[h1,Zvk c h2 a h3 b d])
theorem Z2y {xs:List S.Item}(b:∀s∈S.names xs,s∈S.tells xs):¬Miss xs:=by
 rintro⟨i,x,g,c,hs⟩;obtain⟨y,f,a,d⟩:=Zvi (b _ (Zvj (Y0 g) c));obtain⟨j,e,rfl⟩:=List.getElem_of_mem f;rcases Zav xs x.label with⟨h1,h2⟩|⟨j,y,h1,h2,h3,h4,_⟩
 .exact h2 j _ (Yf e) ⟨a,d⟩
 .omega
theorem Zs0 {xs:List S.Item}(h:S.allChk xs):firstErr xs=0:=by
 induction xs with
 | nil=>rfl
 | cons x r ih =>
  rw[firstErr,if_neg (by rw[h x Yv];simp)];exact ih λ y a=>h y (Yy _ a)
theorem Zn6 {xs:List S.Item}{F:List Int}(hF:FormOk xs F)(b:S.allChk xs):∀n:Nat,n<=xs.length->addr xs F 0 n<=S.bulk (xs.take n)
 | 0,_=>by simp[addr,S.bulk]
 | n+1,h=>by
  have h1:=Zn6 hF b n (by omega);have a:xs[n]?=some xs[n]:=Yf h;have h2:=hF.2 n _ a;have h3:=b xs[n] (List.getElem_mem h);have e:xs.take (n+1)=xs.take n++[xs[n]]:=by rw[List.take_add_one,a];rfl
  rw[e,Zfn]
  show addr xs F 0 n+sizeAt xs F n<=_
  unfold sizeAt;rw[a];have h4:S.size xs[n] (F.getD n 0)<=(if xs[n].kind=8 then xs[n].word else 4):=by
   unfold S.size;generalize xs[n]=x at *
   grind
  simp only[S.bulk];omega
theorem Z47 {xs:List S.Item}{e:Int}{F:List Int}(h:FormsRes xs 0 e F)(b:S.allChk xs)(c:(S.tells xs).Nodup)(f:∀s∈S.names xs,s∈S.tells xs)(hb:S.bulk xs<=67108864) :
 e=0/\FormOk xs F/\addr xs F 0 xs.length<=S.bulk xs:=by
 have h0:CheckRes xs 0 0:=.inr (.inr (.inr (.inr ⟨Int.le_refl _,by decide,Zs0 b,Z46 c,Z2y f,rfl⟩)));have a:∀G,FormOk xs G->addr xs G 0 xs.length<=S.bulk xs:=λ G g=>by
  have:=Zn6 g b xs.length (Yb _)
  rwa[List.take_length] at this
 rcases h with⟨h1,h2,_⟩|⟨_,_,_,G,h3,d⟩|⟨_,h2,h3,_,_⟩
 .exact absurd (Zne h2 h0) h1
 .have:=a G h3.1
  have:(67108864:Int)<addr xs G 0 xs.length:=d;omega
 .exact⟨h2,h3.1,a F h3.1⟩
theorem Zvl {xs:List S.Item}{F:List Int}(hF:FormOk xs F)(b:∀x∈xs,1<=x.kind/\x.kind<=8)(a:∀x∈xs,0<=x.word/\x.word<=4294967295){i j:Nat}{w:Int}(d:(wordsAt xs F 0 i)[j]?=some w) :
 ∀n:Nat,i<n->(outTo xs F 0 n)[(addr xs F 0 i).toNat+j]?=some w
 | 0,h=>by omega
 | n+1,h=>by
  rw[outTo];have hl:=Zbj (base:=0) hF b a n;have k:=Zbj (base:=0) hF b a i;have f:=(Yg.1 d).1;have g:=Za4 (base:=0) hF b a i;by_cases c:i=n
  .subst c
   rw[List.getElem?_append_right (by omega)];have e:(addr xs F 0 i).toNat+j-(outTo xs F 0 i).length=j:=by omega
   rw[e];exact d
  .have h1:=Zvl hF b a d n (by omega)
   rw[List.getElem?_append_left (Yg.1 h1).1];exact h1
theorem Zzh {y:Inst}{s:ByteArray}{w:Int}(h:good y=true):S.chkItem ⟨1,y,s,w⟩=0:=by
 simp[S.chkItem,chk,h]
section
theorem Z6p {d:Int}(hd:0<=d/\d<=31):good ⟨34,d,0,0,0⟩=true:=by
 have hf:form 34=6:=by decide
 have a:least 34=0/\most 34=0:=by decide
 simp[good,hf,a.1,a.2,reg,hasD,hasA,hasB];omega
theorem Zvm {op a:Int}(c:op=35\/op=36)(ha:0<=a/\a<=31):good ⟨op,0,a,0,0⟩=true:=by
 rcases c with rfl|rfl
 .have hf:form 35=7:=by decide
  have b:least 35=0/\most 35=0:=by decide
  simp[good,hf,b.1,b.2,reg,hasD,hasA,hasB];omega
 .have hf:form 36=7:=by decide
  have b:least 36=0/\most 36=0:=by decide
  simp[good,hf,b.1,b.2,reg,hasD,hasA,hasB];omega
theorem Zs1:S.allChk []:=λ _ h=>by cases h
theorem Zf6 {a b:List S.Item}(h:S.allChk a)(k:S.allChk b):S.allChk (a++b):=λ x c=>(List.mem_append.1 c).elim (h x) (k x)
theorem Z5 {x:S.Item}{b:List S.Item}(h:S.chkItem x=0)(k:S.allChk b):S.allChk (x::b):=λ y a=>(Yz.1 a).elim (λ e=>e ▸ h) (k y)
theorem Zk0 {x:S.Item}(h:S.chkItem x=0):S.allChk [x]:=Z5 h Zs1
theorem Z48 {op d a b n:Int}(h:good ⟨op,d,a,b,n⟩=true):S.chkItem (bI op d a b n)=0:=Zzh h
theorem Zi9 (s:ByteArray):S.chkItem (bL s)=0:=by simp[S.chkItem,bL]
theorem Z1c {d:Int}(s:ByteArray)(a:0<=d/\d<=31):S.chkItem (bJ d s)=0:=by
 have h:regOk d=true:=by unfold regOk;exact decide_eq_true a
 simp[S.chkItem,bJ,h]
section
variable {L:Int}(hL:0<=L/\L<=200)
include hL
end
end
theorem Zzi (s:ByteArray)(h:0<s.size):ownB s=(s[0]==46):=by
 unfold ownB;have e:s.data.toList.head?=some s[0]:=by
  rw[List.head?_eq_getElem?,Yf (by simpa using h)];rfl
 rw[e];rfl
theorem Zvn (s:ByteArray)(h:s.size=0):ownB s=false:=by
 unfold ownB;have e:s.data.toList=[]:=List.eq_nil_of_length_eq_zero (by simpa using h);rw[e];rfl
theorem Z2z (s:ByteArray)(h:0<s.size):((s.extract 0 1).toList==[46])=ownB s:=by
 rw[Zzi s h];have e:(s.extract 0 1).toList=[s[0]]:=by
  rw[ByteArray.toList_eq,ByteArray.data_extract]
  apply List.ext_getElem
  .simp;omega
  .intro i h1 h2
   simp at h2;subst h2;simp;rfl
 rw[e];simp
theorem Zke (s:ByteArray)(w:World)(a:s.size<=maxLen) :
 Calls prog 234 #[.string s,.string ⟨#[46]⟩] w λ e w'=>e=.returned (.bool (ownB s))/\w=w':=by
 unfold maxLen at a;by_cases h:0<s.size
 .go_enter func234,ntmps234
  go_wp2_with fail
  go_ret
  exact⟨Zk (Z2z s h),rfl⟩
 .go_enter func234,ntmps234
  go_wp2_with fail
  go_ret
  exact⟨Zk (Zvn s (by omega)).symm,rfl⟩
theorem Zak (s:ByteArray)(w:World)(a:s.size<=maxLen) :
 Calls prog 188 #[.string s,.string ⟨#[46]⟩] w λ e w'=>e=.returned (.bool (ownB s))/\w=w':=by
 go_enter func188,ntmps188
 go_wp2_with fail
 refine(Zke _ _ a).mono ?_;rintro e w' ⟨rfl,rfl⟩;go_wp2_with fail
 go_ret
 exact⟨rfl,rfl⟩
theorem Zs2 (n s:ByteArray)(w:World)(a:s.size<=maxLen)(b:n.size+s.size<=9223372036854775807) :
 Calls prog 192 #[.string n,.string s] w λ e w'=>e=.returned (.string (owned n s))/\w=w':=by
 cases ho:ownB s
 .have H:=Lib.hid ho
  clear ho;go_enter func192,ntmps192
  go_wp2_with fail
  refine(Zak _ _ a).mono ?_;rintro e w' ⟨rfl,rfl⟩;rw[H.out];go_wp2_with fail
  go_ret
  exact⟨by simp[owned,H.out],rfl⟩
 .have H:=Lib.hid ho
  clear ho;go_enter func192,ntmps192
  go_wp2_with fail
  refine(Zak _ _ a).mono ?_;rintro e w' ⟨rfl,rfl⟩;rw[H.out];go_wp2_with fail
  go_ret
  exact⟨by simp[owned,H.out],rfl⟩
theorem Zn7 {P:Program}{ops:Array Oper}{rest:List Oper}{o:Oper}{a:Act}{Q:Exit->Act->World->Prop}{w:World}
 (hg:o.guard=none) (l c:Operand) (t:TypeId) (j:o.op=Op.makeSlice t l c)
 (base:Nat) (e:TypeId) {z:Value} {bytes:Nat} (d:(P.info? e).map (λ i=>(i.zero,i.size,i.bytes))=some (some z,1,bytes)) (h1:P.underlying t=some (.slice e)) (r:z.cells=#[z])
 (p k:IntKind) (L C:Int) (n:Nat) (y:a.eval l=.int p L) (s:a.eval c=.int k C) (hL:L=(n:Int)) (u:C=(n:Int)) (b2:bytes*n<=281474976710656) (v:n<=maxLen) (q:base<=w.heap.size)
 (x:∀w',w'.ownsRow base e 1 (.slice (some ⟨w.heap.size,0,none⟩) n n) n (List.replicate n z)->Below w.heap.size w w'->wpList P ops Q rest (a.put o.dst (.slice (some ⟨w.heap.size,0,none⟩) n n)) w') :
 wpList P ops Q (o::rest) a w:=by
 obtain⟨i,hi,f,b,h⟩:=info_parts d;refine wpList_make_full w hg l c t j base e i z 1 h1 hi f b p k L C n y s hL u (by rw[h];exact b2) v q λ w' m g=>x w' ?_ ((Yh _ _).grown g (Yb _) (by simp))
 rw[r,Nat.mul_one,toList_madeCells_one] at m;exact m
theorem Zp9 {w:World}{base c:Nat}{e l:TypeId}{size b n n':Nat}{v k:Value}{xs d:List Value}(h:w.ownsRow base e size v n xs)(p:w.ownsRow c l b k n' d)(f:e≠l) :
 v.ownBlock=none\/v.ownBlock≠k.ownBlock:=by
 rcases h.2 with⟨rfl,_⟩|⟨g,cap,o,rfl,_,hg,_⟩
 .exact .inl rfl
 .right
  rcases p.2 with⟨rfl,_⟩|⟨m,j,i,rfl,_,a,_⟩
  .simp[Value.ownBlock]
  .intro he
   have:g=m:=by simpa[Value.ownBlock] using he
   subst this;rw[hg] at a
   injection a with a
   injection a with _ ht
   exact f ht
theorem Zbu {w w':World}{base b:Nat}{e g:TypeId}{size a n n':Nat}{v f:Value}{xs d:List Value}(h:w.ownsRow base e size v n xs)(i:w.ownsRow b g a f n' d)(c:e≠g)
 (hg:w.grownBy w' f.ownBlock):w'.ownsRow base e size v n xs:=h.kept hg (Zp9 h i c)
theorem Zcv {w:World}{base:Nat}{e:TypeId}{size:Nat}{A:Option Addr}{m c n:Nat}{xs:List Value}(h:w.ownsRow base e size (.slice A m c) n xs)(hA:A=none):m=0:=by
 subst hA;rcases h.2 with⟨h1,_⟩|⟨g,cap,a,h1,_⟩
 .simp only[Value.slice.injEq] at h1;exact h1.2.1
 .simp at h1
section
def Ext (w:World):={w':World // Below w.heap.size w w'}
instance extNonempty (w:World):Nonempty (Ext w):=⟨⟨w,Yh _ _⟩⟩
theorem Zn (w:World):(∀(x:Ext w)(b o:Nat),b<w.heap.size->x.val.cell? ⟨b,o,none⟩=w.cell? ⟨b,o,none⟩):=λ x b o h=>x.property.cell (p:=⟨b,o,none⟩) h
theorem Zc6 {P:Program}{f:FuncId}{args:Array Value}{w:World}{x:Ext w}{v:Value}(h:Calls P f args x.val λ e w'=>e=.returned v/\Below x.val.heap.size x.val w') :
 Calls P f args x.val λ e a=>e=.returned v/\∃y:Ext w,a=y.val :=
 h.mono λ _ a ⟨b,hm⟩=>⟨b,⟨a,x.property.trans (hm.mono x.property.size)⟩,rfl⟩
theorem Zcm {P:Program}{f:FuncId}{args:Array Value}{w:World}{x:Ext w}{v:Value}(h:Calls P f args x.val λ e w'=>e=.returned v/\x.val=w') :
 Calls P f args x.val λ e a=>e=.returned v/\∃y:Ext w,a=y.val :=
 h.mono λ _ a ⟨b,hm⟩=>⟨b,x,hm.symm⟩
theorem Zh6 (w:World):Below w.heap.size w { w with drawn:=w.drawn+1 }:=⟨rfl,rfl,rfl,Yb _,λ _ _=>rfl⟩
theorem Z1 {P:Program}{id:Nat}{Q:Exit->Act->World->Prop}{a:Act}{w:World}{l:List Oper}(hm:P.follows .mixedOrders=true)(b:Region.lexB .any l.toArray=true)
 (h:wpQuiet P l.toArray (λ w'=>∃x:Ext w,w'=x.val) (λ c=>∀w',(∃x:Ext w,w'=x.val)->Q .normal c w') l a):(Code.region id l.toArray true).wp P Q a w :=
 wp_region_quiet (C:=λ w'=>∃x:Ext w,w'=x.val) hm b ⟨⟨_,Zh6 w⟩,rfl⟩ (by simpa using h)
section
variable {P:Program}{ops:Array Oper}{md:Yc2}{C:World->Prop}
def Zej (P:Program)(md:Yc2)(ops:Array Oper)(C:World->Prop)(n:Nat)(L:Array Bool->Act->Prop):Nat->Array Bool->Act->Prop
 | 0,listed,a=>L listed a
 | f+1,listed,a=>Ybi md ops listed≠[]/\∀i∈Ybi md ops listed,i<n/\qOp P ops C i (Zej P md ops C n L f (listed.setIfInBounds i true)) a
theorem Zdq {n g:Nat}{L:Array Bool->Act->Prop}{Q':Exit->Act->World->Prop}(hL:∀b a w,C w->L b a->wpAny P md ops Q' g b a w) :
 ∀(f:Nat)(b:Array Bool)(a:Act)(w:World),C w->Zej P md ops C n L f b a->wpAny P md ops Q' (f+g) b a w
 | 0,_,_,_,hw,h=>by rw[Nat.zero_add];exact hL _ _ _ hw h
 | f+1,b,a,w,hw,h=>by
  have e:f+1+g=(f+g)+1:=by omega
  rw[e];exact⟨λ h0=>absurd h0 h.1,λ i hi=>wpOp_of_qOp hw (λ j w' c d=>Zdq hL f _ j w' c d) (h.2 i hi).2⟩
theorem Zma {n i:Nat}{z:Oper}{v:Value}{L:Array Bool->Act->Prop}(hi:ops[i]?=some z)(r:∀(j:Nat)(o:Oper) cs b,ops[j]?=some o->o.op≠.select cs b)
 (O:Region.sinkB md ops n=true) (Q:Ycx md ops n=true) (N:n<ops.size) (E:i<n) (u:∀c a,L c a->∀j∈Ybi md ops c,n<=j) :
 ∀(f:Nat)(c:Array Bool)(a:Act),HeadInv md ops n c ->
  (∀j y,ops[j]?=some y->j≠i->c.getD j true=false->(∀e∈y.after,Yb1 md e=true->e.on≠i)->z.apart ops y=true) ->
  i∈Ybi md ops c->YieldsIn P ops C z v a ->
  Zej P md ops C n L f (c.setIfInBounds i true) (a.put z.dst v)->Zej P md ops C n L (f+1) c a:=by
 intro f
 induction f with
 | zero =>
  intro c a m _ s G H;have p:=(mem_ready.1 s).1;refine⟨λ h=>(by rw[h] at s;cases s),λ j w=>?_⟩;have q:j<n:=Ycr λ h=>absurd w (tail_waits O Q N m _ i rfl E p j h)
  refine⟨q,?_⟩;by_cases d:j=i
  .subst d;exact G.qOp hi H
  .exact absurd (u _ _ H j (ready_mono w d)) (by omega)
 | succ f ih =>
  intro c a m g s G H;have p:=(mem_ready.1 s).1;refine⟨λ h=>(by rw[h] at s;cases s),λ j w=>?_⟩;have q:j<n:=Ycr λ h=>absurd w (tail_waits O Q N m _ i rfl E p j h)
  refine⟨q,?_⟩;by_cases d:j=i
  .subst d;exact G.qOp hi H
  .have h1:=(H.2 j (ready_mono w d)).2
   obtain⟨t,y,x,F⟩:=mem_ready.1 w;have D:∀e∈y.after,Yb1 md e=true->e.on≠i:=λ e U R K=>by
    have h1:=F e U R;rw[K,getD_both p] at h1
    cases h1
   have h2:=qOp_put x (g j y x d t D) (λ cs b=>r i z cs b hi) (λ cs b=>r j y cs b x) G h1;have l:∀k ok,ops[k]?=some ok->k≠i->(c.setIfInBounds j true).getD k true=false ->
    (∀e∈ok.after,Yb1 md e=true->e.on≠i)->z.apart ops ok=true:=λ k ok T M A J=>by
    refine g k ok T M ?_ J;by_cases B:j=k
    .subst B;exact t
    .rw[getD_set_ne true B] at A;exact A
   refine qOp_mono (λ V h3=>ih (c.setIfInBounds j true) V (m.set w q) l (ready_mono s (Ne.symm d)) h3.1 ?_) h2;rw[Ydo _ _ d];exact h3.2
theorem Zja {n g:Nat}{i:Act->Prop}(d:Yde ops=true)(r:Region.sinkB md ops n=true)(s:Ycx md ops n=true)(q:n<ops.size) :
 ∀(l:List Oper)(k:Nat)(b:Array Bool)(a:Act),(∀j,j<l.length->l[j]?=ops[k+j]?)->k+l.length=n->HeadInv md ops n b ->
 Region.lexHead md ops g l.length k b=true->wpQuiet P ops C i l a ->
 Zej P md ops C n (λ c t=>Region.seqB md ops g n c=true/\i t) l.length b a
 | [],k,b,a,_,hk,_,hB,h=>by
  have:k=n:=by simpa using hk
  subst this;exact⟨by simpa[Region.lexHead] using hB,h⟩
 | o::l,k,b,a,hl,hk,inv,hB,h=>by
  have h0:ops[k]?=some o:=by simpa using (hl 0 (by simp)).symm
  simp only[Yj,Region.lexHead,Yu] at hB;obtain⟨⟨u,hf⟩,m⟩:=hB;have f:k<n:=by simp only[Yj] at hk;omega
  have e:k∈Ybi md ops b:=by simpa using u
  have p:qOp P ops C k (wpQuiet P ops C i l) a:=by unfold qOp;simp only[h0];exact h
  obtain⟨v,x,w⟩:=yieldsIn_of_qOp h0 p;exact Zma h0 (Ydr d) r s q f (λ c t hL=>seqB_ready hL.1) l.length b a inv (Region.free_spec h0 hf) e x
   (Zja d r s q l (k+1) _ _ (λ j hj=>by have:=hl (j+1) (by simp;omega);simpa[Nat.add_assoc,Nat.add_comm 1 j] using this) (by simp only[Yj] at hk;omega) (inv.set e f) m w)
end
theorem Zi {P:Program}{id:Nat}{Q:Exit->Act->World->Prop}{a:Act}{w:World}{l:List Oper}(n:Nat)(hm:P.follows .mixedOrders=true)(q:Region.lexTailB .any l.toArray n=true)
 (h:wpQuiet P l.toArray (λ w'=>∃x:Ext w,w'=x.val) (λ p=>∀w',(∃x:Ext w,w'=x.val)->wpList P l.toArray Q (l.drop n) p w') (l.take n) a):(Code.region id l.toArray true).wp P Q a w:=by
 simp only[Region.lexTailB,Yu,decide_eq_true_eq] at q;obtain⟨⟨⟨⟨d,r⟩,y⟩,A⟩,f⟩:=q;have z:n<l.length:=by simpa using r
 have b:(l.take n).length=n:=by simp;omega
 have k:(l.drop n).length=l.toArray.size-n:=by simp
 have i:HeadInv .any l.toArray n (Yb3 l.toArray.size false) :=
  ⟨by simp,λ j oj _ u=>(by rw[getD_replicate_false] at u;cases u),λ t _ v=>getD_in (by simpa using v) (getD_replicate_false _ _)⟩
 have H:=Zja (md:=.any) (g:=l.toArray.size-n) d y A r (l.take n) 0 _ a (λ j s=>by
  have o:j<n:=by rw[b] at s;exact s
  simp[o]) (by simpa using b) i (by rw[b];exact f) h
 refine wp_region_any hm ?_;have h2:=Zdq (Q':=Q) (g:=l.toArray.size-n) (λ c p w' m hL=>by
  have h3:=wpAny_of_seq (md:=.any) (Q':=Q) (l.drop n) n c p w' (λ j=>by simp[Ybx]) (by rw[k];exact hL.1) (hL.2 w' m)
  rwa[k] at h3) _ _ _ _ (⟨⟨_,Zh6 w⟩,rfl⟩:∃x:Ext w,{ w with drawn:=w.drawn+1 }=x.val) H
 have e:n+(l.toArray.size-n)=l.toArray.size:=by omega
 rw[b,e] at h2;exact h2
section
variable {P:Program}{ops:Array Oper}{md:Yc2}{C:World->Prop}
def Z1d (o:Oper):Bool:=o.guard.isNone && match o.op with | .move _=>true|_=>false
def Zzj (md:Yc2)(ops:Array Oper)(n:Nat)(l0:Array Bool):Bool :=
 (Ycb n).all λ i=>l0.getD i false || (Ycb (n+1)).any λ j=>decide (i<j) && Region.waitsFor md ops j i
theorem Zjb {n:Nat}{l0 a:Array Bool}(z:Zzj md ops n l0=true)(B:Ycx md ops n=true)(hn:n<ops.size)(f:HeadInv md ops n a)
 (o:∀i,l0.getD i false=true->a.getD i false=true) :
 ∀(d i:Nat),n-i=d->i<n->a.getD i true=false->∀t,n<=t->t ∉ Ybi md ops a:=by
 intro d
 induction d using Nat.strongRecOn with
 | _ d ih =>
  intro i hd hi g t ht y;obtain⟨_,w,h,c⟩:=mem_ready.1 y;have l:t<ops.size:=(Array.getElem?_eq_some_iff.1 h).1;by_cases r:t=n
  .subst r
   have h1:=Ya9.1 z i (Ydm.2 hi);rw[Ycf] at h1;rcases h1 with h1|h1
   .have:=o i h1
    rw[getD_both g] at this
    cases this
   obtain⟨j,A,k⟩:=List.any_eq_true.1 h1;simp only[Yu,decide_eq_true_eq] at k;obtain⟨x,m,e,q,p,b⟩:=Ydb k.2;have v:j<=t:=by have:=Ydm.1 A;omega
   by_cases s:j=t
   .subst s
    have:x=w:=Option.some.inj (m.symm.trans h);subst this;have h2:=c e q p;rw[b,getD_both g] at h2
    cases h2
   .cases hl:a.getD j false with
    | true =>
     have h2:=f.closed j x m hl e q p;rw[b,getD_both g] at h2
     cases h2
    | false =>
     have u:j<a.size:=by rw[f.size];omega
     exact ih (t-j) (by omega) j rfl (by omega) (getD_in u hl) t (Yb _) y
  .have h1:=Ya9.1 B t (Ydm.2 l)
   simp only[Ycf,decide_eq_true_eq] at h1;rcases h1 with h1|h1
   .omega
   .obtain⟨o',ho',e,q,p,b⟩:=Ydb h1
    have:o'=w:=Option.some.inj (ho'.symm.trans h);subst this;have h2:=c e q p;rw[b,getD_both (f.tail (t-1) (by omega) (by omega))] at h2
    cases h2
theorem Zkf {n i:Nat}{A:Oper}{v:Value}{L:Array Bool->Act->Prop}{l0:Array Bool}(hi:ops[i]?=some A)(s:∀(j:Nat)(o:Oper) cs b,ops[j]?=some o->o.op≠.select cs b)
 (R:Zzj md ops n l0=true) (T:Ycx md ops n=true) (Q:n<ops.size) (F:i<n) (w:∀c a,L c a->∀j∈Ybi md ops c,n<=j) :
 ∀(f:Nat)(c:Array Bool)(a:Act),HeadInv md ops n c->(∀i,l0.getD i false=true->c.getD i false=true) ->
  (∀j z,ops[j]?=some z->j≠i->c.getD j true=false->(∀e∈z.after,Yb1 md e=true->e.on≠i)->A.apart ops z=true) ->
  i∈Ybi md ops c->YieldsIn P ops C A v a ->
  Zej P md ops C n L f (c.setIfInBounds i true) (a.put A.dst v)->Zej P md ops C n L (f+1) c a:=by
 intro f
 induction f with
 | zero =>
  intro c a p g _ t J H;have q:=(mem_ready.1 t).1;refine⟨λ h=>(by rw[h] at t;cases t),λ j x=>?_⟩;have r:j<n:=Ycr λ h=>absurd x (Zjb R T Q p g _ i rfl F q j h)
  refine⟨r,?_⟩;by_cases d:j=i
  .subst d;exact J.qOp hi H
  .exact absurd (w _ _ H j (ready_mono x d)) (by omega)
 | succ f ih =>
  intro c a p g l t J H;have q:=(mem_ready.1 t).1;refine⟨λ h=>(by rw[h] at t;cases t),λ j x=>?_⟩;have r:j<n:=Ycr λ h=>absurd x (Zjb R T Q p g _ i rfl F q j h)
  refine⟨r,?_⟩;by_cases d:j=i
  .subst d;exact J.qOp hi H
  .have h1:=(H.2 j (ready_mono x d)).2
   obtain⟨u,z,y,G⟩:=mem_ready.1 x;have E:∀e∈z.after,Yb1 md e=true->e.on≠i:=λ e V U N=>by
    have h1:=G e V U;rw[N,getD_both q] at h1
    cases h1
   have h2:=qOp_put y (l j z y d u E) (λ cs b=>s i A cs b hi) (λ cs b=>s j z cs b y) J h1;have m:∀k ok,ops[k]?=some ok->k≠i->(c.setIfInBounds j true).getD k true=false ->
    (∀e∈ok.after,Yb1 md e=true->e.on≠i)->A.apart ops ok=true:=λ k ok K O B M=>by
    refine l k ok K O ?_ M;by_cases D:j=k
    .subst D;exact u
    .rw[getD_set_ne true D] at B;exact B
   refine qOp_mono (λ W h3=>ih (c.setIfInBounds j true) W (p.set x r) (λ k K=>getD_set_true (g k K)) m (ready_mono t (Ne.symm d)) h3.1 ?_) h2;rw[Ydo _ _ d];exact h3.2
def Zvo (md:Yc2)(ops:Array Oper)(n g:Nat):List Nat->Array Bool->Bool
 | [],listed=>Region.seqB md ops g n listed
 | k::js,listed=>decide (k<n) && (Ybi md ops listed).contains k && Region.free md ops listed k && Zvo md ops n g js (listed.setIfInBounds k true)
theorem Zhr {n g:Nat}{m:Act->Prop}{l0:Array Bool}(d:Yde ops=true)(s:Zzj md ops n l0=true)(t:Ycx md ops n=true)(r:n<ops.size) :
 ∀(f:List Nat)(b:Array Bool)(a:Act),HeadInv md ops n b->(∀i,l0.getD i false=true->b.getD i false=true) ->
 Zvo md ops n g f b=true->wpQuiet P ops C m (f.filterMap λ j=>ops[j]?) a ->
 Zej P md ops C n (λ c u=>Region.seqB md ops g n c=true/\m u) f.length b a
 | [],b,a,_,_,hB,h=>⟨by simpa[Zvo] using hB,by simpa[wpQuiet] using h⟩
 | k::f,b,a,inv,hsub,hB,h=>by
  simp only[Zvo,Yu,decide_eq_true_eq] at hB;obtain⟨⟨⟨l,w⟩,hf⟩,p⟩:=hB;have e:k∈Ybi md ops b:=by simpa using w
  obtain⟨_,o,h0,_⟩:=mem_ready.1 e;rw[Ydf,h0] at h;have q:qOp P ops C k (wpQuiet P ops C m (f.filterMap λ j=>ops[j]?)) a:=by unfold qOp;simp only[h0];exact h
  obtain⟨v,y,x⟩:=yieldsIn_of_qOp h0 q;exact Zkf h0 (Ydr d) s t r l (λ c u hL=>seqB_ready hL.1) f.length b a inv hsub (Region.free_spec h0 hf) e y
   (Zhr d s t r f _ _ (inv.set e l) (λ i hi=>getD_set_true (hsub i hi)) p x)
def Zs3 (md:Yc2)(ops:Array Oper)(n g:Nat):Nat->List Nat->Array Bool->Bool
 | 0,js,listed=>Zzj md ops n listed && Zvo md ops n g js listed
 | p+1,k::js,listed=>decide (k<n) && ((ops[k]?).map Z1d).getD false && (Ybi md ops listed).contains k && Region.free md ops listed k && Zs3 md ops n g p js (listed.setIfInBounds k true)
 | _+1,[],_=>false
theorem Zs4 {o:Oper}{a:Act}{v:Value}{x:Operand}(w:World)(c:C w)(b:o.op=.move x)(h:∀w,C w->o.quietAt P a C w v):v=a.eval x:=by
 have h1:=h w c;unfold Oper.quietAt at h1;rw[BigFrame.run_move x b] at h1;exact h1.2.symm
theorem Zk1 {n g:Nat}{Q:Exit->Act->World->Prop}{l:List Oper}(m:ops=l.toArray)(hg:g=ops.size-n)(i:Yde ops=true)(G:Ycx md ops n=true)(F:n<ops.size)
 (J:∀d c a v w,Q (.panic c) (a.put (some d) v) w->Q (.panic c) a w) :
 ∀(p:Nat)(r:List Nat)(b:Array Bool)(a:Act)(w:World),C w->HeadInv md ops n b->Zs3 md ops n g p r b=true ->
 wpQuiet P ops C (λ t=>∀w',C w'->wpList P ops Q (l.drop n) t w') (r.filterMap λ j=>ops[j]?) a->wpAny P md ops Q (r.length+g) b a w
 | 0,r,b,a,w,hw,inv,hB,h=>by
  simp only[Zs3,Yu] at hB;have u:(l.drop n).length=g:=by subst m hg;simp
  refine Zdq (g:=g) (λ b t w' B hL=>?_) _ _ _ _ hw (Zhr (g:=g) i hB.1 G F r b a inv (λ _ h=>h) hB.2 h);have h3:=wpAny_of_seq (md:=md) (Q':=Q) (l.drop n) n b t w' (λ j=>by subst m;simp[Ybx]) (by rw[u];exact hL.1) (hL.2 w' B)
  rwa[u] at h3
 | p+1,[],_,_,_,_,_,hB,_=>by simp[Zs3] at hB
 | p+1,k::r,b,a,w,hw,inv,hB,h=>by
  simp only[Zs3,Yu,decide_eq_true_eq] at hB;obtain⟨⟨⟨⟨E,f⟩,H⟩,hf⟩,D⟩:=hB;have s:k∈Ybi md ops b:=by simpa using H
  obtain⟨_,o,h0,_⟩:=mem_ready.1 s;rw[Ydf,h0] at h;rw[h0] at f;simp only[Option.map_some,Option.getD_some,Z1d,Yu,Option.isNone_iff_eq_none] at f;obtain⟨z,f⟩:=f;have q:Yan o (yielded ops a.tmps)=true:=by simp[Yan,z]
  cases hx:o.op <;> rw[hx] at f <;> try cases f
  rename_i x
  simp only[wpQuiet,q,if_true] at h;obtain⟨v,K,M⟩:=h;have A:=Zs4 w hw hx K;subst A;have N:Yields P ops o (a.eval x) a:=.inl ⟨q,λ w=>BigFrame.run_move x hx w⟩;have e:(k::r).length+g=(r.length+g)+1:=by simp;omega
  rw[e];refine wpAny_take h0 i hf H ?_ N (Zk1 m hg i G F J p r _ _ w hw (inv.set s E) D M);intro c t w' y
  cases hd:o.dst with
  | none=>rw[hd] at y;exact y
  | some d=>rw[hd] at y;exact J d c t _ w' y
end
theorem Za5 {P:Program}{id:Nat}{Q:Exit->Act->World->Prop}{a:Act}{w:World}{l:List Oper}(n p:Nat)(i:List Nat)(hm:P.follows .mixedOrders=true)
 (k:(Yde l.toArray && decide (n<l.toArray.size) && Ycx .any l.toArray n && decide (i.length=n) && Zs3 .any l.toArray n (l.toArray.size-n) p i (Yb3 l.toArray.size false))=true)
 (y:∀d c a v w,Q (.panic c) (a.put (some d) v) w->Q (.panic c) a w)
 (h:wpQuiet P l.toArray (λ w'=>∃x:Ext w,w'=x.val) (λ u=>∀w',(∃x:Ext w,w'=x.val)->wpList P l.toArray Q (l.drop n) u w') (i.filterMap λ j=>l[j]?) a):(Code.region id l.toArray true).wp P Q a w:=by
 simp only[Yu,decide_eq_true_eq] at k;obtain⟨⟨⟨⟨f,o⟩,s⟩,r⟩,b⟩:=k;have g:HeadInv .any l.toArray n (Yb3 l.toArray.size false) :=
  ⟨by simp,λ j oj _ m=>(by rw[getD_replicate_false] at m;cases m),λ t _ q=>getD_in (by simpa using q) (getD_replicate_false _ _)⟩
 refine wp_region_any hm ?_;have h2:=Zk1 (C:=λ w'=>∃x:Ext w,w'=x.val) (Q:=Q) rfl rfl f s o y p i _ a { w with drawn:=w.drawn+1 } ⟨⟨_,Zh6 w⟩,rfl⟩ g b (by simpa using h);have e:i.length+(l.toArray.size-n)=l.toArray.size:=by omega
 rw[e] at h2;exact h2
theorem Zf7 {P:Program}{ops:Array Oper}{C:World->Prop}{Q:Act->Prop}{a:Act}{l:List Oper}{j:Nat}{b:List Nat}{o:Oper}(h:l[j]?=some o)
 (c:wpQuiet P ops C Q (o::b.filterMap λ j=>l[j]?) a):wpQuiet P ops C Q ((j::b).filterMap λ j=>l[j]?) a:=by
 rw[Ydf,h];exact c
end
theorem Zmb:Maps.Keyed prog 9:=Maps.string_keyed underlying9
theorem Zn8 (w:World):(zeroValue 3).run prog w=.ok (.int .i64 0) w:=by kernel_rfl
abbrev Zyk (s:ByteArray):Lit:=.string s.data.toList
theorem Zzk {a b:ByteArray}(h:Zyk a=Zyk b):a=b:=by
 simp only[Zyk,Lit.string.injEq] at h;exact WideShapes.bytes_inj h
theorem Zqa (s:ByteArray):WideAt.IsKeyLit (Zyk s):=by first|trivial|simp[WideAt.IsKeyLit,Zyk]
def MapS (w:World)(m n:Nat)(f:ByteArray->Option Int):Prop :=
 ∃D:DataW Unit,w.ownsMap prog 9 (plainElem prog 3) m (Maps.size D) D/\Maps.Tidy D/\Maps.size D<=n /\
  ∀s,Maps.has D (Zyk s)=(f s).isSome/\D.atKey (Zyk s) (.lit (.int .i64 0))=.lit (.int .i64 ((f s).getD 0))
theorem Zmc {w:World}{m n:Nat}{D:DataW Unit}(h:w.ownsMap prog 9 (plainElem prog 3) m n D):w.ownsMap prog 9 (plainElem prog 3) m (Maps.size D) D:=by
 obtain⟨c,a,b,F,hs,rfl⟩:=h;refine⟨c,a,b,F,?_,rfl⟩;rw[Maps.size_eq,length_sorted];simp
theorem MapS.made (w:World):MapS (w.alloc (.map #[] 0)) w.heap.size 0 (λ _=>none) :=
 ⟨.map [],World.ownsMap_made w _ _ _,Maps.tidy_empty,Yb _,λ s=>⟨rfl,rfl⟩⟩
theorem MapS.lt {w:World}{m n:Nat}{f:ByteArray->Option Int}(h:MapS w m n f):m<w.heap.size:=by
 obtain⟨D,h1,_⟩:=h;exact h1.lt
theorem MapS.kept {w w':World}{m n:Nat}{f:ByteArray->Option Int}{row:Option Nat}(h:MapS w m n f)(hg:w.grownBy w' row)(a:some m≠row):MapS w' m n f:=by
 obtain⟨D,h1,h2⟩:=h;exact⟨D,h1.kept hg a,h2⟩
theorem MapS.below {w w':World}{m n:Nat}{f:ByteArray->Option Int}(h:MapS w m n f)(a:Below w.heap.size w w'):MapS w' m n f :=
 h.kept (row:=none) ⟨a.os,a.tape,a.output,a.size,λ k b _=>a.block k b⟩ (by simp)
theorem MapS.mono {w:World}{m n n':Nat}{f:ByteArray->Option Int}(h:MapS w m n f)(b:n<=n'):MapS w m n' f:=by
 obtain⟨D,h1,h2,h3,a⟩:=h;exact⟨D,h1,h2,Nat.le_trans h3 b,a⟩
theorem MapS.look {w:World}{m n:Nat}{f:ByteArray->Option Int}(h:MapS w m n f){s:ByteArray}(e:s.size<=maxLen) :
 (Instr.lookup 207 (.map (some m)) (.string s) false).run prog w=.ok (.int .i64 ((f s).getD 0)) w:=by
 obtain⟨D,h1,_,_,d⟩:=h;obtain⟨c,b,a,_⟩:=h1.lookup_int Zmb underlying207 underlying3 (Zn8 w) (WideMaps.keyOf_string_mk underlying9 e);rw[(d s).2] at a;simp only[DataW.lit.injEq,Lit.int.injEq,true_and] at a;rw[b,a]
theorem MapS.lookOk {w:World}{m n:Nat}{f:ByteArray->Option Int}(h:MapS w m n f){s:ByteArray}(e:s.size<=maxLen) :
 (Instr.lookup 207 (.map (some m)) (.string s) true).run prog w=.ok (.tuple #[.int .i64 ((f s).getD 0),.bool (f s).isSome]) w:=by
 obtain⟨D,h1,_,_,d⟩:=h;obtain⟨v,ps,b,g⟩:=h1.look_ok Zmb underlying207 (Zn8 w) (zd:=.lit (.int .i64 0)) (zp:=[]) (plainElem_int underlying3 (by decide)) (WideMaps.keyOf_string_mk underlying9 e);obtain⟨c,rfl,i,_⟩:=plainElem_int_inv underlying3 g;have a:=congrArg Prod.fst i;simp only[(d s).2] at a;simp only[DataW.lit.injEq,Lit.int.injEq,true_and] at a;rw[b,(d s).1,a]
theorem Zf8 {ops:Array Oper}{rest:List Oper}{o:Oper}{a:Act}{Q:Exit->Act->World->Prop}{w:World}(hg:o.guard=none)(b x v:Operand)(d:o.op=Op.mapUpdate 207 b x v)
 (m n:Nat) (f:ByteArray->Option Int) (hm:a.eval b=.map (some m)) (h:MapS w m n f) (hn:n<1152921504606846976) (s:ByteArray) (q:Int) (r:a.eval x=.string s) (k:a.eval v=.int .i64 q) (j:s.size<=maxLen) (i:(Lit.int .i64 q).wf=true)
 (p:∀w',MapS w' m (if (f s).isSome then n else n+1) (λ t=>if t=s then some q else f t)->w.grownBy w' (some m)->wpList prog ops Q rest (a.put o.dst undef) w'):wpList prog ops Q (o::rest) a w:=by
 obtain⟨D,h1,h2,h3,g⟩:=h;refine wpList_mapUpdate_own w hg b x v _ d _ _ Zmb underlying207 (plainElem prog 3) m _ D hm h1 (by simp only[maxLen];omega) _ _ (Zyk s) r k (WideMaps.keyOf_string_mk underlying9 j) (.lit (.int .i64 q)) [] (plainElem_int underlying3 i) ?_;intro w' l c;refine p w' ⟨_,Zmc l,h2.put (Zqa s) _,?_,λ t=>?_⟩ c
 .rw[Maps.size_put h2,(g s).1]
  split <;> simp_all
 .by_cases e:t=s
  .subst e
   simp only[if_pos rfl];exact⟨Maps.has_put_same h2.isMap (Zqa _) _,Maps.atKey_put_same h2.isMap (Zqa _) _ _⟩
  .have hne:Zyk t≠Zyk s:=λ h=>e (Zzk h)
   simp only[if_neg e];rw[Maps.has_put_other hne,Maps.atKey_put_other hne];exact g t
theorem Zcn {w w1:World}(h:∃x:Ext w,w1=x.val):Below w.heap.size w w1:=by
 obtain⟨x,rfl⟩:=h;exact x.property
theorem Zh7 (n:Int)(w:World) :
 Calls prog 194 #[.int .i64 n] w λ e w'=>e=.returned (.int .i64 (form n))/\w=w':=by
 go_enter func194,ntmps194
 go_wp2
 all_goals
  go_ret
  exact⟨Z0 (by grind [form]),rfl⟩
theorem Zqb (f:Int)(w:World) :
 Calls prog 193 #[.int .i64 f] w λ e w'=>e=.returned (.tuple #[.bool (hasD f),.bool (hasA f),.bool (hasB f),.int .i64 (bitsOf f)])/\w=w':=by
 go_enter func193,ntmps193
 go_wp2
 all_goals
  refine bodyPost_ret (Znc rfl _ _ _) rfl ?_;refine⟨?_,rfl⟩;simp only[hasD,hasA,hasB,bitsOf];simp
  grind
theorem Zk2 (n:Int)(w:World) :
 Calls prog 244 #[.int .i64 n] w λ e w'=>e=.returned (.tuple #[.int .i64 (least n),.int .i64 (most n)])/\w=w':=by
 go_enter func244,ntmps244
 go_wp2_with (go_at_call 194;refine(Zh7 _ _).mono ?_;rintro e w' ⟨rfl,rfl⟩)
 all_goals
  go_ret2
  refine⟨?_,rfl⟩;simp
  grind [least,most]
theorem Zs5 (n:Int)(w:World) :
 Calls prog 196 #[.int .i64 n] w λ e w'=>e=.returned (.bool (decide (least n<0)))/\w=w':=by
 go_enter func196,ntmps196
 go_wp2_with (go_at_call 244;refine(Zk2 _ _).mono ?_;rintro e w' ⟨rfl,rfl⟩)
 all_goals
  go_ret
  exact⟨Zk rfl,rfl⟩
theorem Zn9 (a:Bool)(n:Int)(w:World) :
 Calls prog 270 #[.bool a,.int .i64 n] w λ e w'=>e=.returned (.bool (reg a n))/\w=w':=by
 cases a
 all_goals
  go_enter func270,ntmps270
  go_wp2
  all_goals
   go_ret
   exact⟨Zk (by grind [reg]),rfl⟩
theorem asm_Turned (n:Int) (w:World) :
    Calls prog 241 #[.int .i64 n] w λ e w'=>e=.returned (.int .i64 (turned n))/\w=w':=by
  go_enter func241,ntmps241
  go_wp2
  all_goals
    go_ret
    exact⟨Z0 (by grind [turned]),rfl⟩
theorem Zco (op d a b imm:Int)(w:World) :
 Calls prog 245 #[.agg #[.int .i64 op,.int .i64 d,.int .i64 a,.int .i64 b,.int .i64 imm]] w
  λ e w'=>e=.returned (.int .i64 (chk ⟨op,d,a,b,imm⟩))/\Below w.heap.size w w':=by
 go_enter func245,ntmps245
 go_wp2_with (first
  | (go_at_call 194;refine(Zh7 _ _).mono ?_;rintro e w' ⟨rfl,rfl⟩)
  | (go_at_call 193;refine(Zqb _ _).mono ?_;rintro e w' ⟨rfl,rfl⟩)
  | (go_at_call 244;refine(Zk2 _ _).mono ?_;rintro e w' ⟨rfl,rfl⟩)
  | (go_at_call 270;refine(Zn9 _ _ _).mono ?_;rintro e w' ⟨rfl,rfl⟩))
 all_goals
  go_ret
  exact⟨Z0 (by grind [good,chk]),(Yh _ _).alloc (Yb _) _⟩
theorem Zs6 (op d a b imm:Int)(w:World)(hg:good ⟨op,d,a,b,imm⟩=true) :
 Calls prog 197 #[.agg #[.int .i64 op,.int .i64 d,.int .i64 a,.int .i64 b,.int .i64 imm]] w
  λ e w'=>e=.returned (.tuple #[.int .u32 (enc ⟨op,d,a,b,imm⟩),.int .i64 0])/\Below w.heap.size w w':=by
 have hc:chk ⟨op,d,a,b,imm⟩=0:=by simp[chk,hg]
 obtain⟨c,f,d1,d2,l,k,b1,b2,t⟩:=Zfs hg;clear hg;rcases t with⟨h,j,hA,g,i,i1,i2⟩|⟨h,j,hA,g,i,i1,i2⟩|⟨h,j,hA,g,i,i1,i2⟩|⟨h,j,hA,g,i,i1,i2⟩|⟨h,j,hA,g,i,i1,i2⟩|⟨h,j,hA,g,i,i1,i2⟩|⟨h,j,hA,g,i,i1,i2⟩
 all_goals
  have H:=Lib.hid h;clear h;go_enter func197,ntmps197
  go_wp2_with (first
   | (go_at_call 245;refine(Zco _ _ _ _ _ _).mono ?_;rintro e w' ⟨rfl,m⟩;obtain⟨o,r⟩:=Zih m;have s:=m.size;simp at s)
   | (go_at_call 194;refine(Zh7 _ _).mono ?_;rintro e w' ⟨rfl,rfl⟩)
   | (go_at_call 193;refine(Zqb _ _).mono ?_;rintro e w' ⟨rfl,rfl⟩))
  refine wp_loop_rounds 4 ?_;rw[rounds_succ]
  go_wp2
  rw[rounds_succ]
  go_wp2
  rw[rounds_succ]
  go_wp2
  rw[rounds_succ]
  go_wp2
  refine Ztz (λ n=>n.cell? ⟨w.heap.size,4,none⟩=some (.int .i64 imm)/\Below w.heap.size w n) ⟨?_,?_⟩ ?_
  .have q:w'.cell? ⟨w.heap.size,4,none⟩=some (.int .i64 imm):=by rw[o _ _ (by simp)];go_simp
   refine(Below.cell (B:=w'.heap.size) (w:=w') ?_ ?_).trans q
   .exact((((Yh _ _).alloc (by simp) _).alloc (by simp) _).alloc (by simp;omega) _).alloc (by simp;omega) _
   .simp;omega
  .have h0:Below w.heap.size w w':=((Yh _ _).alloc (Yb _) _).trans (m.mono (by simp))
   exact(((h0.alloc (by omega) _).alloc (by simp;omega) _).alloc (by simp;omega) _).alloc (by simp;omega) _
  rintro n ⟨q,p⟩
  go_quiet (fail)
  go_wp2
  go_ret2
  refine⟨Zym ?_ rfl,below_drewN p _⟩
  first
   | (with_reducible exact Z6s c f d1 d2 l k b1 b2 i1 i2 H.out)
   | (with_reducible exact Z6t c f d1 d2 l k i1 i2 H.out)
   | (with_reducible exact Z6u c f d1 d2 i1 i2 H.out)
   | (with_reducible exact Z6v c f l k b1 b2 i1 i2 H.out)
   | (with_reducible exact Z6w c f d1 d2 i1 i2 H.out)
   | (with_reducible exact Z6x c f d1 d2 i1 i2 H.out)
   | (with_reducible exact Z6y c f l k i1 i2 H.out)
theorem Zvp {x:Inst}(h:good x=false):chk x=11:=by simp[chk,h]
theorem Zs7 {x:Inst}(h:good x=false):wordOf x=0:=by simp[wordOf,h]
theorem Zmd {x:Inst}(h:good x=true):chk x=0:=by simp[chk,h]
theorem Zfo {x:Inst}(h:good x=true):wordOf x=enc x:=by simp[wordOf,h]
theorem Zff (op d a b imm:Int)(w:World) :
 Calls prog 197 #[.agg #[.int .i64 op,.int .i64 d,.int .i64 a,.int .i64 b,.int .i64 imm]] w
  λ e w'=>e=.returned (.tuple #[.int .u32 (wordOf ⟨op,d,a,b,imm⟩),.int .i64 (chk ⟨op,d,a,b,imm⟩)])/\Below w.heap.size w w':=by
 cases hg:good ⟨op,d,a,b,imm⟩
 .have hc:=Zvp hg
  have g:=Zs7 hg;rw[g];clear hg g;go_enter func197,ntmps197
  go_wp2_with (go_at_call 245;refine(Zco _ _ _ _ _ _).mono ?_;rintro e w' ⟨rfl,c⟩)
  go_ret2
  exact⟨by simp[hc],((Yh _ _).alloc (Yb _) _).trans (c.mono (by simp))⟩
 .rw[Zmd hg,Zfo hg]
  exact Zs6 op d a b imm w hg
theorem asm_word (op d a b imm:Int) (w:World) :
    Calls prog 240 #[.agg #[.int .i64 op,.int .i64 d,.int .i64 a,.int .i64 b,.int .i64 imm]] w
      λ e w'=>e=.returned (.int .u32 (wordOf ⟨op,d,a,b,imm⟩))/\Below w.heap.size w w':=by
  go_enter func240,ntmps240
  go_wp2_with (go_at_call 197;refine(Zff _ _ _ _ _ _).mono ?_;rintro e w' ⟨rfl,c⟩)
  go_ret
  exact⟨rfl,((Yh _ _).alloc (Yb _) _).trans (c.mono (by simp))⟩
