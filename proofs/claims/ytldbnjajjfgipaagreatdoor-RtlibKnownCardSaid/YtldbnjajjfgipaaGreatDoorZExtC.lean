/- Parts. -/
import Derived.Test.YtldbnjajjfgipaaGreatDoorZNWs
set_option linter.all false
open List renaming length_append->Yc,getD_eq_getElem?_getD->Yh,length_cons->Yk,mem_cons_self->Y4,mem_cons_of_mem->Y5,length_take->Y9,nil_append->Yag,all_eq_true->Yau,take_append_drop->Ya5,any_eq_true->Ybf,map_cons->Ybt,range->Yb2,mem_range->Ycd
open Bool renaming and_eq_true->Yq,or_eq_true->Ybp
open Go.Region renaming ready->Yap,waitsFor->Yba,binds->Ybh,Mode->Ybu,waitsFor_spec->Yb1,noSelect->Yb6
open Int renaming le_refl->Ya0,pow_pos->Ycs,le_of_lt->Ycw,add_zero->Ydr
namespace Go.Proofs.YtldbnjajjfgipaaGreatDoor
open S Go.RowKit
theorem Zzx {env:List Int}(h:(env.length:Int)=1):∃a,env=[a]:=by
 match env,h with
 | [a],_=>exact⟨a,rfl⟩
 | [],h=>simp at h
 | _::_::_,h=>simp only[Yk] at h;omega
def S.b6 (st:Vw)(m:Int):Vw:={ st with mem:=λ a=>if a=8 then(if 6<m then 8 else m+1) else if a=6 then 0 else if a=16 then st.reg 1 else if a=23 then st.reg 10 else if 17<=a/\a<=22 then st.reg (a-13) else st.mem a }
namespace S
def bSp (n:Int):Item:=⟨8,⟨0,0,0,0,0⟩,bNo,n⟩
def bHalt:Item:=bI 36 0 0 0 0
def hItems (gw sw:List Int):List Item:=bSp 1312::(gw.map bW++(bL kStatic::(sw.map bW++[bL kCode,bL kStub,bHalt,bL kMapped,bW 0,bHalt])))
def tItems:List Item:=[bL kMore,bSp 8,bL kEnd]
def oHead (gw sw:List Int):Obj:=⟨kHead,hItems gw sw⟩
def oTail:Obj:=⟨kTail,tItems⟩
def nodupB:List ByteArray->Bool
 | []=>true
 | x::r=>!(r.any λ y=>decide (x=y)) && nodupB r
def subB (a b:List ByteArray):Bool:=a.all λ s=>b.any λ t=>decide (s=t)
def hTells:List ByteArray:=[kStatic,kCode,kStub,kMapped]
def Z0h:List ByteArray:=[kMore,kEnd]
end S
theorem Zjv:∀{l:List ByteArray},S.nodupB l=true->l.Nodup
 | [],_=>List.nodup_nil
 | x::r,h=>by
  rw[S.nodupB,Yq] at h;refine List.nodup_cons.2 ⟨λ a=>?_,Zjv h.2⟩;have:(r.any λ y=>decide (x=y))=true:=Ybf.2 ⟨x,a,decide_eq_true rfl⟩;rw[this] at h;exact absurd h.1 (by decide)
theorem Z0i {a b:List ByteArray}(h:S.subB a b=true):∀s∈a,s∈b:=λ s d=>by
 obtain⟨t,c,e⟩:=Ybf.1 (Yau.1 h s d);rw[of_decide_eq_true e];exact c
theorem Zem (a b:List S.Obj):joined (a++b)=joined a++joined b:=List.flatMap_append
theorem Zn5 (l:List Int):tells (l.map S.bW)=[]/\names (l.map S.bW)=[]/\bulk (l.map S.bW)=4*l.length/\allChk (l.map S.bW):=by
 induction l with
 | nil=>exact⟨rfl,rfl,rfl,Zjd⟩
 | cons x r ih =>
  obtain⟨a,d,c,e⟩:=ih;refine⟨?_,?_,?_,Z1 (by simp[chkItem,S.bW]) e⟩
  .rw[Ybt,tells,if_neg (show ¬(S.bW x).kind=2 from(by decide:¬(6:Int)=2)),a]
  .rw[Ybt,names,if_neg (show ¬named (S.bW x)=true from by simp[named,S.bW]),d]
  .rw[Ybt,bulk,if_neg (show ¬(S.bW x).kind=8 from(by decide:¬(6:Int)=8)),c,Yk];omega
theorem Zfq (gw sw:List Int):tells (S.hItems gw sw)=S.hTells/\names (S.hItems gw sw)=[]/\bulk (S.hItems gw sw)=1312+4*gw.length+4*sw.length+28/\allChk (S.hItems gw sw):=by
 obtain⟨g,c,d,h⟩:=Zn5 gw;obtain⟨a,f,e,i⟩:=Zn5 sw;unfold S.hItems;refine⟨?_,?_,?_,?_⟩
 .rw[tells,if_neg (by decide),Zaq,g,Yag,tells,if_pos (by decide),Zaq,a,Yag]
  rfl
 .rw[names,if_neg (by decide),Zbt,c,Yag,names,if_neg (by decide),Zbt,f,Yag]
  rfl
 .rw[bulk,if_pos (by decide),Zbq,d,bulk,if_neg (by decide),Zbq,e]
  have:bulk [S.bL S.kCode,S.bL S.kStub,S.bHalt,S.bL S.kMapped,S.bW 0,S.bHalt]=24:=by decide
  rw[this]
  show(1312:Int)+_=_
  omega
 .have hh:chkItem S.bHalt=0:=Z1j (Ztg (.inr rfl) (by decide))
  exact Z1 (by simp[chkItem,S.bSp]) (Zbc h (Z1 (Zjf _) (Zbc i (Z1 (Zjf _) (Z1 (Zjf _) (Z1 hh (Z1 (Zjf _) (Z1 (by simp[chkItem,S.bW]) (Zje hh)))))))))
theorem Zbe (gw sw:List Int):(S.hItems gw sw).length=gw.length+sw.length+8:=by
 unfold S.hItems;simp;omega
section
theorem Z2x {env:List Int}(h:(env.length:Int)=3):∃a b c,env=[a,b,c]:=by
 match env,h with
 | [a,b,c],_=>exact⟨a,b,c,rfl⟩
 | [],h=>simp at h
 | [_],h=>simp at h
 | [_,_],h=>simp at h
 | _::_::_::_::_,h=>simp only[Yk] at h;omega
theorem Zk3 {env:List Int}(h:(env.length:Int)=1):∃a,env=[a]:=by
 match env,h with
 | [a],_=>exact⟨a,rfl⟩
 | [],h=>simp at h
 | _::_::_,h=>simp only[Yk] at h;omega
section
variable {I:Img}{dep lk:Int}{env:List Int}{st:Vw}
theorem Zrg {e:BE}{p:Int}{K:Nat}(h:Yl I dep lk env st e (4*p+1) K):Yl I dep lk env st (eAdr e) p (K+3):=by
 refine(Zc8 (by decide) h (Za7 2)).to_ ?_ (by omega);rw[Z2d];omega
end
end
theorem Ze9 (x:List Int)(j:Nat):x.tail.getD j 0=x.getD (j+1) 0:=by
 cases x with
 | nil=>rfl
 | cons d r=>rfl
namespace S
def Top (ds:List Int)(n:Nat):Prop:=n<=ds.length/\(∀j,n<=j->ds.getD j 0=0)/\(n=0\/ds.getD (n-1) 0≠0)
end S
theorem Zrh {a:List Int}{n i:Nat}(h:i<n):(a.take n).getD i 0=a.getD i 0:=by
 rw[Yh,List.getElem?_take_of_lt h,<- Yh]
theorem Zri {a:List Int}(n i:Nat):(a.drop n).getD i 0=a.getD (n+i) 0:=by
 rw[Yh,List.getElem?_drop,<- Yh]
theorem S.Real.mono {I:Img}{name:ByteArray}{b:Bool}{st:Vw}{d:Int}{R a:Int->BO->Nat->Prop}(h:Real I name b st d R)(hm:∀ret o k,R ret o k->a ret o k):Real I name b st d a:=λ V top ret m e i j g f c=>by
 obtain⟨o,k,l,hd⟩:=h V top ret m e i j g f c;exact⟨o,k,hm _ _ _ l,hd⟩
def S.aj (I:Img)(name:ByteArray)(behind:Bool)(st:Vw)(d ret:Int)(R:BO->Nat->Prop):Prop :=
 ∀V top,Mt I V st->V.reg 28=top->V.reg 31=ret->0<=ret->ret<I.size->I.lo<=top->top+d<=I.hi->∃o k,R o k/\Done I V (I.lab name) k top ret behind o
theorem Zya {I:Img}(p:I.Ok)(r:BR)(hc:chkB r=0){i:Nat}(t:Seg I r.name i (bItems r)){dep:Int}(G:0<=dep)(st:Vw)(ret:Int)(R:BO->Nat->Prop)
 (hw:∀(env:List Int),(env.length:Int)=r.locals->(∀k:Nat,(k:Int)<r.params->env.getD k 0=st.reg (4+k)) ->
  wpSs I dep ret r.behind r.body env st (r.params.toNat+2) (λ _ u D=>R (.ret u) (D+(if r.behind=true then 5 else 3))) R) :
 aj I r.name r.behind st (r.locals+15+dep) ret R:=by
 obtain⟨hn,p0,p4,pL,F,x⟩:=Zb1 hc;intro V top l w L r0 r1 O a6;have K:Cx I r.locals dep ret top:=⟨p,O,by omega,G,by omega,F,r0,r1⟩
 have q1:=p.lo0;have q2:=p.hisz;have q3:=p.size2;have Z:frameB r=r.locals+15:=by unfold frameB;rw[if_neg (by simp[hc])]
 obtain⟨c,H⟩:=Yx r.params.toNat;unfold bItems bHead at t;rw[Z,<- H] at t;have f:Seg I r.name i ([S.bL r.name,S.bI 25 0 28 31 0]:List S.Item):=t.left.left.left.left;have a2:Seg I r.name (i+2) (bParams c):=t.left.left.left.right;have s:Seg I r.name (i+2+c) [S.bI 15 28 28 0 (r.locals+15)]:=by
  have h:=t.left.left.right;rw[Yc,Zam] at h;have e:i+(([S.bL r.name,S.bI 25 0 28 31 0]:List S.Item).length+c)=i+2+c:=by simp;omega
  rw[e] at h;exact h
 have Y:Seg I r.name (i+2+c+1) (bStmts (r.locals+15) r.locals r.behind r.body 0).1:=by
  have h:=t.left.right;rw[Yc,Yc,Zam] at h;have e:i+(([S.bL r.name,S.bI 25 0 28 31 0]:List S.Item).length+c+([S.bI 15 28 28 0 (r.locals+15)]:List S.Item).length)=i+2+c+1:=by simp;omega
  rw[e] at h;exact h
 have N:Seg I r.name (i+2+c+1+(bStmts (r.locals+15) r.locals r.behind r.body 0).1.length) (bBack (r.locals+15) r.behind):=by
  have h:=t.right;rw[Yc,Yc,Yc,Zam] at h;have e:i+(([S.bL r.name,S.bI 25 0 28 31 0]:List S.Item).length+c+([S.bI 15 28 28 0 (r.locals+15)]:List S.Item).length+(bStmts (r.locals+15) r.locals r.behind r.body 0).1.length)=i+2+c+1+(bStmts (r.locals+15) r.locals r.behind r.body 0).1.length:=by simp;omega
  rw[e] at h;exact h
 have z:I.lab r.name=I.adr i:=by
  have:=Zi6 K f;rw[Zev _ hn] at this;exact this
 have g0:=Zdl p f.lo f.lt (V:=V) f.head;have et:top=u32m (V.reg 28+0):=by rw[w];unfold u32m;omega
 have X:¬I.code top:=by
  rintro⟨c0,c1⟩;rcases p.apart with h|h <;> omega
 have g1:=Zr3 p f.tail.lo f.tail.lt (V:=V) (a:=28) (b:=31) (n:=0) f.tail.head (by decide) (by decide) et (by omega) X;rw[L] at g1;obtain⟨g,g2,E,M,J,a3,a4⟩:=Zgn K (V:=V.sto top ret) w c (by omega) a2;have g3:=Zc6 p s.lo s.lt (V:=g) (d:=28) (a:=28) (n:=r.locals+15) s.head (by decide) (by decide) (by decide);have e3:u32m (g.reg 28+(r.locals+15))=top+r.locals+15:=by
  have:g.reg 28=top:=by rw[E];exact w
  rw[this];unfold u32m;omega
 rw[e3] at g3;have gg:S.Go I V (I.lab r.name) (c+2) (g.set 28 (top+r.locals+15)) (I.adr (i+2+c+1)):=by
  rw[z];exact(((g0.trans g1).trans g2).trans g3).more (by omega)
 have q:∀a:Int,a<top\/top+1+c<=a->(g.set 28 (top+r.locals+15)).mem a=V.mem a:=λ a W=>by
  show g.mem a=_
  rw[J a (by omega),Zy _ _ (by omega)]
 obtain⟨env,m⟩:∃env:List Int,env=(Yb2 r.locals.toNat).map λ k:Nat=>(g.set 28 (top+r.locals+15)).mem (top+1+(k:Int)):=⟨_,rfl⟩
 have U:env.length=r.locals.toNat:=by rw[m];simp
 have A:∀k:Nat,k<env.length->env.getD k 0=(g.set 28 (top+r.locals+15)).mem (top+1+(k:Int)):=λ k y=>by
  rw[m,Zd0 _ _ _ (by rw[<- U];exact y)]
 have hF:Fm I (g.set 28 (top+r.locals+15)) st top ret env []:=by
  refine⟨⟨λ j hj=>?_,λ a a0 a1 W=>?_,?_,?_⟩,?_,?_,λ k y=>(A k y).symm,λ k y=>by simp at y⟩
  .have:=Zi5 hj
   rw[Zd _ _ (by omega),E];exact l.vis j hj
  .by_cases hin:top<=a/\a<top+1+c
   .exact absurd ⟨by omega,by omega⟩ W
   .rw[q a (by omega)];exact l.mem a a0 a1 W
  .show g.inp=_;rw[a3];exact l.inp
  .show g.out=_;rw[a4];exact l.out
  .rw[Zh];omega
  .show g.mem top=ret
   rw[J top (by omega),Zb9]
 have v:∀k:Nat,(k:Int)<r.params->env.getD k 0=st.reg (4+k):=λ k y=>by
  rw[A k (by omega)]
  show g.mem (top+1+(k:Int))=_
  rw[M k (by omega)];exact l.vis _ (by unfold visB;rw[decide_eq_true_eq];omega)
 have hL:(env.length:Int)=r.locals:=by omega
 have B:Kp I top V (g.set 28 (top+r.locals+15)):=λ a a0 a1=>q a (by omega)
 have hb:=hw env hL v;rw[<- H] at hb;have h:=Zdm K (obj:=r.name) (behind:=r.behind) r.body 0 0 env _ st _ (c+2) _ _ hL x hb Y hF;rcases h with⟨a5,u,D,V',h1,T,Q,h4,h5,h6⟩|⟨o,D,h1,T,Q⟩
 .have hbk:=Znk K (obj:=r.name) (behind:=r.behind) (r:=[]) Q (by rw[List.append_nil];exact N) h5
  have hd:=Zap h4 h6 hbk (Nat.le_refl _);refine⟨.ret u,D+(if r.behind=true then 5 else 3),T,Zap gg B hd ?_⟩;omega
 .exact⟨o,D,T,Zap gg B Q (by omega)⟩
theorem Zax {I:Img}(e:I.Ok)(r:BR)(d:chkB r=0){i:Nat}(j:Seg I r.name i (bItems r)){dep:Int}(a:0<=dep)(st:Vw)(ret:Int)(R:BO->Nat->Prop)
 (h:∀(env:List Int),(env.length:Int)=r.locals->(∀k:Nat,(k:Int)<r.params->env.getD k 0=st.reg (4+k))->WS I dep ret r.behind r.body env st 8 (λ _ c f=>R (.ret c) (f+(if r.behind=true then 5 else 3))) R) :
 aj I r.name r.behind st (r.locals+15+dep) ret R:=by
 have p4:=(Zb1 d).2.2.1;exact Zya e r d j a st ret R λ env g hp=>h env g hp st _ (.refl st) (by omega)
section
namespace S
def dvB (b:Int):List Int->Int
 | []=>0
 | d::r=>d+b*dvB b r
def DgB (b:Int)(l:List Int):Prop:=∀d∈l,0<=d/\d<b
def Cn (b:Int)(l:List Int)(n:Int):Prop:=DgB b l/\(l=[]\/l.getD (l.length-1) 0≠0)/\dvB b l=n
def Nz (neg:Bool)(l:List Int)(z:Int):Prop:=Cn 10 l (if z<0 then -z else z)/\neg=decide (z<0)
end S
section
variable {b:Int}
theorem Zay (a:0<=b):∀{l:List Int},S.DgB b l->0<=S.dvB b l
 | [],_=>Ya0 _
 | d::r,h=>by
  have h1:=h d Y4;have c:=Zay a (l:=r) λ x e=>h x (Y5 _ e)
  have:=Int.mul_nonneg a c;rw[S.dvB];omega
theorem Zjw:∀(x y:List Int),S.dvB b (x++y)=S.dvB b x+b^x.length*S.dvB b y
 | [],y=>by show S.dvB b y=0+b^0*S.dvB b y;simp
 | d::r,y=>by
  have h:=Zjw r y
  show d+b*S.dvB b (r++y)=d+b*S.dvB b r+b^(r.length+1)*S.dvB b y
  rw[h,Int.pow_succ];generalize b^r.length=B
  grind
theorem Zvc (x:List Int)(d:Int):S.dvB b (x++[d])=S.dvB b x+b^x.length*d:=by
 rw[Zjw]
 show _+_*(d+b*0)=_
 rw[Int.mul_zero,Ydr]
theorem Zf4:∀{l:List Int},(∀j:Nat,l.getD j 0=0)->S.dvB b l=0
 | [],_=>rfl
 | d::r,h=>by
  have h0:d=0:=h 0;have:=Zf4 (l:=r) λ j=>h (j+1)
  rw[S.dvB,this,h0];simp
theorem Ziu (a:0<b):∀{l:List Int},S.DgB b l->S.dvB b l<b^l.length
 | [],_=>by show(0:Int)<b^0;simp
 | d::r,h=>by
  have h1:=h d Y4;have h2:=Ziu a (l:=r) λ x c=>h x (Y5 _ c)
  have h3:=Int.mul_le_mul_of_nonneg_left (show S.dvB b r+1<=b^r.length by omega) (Ycw a);have e:b*(S.dvB b r+1)=b*S.dvB b r+b:=by grind
  have e2:b*b^r.length=b^(r.length+1):=by rw[Int.pow_succ,Int.mul_comm]
  rw[S.dvB,Yk];omega
theorem Zjx {l:List Int}(h:S.DgB b l)(n:Nat):S.DgB b (l.take n):=λ d hd=>h d (List.mem_of_mem_take hd)
theorem Zgz (a:0<b){l:List Int}(h:S.DgB b l)(j:Nat):0<=l.getD j 0/\l.getD j 0<b:=by
 rw[Yh]
 cases hq:l[j]? with
 | none=>exact⟨Ya0 _,a⟩
 | some x=>exact h x (List.mem_of_getElem? hq)
theorem Zvd {l:List Int}{n:Nat}(h:S.Top l n):S.dvB b (l.take n)=S.dvB b l:=by
 have e:S.dvB b l=S.dvB b (l.take n++l.drop n):=by rw[Ya5]
 rw[e,Zjw,Zf4 (l:=l.drop n) λ j=>by rw[Zri];exact h.2.1 _ (by omega),Int.mul_zero,Ydr]
theorem Z0j {l:List Int}{n:Nat}(hd:S.DgB b l)(h:S.Top l n):S.Cn b (l.take n) (S.dvB b l):=by
 have a:(l.take n).length=n:=by rw[Y9];have:=h.1;omega
 refine⟨Zjx hd n,?_,Zvd h⟩;rcases h.2.2 with e|e
 .exact .inl (by rw[e];rfl)
 .by_cases c:n=0
  .exact .inl (by rw[c];rfl)
  .exact .inr (by rw[a,Zrh (by omega)];exact e)
theorem Z0k (hb:2<=b){l:List Int}{n:Int}(h:S.Cn b l n)(c:0<l.length):b^(l.length-1)<=n:=by
 obtain⟨d,g,h3⟩:=h;have i:=g.resolve_left (λ e=>by rw[e] at c;exact absurd c (by decide));have e:l=l.take (l.length-1)++l.drop (l.length-1):=(Ya5 _ _).symm;have hd:l.drop (l.length-1)=[l.getD (l.length-1) 0]:=by
  have f:l.length-1<l.length:=by omega
  rw[List.drop_eq_getElem_cons f,List.drop_eq_nil_of_le (by omega),Yh,List.getElem?_eq_getElem f];rfl
 have a:(l.take (l.length-1)).length=l.length-1:=by rw[Y9];omega
 have h5:S.dvB b l=S.dvB b (l.take (l.length-1))+b^(l.length-1)*l.getD (l.length-1) 0:=by
  conv=>lhs;rw[e,hd,Zvc,a]
 have h6:=Zay (show 0<=b by omega) (Zjx d (l.length-1));have h7:=(Zgz (show 0<b by omega) d (l.length-1)).1;have hp:0<b^(l.length-1):=Ycs (by omega);have h8:=Int.mul_le_mul_of_nonneg_left (show 1<=l.getD (l.length-1) 0 by omega) (Ycw hp);omega
theorem Z2y (hb:2<=b){l:List Int}{n:Int}(h:S.Cn b l n):n<b^l.length:=by
 rw[<- h.2.2];exact Ziu (by omega) h.1
theorem Zrj (hb:1<=b){i j:Nat}(h:i<=j):b^i<=b^j:=by
 obtain⟨c,rfl⟩:=Nat.le.dest h;rw[Int.pow_add];have a:(0:Int)<b^i:=Ycs (by omega);have h2:(0:Int)<b^c:=Ycs (by omega);have:=Int.mul_le_mul_of_nonneg_left (show 1<=b^c by omega) (Ycw a);omega
theorem Zn6 (c:2<=b){l a:List Int}{n n':Int}(h:S.Cn b l n)(d:S.Cn b a n')(hl:l.length<a.length):n<n':=by
 have h1:=Z2y c h;have h2:=Z0k c d (by omega);have h3:=Zrj (b:=b) (by omega) (show l.length<=a.length-1 by omega);omega
theorem Zk4 (f:0<b):∀(k:Nat) {x y:List Int},S.DgB b x->S.DgB b y->(∀j:Nat,k<j->x.getD j 0=y.getD j 0)->x.getD k 0<y.getD k 0->S.dvB b x<S.dvB b y:=by
 have ext:∀{x y:List Int},(∀j:Nat,x.getD j 0=y.getD j 0)->S.dvB b x=S.dvB b y:=by
  intro x
  induction x with
  | nil=>intro y h;exact(Zf4 λ j=>(h j).symm).symm
  | cons d r ih =>
   intro y h
   cases y with
   | nil=>exact Zf4 h
   | cons e s =>
    have h0:d=e:=h 0;have:=ih (y:=s) λ j=>h (j+1)
    rw[S.dvB,S.dvB,this,h0]
 have head:∀x:List Int,S.dvB b x=x.getD 0 0+b*S.dvB b x.tail:=λ x=>by
  cases x with
  | nil=>show(0:Int)=0+b*0;simp
  | cons d r=>rfl
 have tl:∀{x:List Int},S.DgB b x->S.DgB b x.tail:=λ h d hd=>h d (List.mem_of_mem_tail hd)
 intro k
 induction k with
 | zero =>
  intro x y c g h a;have:=ext (x:=x.tail) (y:=y.tail) λ j=>by rw[Ze9,Ze9];exact h (j+1) (by omega)
  rw[head x,head y,this];omega
 | succ k ih =>
  intro x y c g h a;have h1:=ih (tl c) (tl g) (λ j hj=>by rw[Ze9,Ze9];exact h (j+1) (by omega)) (by rw[Ze9,Ze9];exact a);have b1:=Zgz f c 0;have b2:=Zgz f g 0;have h2:=Int.mul_le_mul_of_nonneg_left (show S.dvB b x.tail+1<=S.dvB b y.tail by omega) (Ycw f);have e:b*(S.dvB b x.tail+1)=b*S.dvB b x.tail+b:=by grind
  rw[head x,head y];omega
end
end
section
section
variable {P:Program}{ops:Array Oper}{md:Ybu}{C:World->Prop}
def Zyb (md:Ybu)(ops:Array Oper)(n:Nat):Prop:=∀(listed:Array Bool),HeadInv md ops n listed->∀i,i<n->listed.getD i true=false->∀t,n<=t->t ∉ Yap md ops listed
def Z0l (md:Ybu)(ops:Array Oper)(n:Nat):Bool :=
 (Yb2 ops.size).all λ t=>decide (t<n) || ((Yb2 t).any λ j=>decide (n<=j) && Yba md ops t j) ||
  (Yb2 n).all λ i=>(Yb2 (t+1)).any λ j=>decide (i<j) && (decide (j<n) || decide (j=t)) && Yba md ops j i
theorem Zo9 {n:Nat}(B:Z0l md ops n=true):Zyb md ops n:=by
 intro c k i hi f t ht D;obtain⟨_,y,m,h⟩:=mem_ready.1 D;have o:t<ops.size:=(Array.getElem?_eq_some_iff.1 m).1;have l:=Yau.1 B t (Ycd.2 o);simp only[Ybp,decide_eq_true_eq] at l;rcases l with(l|l) | l
 .omega
 .obtain⟨j,A,a⟩:=Ybf.1 l
  simp only[Yq,decide_eq_true_eq] at a;have p:=Ycd.1 A;obtain⟨E,w,e,v,s,g⟩:=Yb1 a.2;have:E=y:=Option.some.inj (w.symm.trans m);subst this;have u:=h e v s;rw[g,getD_both (k.tail j a.1 (by omega))] at u
  cases u
 .have key:∀(d i:Nat),n-i=d->i<n->c.getD i true=false->False:=by
   intro d
   induction d using Nat.strongRecOn with
   | _ d ih =>
    intro i hd hi f;have u:=Yau.1 l i (Ycd.2 hi);obtain⟨j,A,a⟩:=Ybf.1 u;simp only[Yq,Ybp,decide_eq_true_eq] at a;obtain⟨z,r,e,v,s,g⟩:=Yb1 a.2;rcases a.1.2 with x|p
    .cases hl:c.getD j false with
     | true =>
      have q:=k.closed j z r hl e v s;rw[g,getD_both f] at q
      cases q
     | false=>exact ih (n-j) (by omega) j rfl x (getD_in (by rw[k.size];omega) hl)
    .subst p
     have:z=y:=Option.some.inj (r.symm.trans m);subst this;have q:=h e v s;rw[g,getD_both f] at q
     cases q
  exact key _ i rfl hi f
theorem Zig {n i:Nat}{z:Oper}{v:Value}{L:Array Bool->Act->Prop}(hi:ops[i]?=some z)(s:∀(j:Nat)(o:Oper) cs b,ops[j]?=some o->o.op≠.select cs b)
 (Q:Zyb md ops n) (hn:n<=ops.size) (B:i<n) (u:∀c a,L c a->∀j∈Yap md ops c,n<=j) :
 ∀(f:Nat)(c:Array Bool)(a:Act),HeadInv md ops n c ->
  (∀j w,ops[j]?=some w->j≠i->c.getD j true=false->(∀e∈w.after,Ybh md e=true->e.on≠i)->z.apart ops w=true) ->
  i∈Yap md ops c->YieldsIn P ops C z v a ->
  Zbf P md ops C n L f (c.setIfInBounds i true) (a.put z.dst v)->Zbf P md ops C n L (f+1) c a:=by
 intro f
 induction f with
 | zero =>
  intro c a l _ t G H;have m:=(mem_ready.1 t).1;refine⟨λ h=>(by rw[h] at t;cases t),λ j x=>?_⟩;have q:j<n:=Nat.lt_of_not_le λ h=>absurd x (Q c l i B m j h)
  refine⟨q,?_⟩;by_cases d:j=i
  .subst d;exact G.qOp hi H
  .exact absurd (u _ _ H j (ready_mono x d)) (by omega)
 | succ f ih =>
  intro c a l g t G H;have m:=(mem_ready.1 t).1;refine⟨λ h=>(by rw[h] at t;cases t),λ j x=>?_⟩;have q:j<n:=Nat.lt_of_not_le λ h=>absurd x (Q c l i B m j h)
  refine⟨q,?_⟩;by_cases d:j=i
  .subst d;exact G.qOp hi H
  .have J:=(H.2 j (ready_mono x d)).2
   obtain⟨r,w,y,A⟩:=mem_ready.1 x;have E:∀e∈w.after,Ybh md e=true->e.on≠i:=λ e W T K=>by
    have J:=A e W T;rw[K,getD_both m] at J
    cases J
   have V:=qOp_put y (g j w y d r E) (λ cs b=>s i z cs b hi) (λ cs b=>s j w cs b y) G J;have p:∀k ok,ops[k]?=some ok->k≠i->(c.setIfInBounds j true).getD k true=false ->
    (∀e∈ok.after,Ybh md e=true->e.on≠i)->z.apart ops ok=true:=λ k ok U N D M=>by
    refine g k ok U N ?_ M;by_cases F:j=k
    .subst F;exact r
    .rw[getD_set_ne true F] at D;exact D
   refine qOp_mono (λ R O=>ih (c.setIfInBounds j true) R (l.set x q) p (ready_mono t (Ne.symm d)) O.1 ?_) V;rw[Array.setIfInBounds_comm _ _ d];exact O.2
theorem Zfr {n:Nat}{r:Act->Prop}(f:Yb6 ops=true)(u:Zyb md ops n)(t:n<=ops.size)(m:Array Bool)(e:∀j∈Yap md ops m,n<=j) :
 ∀(l:List Oper)(k:Nat)(c:Array Bool)(a:Act),(∀j,j<l.length->l[j]?=ops[k+j]?)->k+l.length=n->HeadInv md ops n c->Zrf l.length k c=m ->
 Z2e md ops n l.length k c=true->wpQuiet P ops C r l a ->
 Zbf P md ops C n (λ d s=>d=m/\r s) l.length c a
 | [],k,c,a,_,hk,_,hE,hB,h=>⟨hE,h⟩
 | o::l,k,c,a,hl,hk,inv,hE,hB,h=>by
  have h0:ops[k]?=some o:=by simpa using (hl 0 (by simp)).symm
  simp only[Yk,Z2e,Yq] at hB;obtain⟨⟨z,hf⟩,p⟩:=hB;have g:k<n:=by simp only[Yk] at hk;omega
  have i:k∈Yap md ops c:=by simpa using z
  have q:qOp P ops C k (wpQuiet P ops C r l) a:=by unfold qOp;simp only[h0];exact h
  obtain⟨v,y,x⟩:=yieldsIn_of_qOp h0 q;exact Zig h0 (Region.noSelect_spec f) u t g (λ d s w=>by rw[w.1];exact e) l.length c a inv (Region.free_spec h0 hf) i y
   (Zfr f u t m e l (k+1) _ _ (λ j hj=>by have:=hl (j+1) (by simp;omega);simpa[Nat.add_assoc,Nat.add_comm 1 j] using this) (by simp only[Yk] at hk;omega) (inv.set i g) hE p x)
end
theorem Zen {P:Program}{id:Nat}{Q:Exit->Act->World->Prop}{a:Act}{w:World}{l:List Oper}(n:Nat)(o:Array Bool)(hm:P.follows .mixedOrders=true)
 (u:(Yb6 l.toArray && decide (n<l.toArray.size) && Z0l .any l.toArray n && Z2e .any l.toArray n n 0 (Array.replicate l.toArray.size false) && decide (Zrf n 0 (Array.replicate l.toArray.size false)=o) && (Yap .any l.toArray o).all λ j=>decide (n<=j))=true)
 (h:wpQuiet P l.toArray (λ w'=>∃x:Ext w,w'=x.val) (λ r=>∀w',(∃x:Ext w,w'=x.val)->wpAny P .any l.toArray Q (l.toArray.size-n) o r w') (l.take n) a):(Code.region id l.toArray true).wp P Q a w:=by
 simp only[Yq,decide_eq_true_eq] at u;obtain⟨⟨⟨⟨⟨f,z⟩,E⟩,i⟩,A⟩,hd⟩:=u;have B:n<l.length:=by simpa using z
 have c:(l.take n).length=n:=by simp;omega
 have d:HeadInv .any l.toArray n (Array.replicate l.toArray.size false) :=
  ⟨by simp,λ j oj _ v=>(by rw[getD_replicate_false] at v;cases v),λ t _ D=>getD_in (by simpa using D) (getD_replicate_false _ _)⟩
 have H:=Zfr (md:=.any) f (Zo9 E) (Nat.le_of_lt z) o (λ j m=>by simpa using Yau.1 hd j m) (l.take n) 0 _ a (λ j m=>by
  have p:j<n:=by rw[c] at m;exact m
  simp[p]) (by simpa using c) d (by rw[c];exact A) (by rw[c];exact i) h
 refine wp_region_any hm ?_;have y:=Za8 (Q':=Q) (g:=l.toArray.size-n) (λ k r w' q s=>by
  rw[s.1];exact s.2 w' q) _ _ _ _ (⟨⟨_,Zeg w⟩,rfl⟩:∃x:Ext w,{ w with drawn:=w.drawn+1 }=x.val) H
 have e:n+(l.toArray.size-n)=l.toArray.size:=by omega
 rw[c,e] at y;exact y
end
