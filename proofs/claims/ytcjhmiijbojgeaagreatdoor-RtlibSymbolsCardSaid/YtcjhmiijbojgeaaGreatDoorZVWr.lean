/- Parts. -/
import Derived.Test.YtcjhmiijbojgeaaGreatDoorZKCc
import Derived.Test.YtcjhmiijbojgeaaGreatDoorZVImg
import Derived.Test.YtcjhmiijbojgeaaGreatDoorZKGra
set_option linter.all false
open Nat renaming le_refl->Yc,zero_le->Yao,add_zero->Ybe
open List renaming length_append->Yd,getElem?_eq_getElem->Ye,getElem?_eq_some_iff->Yg,getD_eq_getElem?_getD->Yh,getElem?_append_left->Yn,getElem?_append_right->Yo,mem_cons_self->Yw,mem_cons_of_mem->Y0,replicate->Y6,length_map->Y8,length_take->Yaa,getElem?_map->Yaf,take_append_drop->Ybb
open Int renaming le_refl->Yar,add_zero->Yce,le_of_lt->Ycg,pow_pos->Ych
namespace Go.Proofs.YtcjhmiijbojgeaaGreatDoor
open S Go.RowKit
section
namespace S
structure VSegs (I:Img):Prop where
 ok:I.Ok
 is:∃i,Seg I kIs i (bItems vIs)
 int:∃i,Seg I kIsInt i (bItems vIsInt)
 ix:∃i,Seg I kIndex i (bItems vIndex)
 alike:∃i,Seg I kAlike i (bItems vAlike)
 rsv:∃i,Seg I kReserve i (bItems rReserve)
 cons:∃i,Seg I kCons i (bItems rCons)
structure HdAt (I:Img)(mem:Int->Int)(p typ n:Int):Prop where
 tyb:0<=typ/\typ<8
 few:0<=n/\n<=100000000
 dat:∀j:Nat,(j:Int)<=n->Dat I (p+j)
 hd:mem p=32*n+4*typ+3
end S
theorem chk_v:chkB S.vIs=0/\chkB S.vIsInt=0/\chkB S.vIndex=0/\chkB S.vAlike=0:=⟨by kernel_rfl,by kernel_rfl,by kernel_rfl,by kernel_rfl⟩
section
variable {I:S.Img}(hV:S.VSegs I)
include hV
theorem Zzx {st:Vw}{p typ t n:Int}(h:S.HdAt I st.mem p typ n)(ht:0<=t/\t<8):Tells I S.kIs st [4*p+1,vHd t 0%4294967296] 17 (if typ=t then 1 else 0) 80:=by
 obtain⟨i,hi⟩:=hV.is;refine Zhi hV.ok S.vIs chk_v.1 hi (dep:=0) (by decide) rfl rfl λ lk env s1 v hp f Q=>?_
 obtain⟨l,r,rfl⟩:=Zhs v;have h0:l=4*p+1:=hp 0 (show 0<2 by decide);have o:r=vHd t 0%4294967296:=hp 1 (show 1<2 by decide);subst h0 o;have hm:s1.mem=st.mem:=f.mem;have hsz:=hV.ok.size2;have a:=h.dat 0 (by have:=h.few;omega);rw[show p+((0:Nat):Int)=p by omega] at a;have b0:=a.1;have b1:=a.2.1;have d:Yl I 0 lk [4*p+1,vHd t 0%4294967296] s1 (eL 0) (4*p+1) 1:=Zeu 0;have j:Yl I 0 lk [4*p+1,vHd t 0%4294967296] s1 (eL 1) (vHd t 0%4294967296) 1:=Zeu 1;have m:=h.tyb;have hn:=h.few
 show WS I 0 lk false [sWhen (eNot (eQ (eAnd (eL 0) (eC 3)) (eC 1))) [S.sVal (eC 0)],S.sVal (eQ (eAnd (eM (eAdr (eL 0)) 0) (eC 31)) (eL 1))] [4*p+1,vHd t 0%4294967296] s1 8 _ _
 have q:=(Zc9 (op:=7) (by decide) d (Za6 3)).to_ (y:=1) (by rw[Z3u (by omega) (by omega)];omega) (Yc _);refine Zcb ((Zpa (Zpa q (Za6 1)) (Za6 0)).to_ (y:=0) rfl (Yc _)) (by decide) (λ _=>?_) λ h=>absurd rfl h
 have g:u32m (p+0)=p:=by unfold u32m;omega
 have k:=Zpb (n:=0) (Zgt d) g (Za1 a);rw[hm,h.hd] at k;have u:=(Zpa (Zc9 (op:=7) (by decide) k (Za6 31)) j).to_ (y:=if typ=t then 1 else 0) (by
  rw[Z7q (by omega) (by omega)];have e:vHd t 0%4294967296=4*t+3:=by unfold vHd;omega
  rw[e];by_cases c:typ=t
  .rw[if_pos c,if_pos (by omega)]
  .rw[if_neg c,if_neg (by omega)]) (Yc _)
 exact Zkn u (by decide) f (by omega)
theorem Zpp {st:Vw}{v:Int}(f:0<=v/\v<4294967296)(h:v%4=0):Tells I S.kIsInt st [v] 33 1 60:=by
 obtain⟨i,hi⟩:=hV.int;refine Zhi hV.ok S.vIsInt chk_v.2.1 hi (dep:=17) (by decide) rfl rfl λ lk env s1 g hp d Q=>?_
 obtain⟨a,rfl⟩:=Z1n g;have h0:a=v:=hp 0 (show 0<1 by decide);subst h0;have c:Yl I 17 lk [a] s1 (eL 0) a 1:=Zeu 0
 show WS I 17 lk false [sWhen (eNot (eAnd (eL 0) (eC 3))) [S.sVal (eC 1)],S.sVal (eF S.kIs [eL 0,eC (vHd 7 0)])] [a] s1 8 _ _
 have e:=Zc9 (op:=7) (by decide) c (Za6 3);rw[Z3u f.1 f.2,h] at e;exact Zcb ((Zpa e (Za6 0)).to_ (y:=1) rfl (Yc _)) (by decide) (λ h=>by cases h) λ _=>Zkn (Za6 1) (by decide) d (by decide)
theorem Zzy {st:Vw}{i:Int}(hv:0<=i/\i<536870912):Tells I S.kIndex st [4*i] 16 i 60:=by
 obtain⟨j,g⟩:=hV.ix;refine Zhi hV.ok S.vIndex chk_v.2.2.1 g (dep:=0) (by decide) rfl rfl λ lk env s1 f hp c Q=>?_
 obtain⟨e,rfl⟩:=Z1n f;have h0:e=4*i:=hp 0 (show 0<1 by decide);subst h0;have a:Yl I 0 lk [4*i] s1 (eL 0) (4*i) 1:=Zeu 0
 show WS I 0 lk false [sWhen (eAnd (eL 0) (eC 3)) [S.sVal (eC (-1))],S.sVal (eB 12 (eL 0) (eC 2))] [4*i] s1 8 _ _
 have d:=Zc9 (op:=7) (by decide) a (Za6 3);rw[Z3u (by omega) (by omega),show 4*i%4=0 by omega] at d;refine Zcb d (by decide) (λ _=>?_) λ h=>absurd rfl h
 have k:=(Zc9 (op:=12) (by decide) a (Za6 2)).to_ (y:=i) (by
  show u32m (sgn (4*i)/4)=i
  unfold sgn u32m
  split <;> omega) (Yc _)
 exact Zkn k (by decide) c (by decide)
end
section
variable {I:S.Img}(hV:S.VSegs I){dep lk:Int}{behind:Bool}{env:List Int}{st:Vw}{C:Nat}{Q:List Int->Vw->Nat->Prop}{R:BO->Nat->Prop}
include hV
theorem Zs0 {e:BE}{v:Int}{K:Nat}{r:List BS}(a:33<=dep)(f:Yl I dep lk env st e v K)(g:dE e<=15)(d:0<=v/\v<4294967296)(c:v%4=0)(h:WS I dep lk behind r env st (C+K+130) Q R):WS I dep lk behind (vInteger e::r) env st C Q R:=by
 have y:=Z6v (dep:=dep) (lk:=lk) (env:=env) (Zbh f Ze8) (by simp) (Zpp hV (st:=st) d c) a;exact Zcb ((Zpa y (Za6 0)).to_ (y:=0) rfl (Yc _)) (by simp only[eNot,eQ,eF,eC,dE,dEs];omega) (λ _=>h.more (by omega)) λ h=>absurd rfl h
theorem Zw8 {e b:BE}{i n:Int}{K L:Nat}{r:List BS}(d:16<=dep)(o:Yl I dep lk env st e (4*i) K)(p:dE e<=15)(k:Yl I dep lk env st b n L)(f:dE b<=15)(m:0<=i/\i<536870912)(l:i<n->WS I dep lk behind r env st (C+K+L+130) Q R)(h0:¬i<n->∀a c2,Sim st a->c2<=C+K+L+130->R (.halt 3 a) c2):WS I dep lk behind (vWithin e b::r) env st C Q R:=by
 have y:=Zc9 (op:=14) (by decide) (Z6v (dep:=dep) (lk:=lk) (env:=env) (Zbh o Ze8) (by simp) (Zzy hV (st:=st) m) d) k;rw[Zjs] at y;refine Zcb (Zpa y (Za6 0)) (by simp only[eNot,eQ,eLt,eB,eF,eC,dE,dEs];omega) (λ h=>?_) (λ h=>?_)
 .refine(l ?_).more (by omega)
  refine Y_c λ c=>?_
  rw[if_neg c] at h
  cases h
 .refine Z5w (Za6 3) (by decide) λ a c2 g j=>h0 ?_ a c2 g (by omega)
  intro c;rw[if_pos c] at h;exact h rfl
theorem Zw9 {e:BE}{p typ n t:Int}{K:Nat}{r:List BS}(a:17<=dep)(g:Yl I dep lk env st e (4*p+1) K)(i:dE e<=15)(f:S.HdAt I st.mem p typ n)(d:0<=t/\t<8)(c:typ=t)(h:WS I dep lk behind r env st (C+K+150) Q R):WS I dep lk behind (vObject e t::r) env st C Q R:=by
 have y:=Z6v (dep:=dep) (lk:=lk) (env:=env) (Zbh g (Zbh (Za6 (vHd t 0)) Ze8)) (by simp) (Zzx hV (st:=st) f d) a;rw[if_pos c] at y;exact Zcb ((Zpa y (Za6 0)).to_ (y:=0) rfl (Yc _)) (by simp only[eNot,eQ,eF,eC,dE,dEs];omega) (λ _=>h.more (by omega)) λ h=>absurd rfl h
end
section
end
end
section
structure S.b9 (I:S.Img)(st:Vw)(H w:Int):Prop where
 low:∀x,0<=x->x<1056->S.Dat I x
 r26:st.reg 26=H
 r27:H+w<=st.reg 27
 top:st.reg 27<4294967296
 H0:1312<=H
 m7:st.mem 7=0
 dat:∀a,H<=a->a<H+w->S.Dat I a
theorem Z8m (x:Int):alu 10 x (5%4294967296)=u32m (x*32):=rfl
theorem or7 {n:Nat}(h:n<=1000):alu 8 (u32m ((n:Int)*32)) (vHd 1 0%4294967296)=32*n+7:=by
 have e:u32m ((n:Int)*32)=32*(n:Int):=by unfold u32m;omega
 rw[e];exact Zw 5 (32*(n:Int)) 7 32 (by decide) (by omega) (by omega) (by omega) (by omega) (by omega) (by omega)
theorem Z3 (st:Vw)(p x a:Int):(st.sto p x).mem a=if a=p then x else st.mem a:=rfl
def S.Vw.fillV (s:Vw)(H x:Int):Nat->Vw
 | 0=>s
 | n+1=>(s.fillV H x n).sto (H+(n+1)) x
theorem Zn4 (s:Vw)(H x:Int):∀n:Nat,(s.fillV H x n).reg=s.reg
 | 0=>rfl
 | n+1=>Zn4 s H x n
theorem Zjg (s:Vw)(H x a:Int):∀n:Nat,(s.fillV H x n).mem a=if H<a/\a<=H+n then x else s.mem a
 | 0=>by
  rw[if_neg (by omega)];rfl
 | n+1=>by
  show(if a=H+(n+1) then x else(s.fillV H x n).mem a)=_
  rw[Zjg s H x a n];by_cases c:a=H+(n+1)
  .rw[if_pos c,if_pos (by omega)]
  .rw[if_neg c]
   by_cases d:H<a/\a<=H+n
   .rw[if_pos d,if_pos (by omega)]
   .rw[if_neg d,if_neg (by omega)]
theorem Zzz:chkB S.rReserve=0:=by kernel_rfl
section
variable {I:S.Img}(hV:S.VSegs I)
include hV
theorem Zn5 {st:Vw}{need:Int}(l:st.reg 4=need)(hn:0<=need)(r:st.mem 7=0)(q:S.Dat I 7)(j:0<=st.reg 26/\st.reg 26+need<=st.reg 27/\st.reg 27<4294967296) :
 Real I S.kReserve false st 16 (λ _ o k=>∃a,o=.ret a/\Sim st a/\k<=60):=by
 obtain⟨iR,i⟩:=hV.rsv;have g:=Zvx hV.ok S.rReserve Zzz i (dep:=0) (by decide) st (λ o k=>∃a,o=.ret a/\Sim st a/\k<=60) λ lk env f hp=>?_
 .exact g
 obtain⟨d,rfl⟩:=Z1n f;have h0:d=need:=(hp 0 (show(0:Int)<1 by decide)).trans l;subst h0
 show WS I 0 lk false [sAs 0 (eAdd (eL 0) (eW 7)),sWhen eShort [sDo (eF kCollect []),sWhen eShort [sHlt (eC 255)]]] [d] st 8 _ _
 have m:=(Zpb (I:=I) (dep:=0) (lk:=lk) (env:=[d]) (st:=st) (n:=0) (p:=7) (Za6 7) (by decide) (Za1 q)).to_ r (Yc _);refine Zds (x:=d) ((Zc9 (op:=1) (by decide) (Zeu 0) m).to_ (y:=d) (by show alu 1 d 0=d;rw[Zgf];unfold u32m;omega) (Yc _)) (by decide) ?_
 show WS I 0 lk false _ [d] st _ _ _
 have ys:Yl I 0 lk [d] st eShort 0 5:=(Zc9 (op:=14) (by decide) (Zc9 (op:=2) (by decide) (Z5v (by decide)) (Z5v (by decide))) (Zeu 0)).to_ (by
  show alu 14 (alu 2 (st.reg 27) (st.reg 26)) d=0
  rw[Zjs,Z3v,if_neg];unfold u32m;omega) (by decide)
 exact Zcb ys (by decide) (λ _=>Zvv λ e c hs hc=>⟨e,rfl,hs,by
  show c+3<=60
  omega⟩) λ h=>absurd rfl h
section
variable {dep lk:Int}{behind:Bool}{env:List Int}{s:Vw}{C:Nat}{Q:List Int->Vw->Nat->Prop}{R:BO->Nat->Prop}
theorem Za8 {n v:Int}{e:BE}{K:Nat}{r:List BS}(c:S.Dat I n)(h0:0<=n/\n<1056)(a:Yl I dep lk env s e v K)(hd:dE e<=19)(h:WS I dep lk behind r env (s.sto n v) (C+2+K+1) Q R):WS I dep lk behind (sKeep n e::r) env s C Q R :=
 Zkm (Za6 n) a (by rw[eC,dE,dEs];omega) hd (by unfold u32m;omega) c.2 h
theorem Zz0 {H w p q l:Int}{words:BE}{K:Nat}{rest:List BS}(t:16<=dep)(m:b9 I s H w)(M:0<=lk/\lk<4294967296)(O:0<=w)(X:dE words<=15)(g:∀s':Vw,Yl I dep lk [p,q,l] s' words w K)
 (h:∀s':Vw,(∀a,a≠6->a≠8->a≠16->a≠17->s'.mem a=s.mem a)->(∀j,¬(4<=j/\j<=7)->s'.reg j=s.reg j)->s'.mem 6=0->s'.mem 8=0->s'.inp=s.inp->s'.out=s.out->WS I dep lk behind rest [p,q,l] s' (C+K+200) Q R) :
 WS I dep lk behind (vRoom 2 words++rest) [p,q,l] s C Q R:=by
 have low:=λ n (h0:(0:Int)<=n) y=>m.low n h0 y
 show WS I dep lk behind (sKeep 16 (eL 0)::sKeep 17 (eL 1)::sKeep 8 (eC 2)::sKeep 6 eK::sDo (eF S.kReserve [words])::sAs 0 (eW 16)::sAs 1 (eW 17)::sKeep 8 (eC 0)::sKeep 6 (eC 0)::rest) [p,q,l] s C Q R
 refine Za8 hV (v:=p) (low 16 (by decide) (by decide)) (by decide) (Zeu 0) (by decide) ?_;refine Za8 hV (v:=q) (low 17 (by decide) (by decide)) (by decide) (Zeu 1) (by decide) ?_;refine Za8 hV (v:=2) (low 8 (by decide) (by decide)) (by decide) (Za6 2) (by decide) ?_;refine Za8 hV (v:=lk) (low 6 (by decide) (by decide)) (by decide) Z8r (by decide) ?_;obtain⟨i,c⟩:=Yx ((((s.sto 16 p).sto 17 q).sto 8 2).sto 6 lk);rw[<- c];have m4:∀a,i.mem a=if a=6 then lk else if a=8 then 2 else if a=17 then q else if a=16 then p else s.mem a:=λ a=>by
  rw[c,Z3,Z3,Z3,Z3]
 have r4:i.reg=s.reg:=by rw[c];rfl
 have Z:i.inp=s.inp:=by rw[c];rfl
 have N:i.out=s.out:=by rw[c];rfl
 have L:=m.r26;have P:=m.r27;have B:=m.top;have W:=m.H0;refine Z5x (d:=16) (xs:=[w]) (T:=λ o k=>∃f,o=.ret f/\Sim i f/\k<=60) (Zbh (g i) Ze8) (by rw[dEs,dEs];omega) (by simp) (λ r z=>?_) t λ o k V=>?_
 .have hA:Sim i (r.args [w]):=z.args (by simp)
  have:=Zn5 hV (st:=r.args [w]) (need:=w) (by rfl) O (by rw[hA.mem,m4,if_neg (by decide),if_neg (by decide),if_neg (by decide),if_neg (by decide)];exact m.m7) (low 7 (by decide) (by decide)) (by
   rw[hA.reg 26 (by decide),hA.reg 27 (by decide),r4];omega)
  exact this.mono λ _ o k h=>by
   obtain⟨f,e,hs,E⟩:=h;exact⟨f,e,hA.trans hs,E⟩
 obtain⟨sA,rfl,hA,E⟩:=V
 show WS I dep lk behind _ [p,q,l] sA _ _ _
 have D:∀(env:List Int)(n v:Int),0<=n->n<1056->sA.mem n=v->Yl I dep lk env sA (eW n) v 3:=λ env n v h0 y Y=>(Zpb (n:=0) (p:=n) (Za6 n) (by unfold u32m;omega) (Za1 (low n h0 y))).to_ Y (Yc _)
 refine Zds (D _ 16 p (by decide) (by decide) (by rw[hA.mem,m4,if_neg (by decide),if_neg (by decide),if_neg (by decide),if_pos rfl])) (by decide) ?_
 show WS I dep lk behind _ [p,q,l] sA _ _ _
 refine Zds (D _ 17 q (by decide) (by decide) (by rw[hA.mem,m4,if_neg (by decide),if_neg (by decide),if_pos rfl])) (by decide) ?_
 show WS I dep lk behind _ [p,q,l] sA _ _ _
 refine Za8 hV (v:=0) (low 8 (by decide) (by decide)) (by decide) (Za6 0) (by decide) ?_;refine Za8 hV (v:=0) (low 6 (by decide) (by decide)) (by decide) (Za6 0) (by decide) ?_;have m6:∀a,((sA.sto 8 0).sto 6 0).mem a=if a=6 then 0 else if a=8 then 0 else i.mem a:=λ a=>by rw[Z3,Z3,hA.mem]
 refine(h ((sA.sto 8 0).sto 6 0) (λ a J G A u=>?_) (λ j U=>?_) ?_ ?_ (hA.inp.trans Z) (hA.out.trans N)).more (by omega)
 .rw[m6,if_neg J,if_neg G,m4,if_neg J,if_neg G,if_neg u,if_neg A]
 .show sA.reg j=_
  rw[hA.reg j U,r4]
 .rw[m6,if_pos rfl]
 .rw[m6,if_neg (by decide),if_pos rfl]
end
def S.dc (H n x:Int)(st:Vw)(o:BO)(k:Nat):Prop:=(k:Int)<=600+40*n/\∃st',o=.ret st'/\st'.reg 4=4*H+1/\st'.mem H=32*n+7/\∀a,H<a->a<=H+n->st'.mem a=x
theorem Zs1 {i0:Nat}(hs:S.Seg I (kRt 27) i0 (S.bItems (vMakes 27 1))){st:Vw}{ret H x:Int}{n:Nat}(hn:n<=1000)(M:st.reg 4=4*n)(L:st.reg 5=x)(r:b9 I st H (n+1))(u:0<=ret/\ret<4294967296)(hH:H<=335544320) :
 aj I (kRt 27) true st 58 ret (dc H n x st):=by
 refine Zj4 hV.ok (vMakes 27 1) (by kernel_rfl) hs (dep:=40) (by decide) st ret _ λ env V hp=>?_
 obtain⟨J,d,E,rfl⟩:=Z4b V;have h0:J=4*n:=(hp 0 (show(0:Int)<2 by decide)).trans M;have W:d=x:=(hp 1 (show(1:Int)<2 by decide)).trans L;subst h0 W;have hsz:=hV.ok.size2;have l0:∀b c s,Yl I 40 ret [4*(n:Int),b,c] s (eL 0) (4*n) 1:=λ b c s=>Zeu 0
 show WS I 40 ret true (vInteger (eL 0)::vWithin (eL 0) (eC 1048577)::(vRoom 2 (eAdd (eShr (eL 0) 2) (eC 1)) ++
  [sAs 0 (eShr (eL 0) 2),sPut vHeap 0 (eB 8 (eShl (eL 0) 5) (eC (vHd 1 0))),sAs 2 (eC 0),
   sWh (eLt (eL 2) (eL 0)) [sAs 2 (eAdd (eL 2) (eC 1)),sPut (eAdd vHeap (eL 2)) 0 (eL 1)],
   vTook (eAdd (eL 0) (eC 1)),S.sVal (eRef (eSub vHeap (eAdd (eL 0) (eC 1))))])) [4*(n:Int),d,E] st 8 _ _
 refine Zs0 hV (by decide) (l0 _ _ _) (by decide) (by omega) (by omega) ?_;refine Zw8 hV (by decide) (l0 _ _ _) (by decide) (Za6 1048577) (by decide) (by omega) (λ z=>?_) (λ A=>absurd (by omega) A);refine Zz0 hV (w:=(n:Int)+1) (H:=H) (K:=8) (by decide) r u (by omega) (by decide) (λ s'=>(Zc9 (op:=1) (by decide) (Zc9 (op:=11) (by decide) (l0 _ _ _) (Za6 2)) (Za6 1)).to_ (by rw[Z6t,Zgf];unfold u32m;omega) (by decide)) λ v hm l m6 m8 N O=>?_
 have t:v.reg 26=H:=(l 26 (by decide)).trans r.r26;have X:=r.H0;refine Zds (x:=(n:Int)) ((Zc9 (op:=11) (by decide) (l0 _ _ _) (Za6 2)).to_ (by rw[Z6t];omega) (Yc _)) (by decide) ?_
 show WS I 40 ret true _ [(n:Int),d,E] v _ _ _
 have k0:∀b c s,Yl I 40 ret [(n:Int),b,c] s (eL 0) n 1:=λ b c s=>Zeu 0
 have g:∀(env:List Int)(s:Vw),s.reg 26=H->Yl I 40 ret env s vHeap H 1:=λ env s h=>(Z5v (n:=26) (by decide)).to_ h (Yc _)
 refine Zkm (p:=H) (x:=32*(n:Int)+7) (g _ _ t) ((Zc9 (op:=8) (by decide) (Zc9 (op:=10) (by decide) (k0 _ _ _) (Za6 5)) (Za6 (vHd 1 0))).to_ (by
  rw[Z8m];exact or7 (by omega)) (Yc _)) (by decide) (by decide) (by unfold u32m;omega) (r.dat H (by omega) (by omega)).2 ?_
 obtain⟨j,f⟩:=Yx (v.sto H (32*(n:Int)+7));rw[<- f];have T:j.reg=v.reg:=by rw[f];rfl
 refine Zds (Za6 0) (by decide) ?_
 show WS I 40 ret true _ [(n:Int),d,0] j _ _ _
 refine Zy0 (by decide) (λ env s C k=>∃i:Nat,i<=n/\k=n-i/\env=[(n:Int),d,(i:Int)]/\s=j.fillV H d i/\C<=530+30*i) (k0:=n) ⟨0,Yao _,rfl,rfl,rfl,by omega⟩ ?_;rintro env s C k ⟨i,hi,rfl,rfl,rfl,hC⟩;have B:(j.fillV H d i).reg 26=H:=by rw[Zn4,T];exact t
 refine⟨if (i:Int)<n then 1 else 0,3,(Zc9 (op:=14) (by decide) (Zeu 2) (k0 _ _ _)).to_ (Zjs _ _) (by decide),λ G=>?_,λ m=>?_⟩
 .have hin:i=n:=by
   have:¬(i:Int)<n:=λ q=>by rw[if_pos q] at G;cases G
   omega
  subst hin;have e:∀s,Yl I 40 ret [(i:Int),d,(i:Int)] s (eAdd (eL 0) (eC 1)) (i+1) 4:=λ s=>(Zc9 (op:=1) (by decide) (k0 _ _ _) (Za6 1)).to_ (by rw[Zgf];unfold u32m;omega) (by decide)
  refine Zvw (x:=H+i+1) ((Zc9 (op:=1) (by decide) (g _ _ B) (e _)).to_ (by rw[Zgf];unfold u32m;omega) (Yc _)) (by decide) ?_;refine Zqj (x:=4*H+1) ((Zc9 (op:=8) (by decide) (Zc9 (op:=10) (by decide) (Zc9 (op:=2) (by decide) (Z5v (n:=26) (by decide)) (e _)) (Za6 2)) (Za6 1)).to_ (by
   rw[Zg,Z3v,Z5j,show u32m (u32m (H+i+1-(i+1))*4)=4*H from by unfold u32m;omega,or1 (by omega) (by omega) (by omega)]) (Yc _)) (by decide) λ o c2 D U=>?_
  refine⟨by omega,_,rfl,Zg _ _ _,?_,λ a a0 P=>?_⟩
  .show o.mem H=_
   rw[D.mem]
   show(j.fillV H d i).mem H=_
   rw[Zjg,if_neg (by omega),f];exact Zc1 _ _ _
  .show o.mem a=_
   rw[D.mem]
   show(j.fillV H d i).mem a=_
   rw[Zjg,if_pos ⟨a0,P⟩]
 .have z:(i:Int)<n:=Y_c λ q=>by rw[if_neg q] at m;exact m rfl
  refine Zds (x:=(i:Int)+1) ((Zc9 (op:=1) (by decide) (Zeu 2) (Za6 1)).to_ (by show alu 1 (i:Int) (1%4294967296)=_;rw[Zgf];unfold u32m;omega) (Yc _)) (by decide) ?_
  show WS I 40 ret true _ [(n:Int),d,(i:Int)+1] _ _ _ _
  refine Zkm (p:=H+(i+1)) (x:=d) ((Zc9 (op:=1) (by decide) (g _ _ B) (Zeu 2)).to_ (y:=H+(i+1)) (by show alu 1 H ((i:Int)+1)=_;rw[Zgf];unfold u32m;omega) (Yc _)) (Zeu 1) (by decide) (by decide) (by unfold u32m;omega) (r.dat (H+(i+1)) (by omega) (by omega)).2 ?_;exact Zhh (k2:=n-(i+1)) (by omega) ⟨i+1,by omega,rfl,rfl,rfl,by omega⟩
end
end
section
namespace S
structure StrAt (I:Img)(mem:Int->Int)(p:Int)(ws:List Int):Prop where
 hd:HdAt I mem p 4 ws.length
 at_:∀k:Nat,k<ws.length->mem (p+1+k)=ws.getD k 0
inductive SymL (I:Img) (mem:Int->Int):Int->List (Int×List Int)->Prop where
 | nil:SymL I mem 38 []
 | cons {q s t:Int} {xs:List Int} {l:List (Int×List Int)} (hq:HdAt I mem q 0 2) (h1:mem (q+1)=4*s+1) (hs:HdAt I mem s 5 1) (h2:mem (s+1)=4*t+1) (ht:StrAt I mem t xs) (hl:SymL I mem (mem (q+2)) l):SymL I mem (4*q+1) ((s,xs)::l)
def findW (ws:List Int):List (Int×List Int)->Option Int
 | []=>none
 | (s,xs)::r=>if ws=xs then some s else findW ws r
end S
theorem Zz1 {xs ys:List Int}(d:xs.length=ys.length)(h:∀k:Nat,k<xs.length->xs.getD k 0=ys.getD k 0):xs=ys:=by
 refine List.ext_getElem d λ k a c=>?_
 have:=h k a;rw[Yh,Yh,Ye a,Ye c] at this;exact this
section
variable {I:S.Img}(hV:S.VSegs I)
include hV
theorem Zpq {st:Vw}{p q:Int}{xs ys:List Int}(u:S.StrAt I st.mem p xs)(w:S.StrAt I st.mem q ys)(O:xs.length<=10000):Tells I S.kAlike st [4*p+1,4*q+1] 18 (if xs=ys then 1 else 0) (150+60*xs.length):=by
 obtain⟨i,hi⟩:=hV.alike;refine Zhi hV.ok S.vAlike chk_v.2.2.2 hi (dep:=0) (by decide) rfl rfl λ lk env s1 V hp a Q=>?_
 obtain⟨N,U,G,rfl⟩:=Z4b V;have h0:N=4*p+1:=hp 0 (show 0<2 by decide);have H:U=4*q+1:=hp 1 (show 1<2 by decide);subst h0 H;have hm:s1.mem=st.mem:=a.mem;have hsz:=hV.ok.size2;have fx:=u.hd.few;have fy:=w.hd.few;have z:∀j:Nat,j<=xs.length->S.Dat I (p+j):=λ j M=>u.hd.dat j (by omega)
 have B:∀j:Nat,j<=ys.length->S.Dat I (q+j):=λ j M=>w.hd.dat j (by omega)
 have g:=z 0 (by omega);have f:=B 0 (by omega);have A:=z xs.length (by omega);have E:=B ys.length (by omega);simp only[Int.natCast_zero,Yce] at g f;have b1:=g.1;have b2:=f.1;have b3:=A.2.1;have b4:=E.2.1;have D:s1.mem p=32*(xs.length:Int)+19:=by rw[hm,u.hd.hd];omega
 have K:s1.mem q=32*(ys.length:Int)+19:=by rw[hm,w.hd.hd];omega
 show WS I 0 lk false [sAs 0 (eAdr (eL 0)),sAs 1 (eAdr (eL 1)),sAs 2 (eShr (eM (eL 0) 0) 5),
  sWhen (eNot (eQ (eM (eL 0) 0) (eM (eL 1) 0))) [S.sVal (eC 0)],
  sWh (eL 2)
   [sWhen (eNot (eQ (eM (eAdd (eL 0) (eL 2)) 0) (eM (eAdd (eL 1) (eL 2)) 0))) [S.sVal (eC 0)],
    sAs 2 (eSub (eL 2) (eC 1))],
  S.sVal (eC 1)] [4*p+1,4*q+1,G] s1 8 Q _
 refine Zds (Zgt (Zeu 0)) (by decide) ?_
 show WS I 0 lk false _ [p,4*q+1,G] s1 _ _ _
 refine Zds (Zgt (Zeu 1)) (by decide) ?_
 show WS I 0 lk false _ [p,q,G] s1 _ _ _
 have L:∀c,Yl I 0 lk [p,q,c] s1 (eM (eL 0) 0) (s1.mem p) 2:=λ c=>Zpb (n:=0) (p:=p) (Zeu 0) (by show u32m (p+0)=p;unfold u32m;omega) (Za1 g)
 have W:∀c,Yl I 0 lk [p,q,c] s1 (eM (eL 1) 0) (s1.mem q) 2:=λ c=>Zpb (n:=0) (p:=q) (Zeu 1) (by show u32m (q+0)=q;unfold u32m;omega) (Za1 f)
 refine Zds (x:=(xs.length:Int)) ((Zc9 (op:=11) (by decide) (L _) (Za6 5)).to_ (by rw[Z7r,D];omega) (Yc _)) (by decide) ?_
 show WS I 0 lk false _ [p,q,(xs.length:Int)] s1 _ _ _
 have v:=Zpa (L xs.length) (W xs.length);by_cases d:xs.length=ys.length
 .rw[if_pos (by rw[D,K];omega)] at v
  refine Zcb ((Zpa v (Za6 0)).to_ (y:=0) rfl (Yc _)) (by decide) (λ _=>?_) λ h=>absurd rfl h
  refine Zy0 (by decide) (λ env s C k=>s=s1/\∃j:Nat,j<=xs.length/\j=k/\env=[p,q,(j:Int)]/\(∀i:Nat,j<=i->i<xs.length->xs.getD i 0=ys.getD i 0)/\C<=100+60*(xs.length-j)) (k0:=xs.length) ⟨rfl,xs.length,Yc _,rfl,rfl,λ i H J=>by omega,by omega⟩ ?_;rintro env s C k ⟨rfl,j,M,rfl,rfl,o,hC⟩;refine⟨j,1,Zeu 2,λ hz=>?_,λ T=>?_⟩
  .have hj0:j=0:=by omega
   subst hj0;have e:xs=ys:=Zz1 d λ k P=>o k (Yao _) P
   rw[if_pos e];exact Zkn (Za6 1) (by decide) a (by omega)
  .obtain⟨r,rfl⟩:∃r,j=r+1:=⟨j-1,by omega⟩
   have l:=Zpb (I:=I) (dep:=0) (lk:=lk) (env:=[p,q,((r+1:Nat):Int)]) (st:=s) (n:=0) (p:=p+1+r) (Zc9 (op:=1) (by decide) (Zeu 0) (Zeu 2)) (by show u32m (alu 1 p ((r+1:Nat):Int)+0)=_;rw[Zgf];unfold u32m;omega) (Za1 (by have:=z (r+1) (by omega);rw[show p+((r+1:Nat):Int)=p+1+r by omega] at this;exact this));have m:=Zpb (I:=I) (dep:=0) (lk:=lk) (env:=[p,q,((r+1:Nat):Int)]) (st:=s) (n:=0) (p:=q+1+r) (Zc9 (op:=1) (by decide) (Zeu 1) (Zeu 2)) (by show u32m (alu 1 q ((r+1:Nat):Int)+0)=_;rw[Zgf];unfold u32m;omega) (Za1 (by have:=B (r+1) (by omega);rw[show q+((r+1:Nat):Int)=q+1+r by omega] at this;exact this));rw[hm,u.at_ r (by omega)] at l;rw[hm,w.at_ r (by omega)] at m;refine Zcb (Zpa (Zpa l m) (Za6 0)) (by decide) (λ t=>?_) (λ t=>?_)
   .have e:xs.getD r 0=ys.getD r 0:=Y_c λ c=>by rw[if_neg c] at t;cases t
    refine Zds (x:=(r:Int)) ((Zc9 (op:=2) (by decide) (Zeu 2) (Za6 1)).to_ (by show alu 2 ((r+1:Nat):Int) (1%4294967296)=_;rw[Z3v];unfold u32m;omega) (Yc _)) (by decide) ?_
    show WS I 0 lk false _ [p,q,(r:Int)] s _ _ _
    refine Zhh (k2:=r) (by omega) ⟨rfl,r,by omega,rfl,rfl,λ i H J=>?_,by omega⟩;by_cases c:i=r
    .rw[c];exact e
    .exact o i (by omega) J
   .have e:¬xs.getD r 0=ys.getD r 0:=λ c=>by rw[if_pos c] at t;exact t rfl
    rw[if_neg (λ q=>e (by rw[q]))];exact Zkn (Za6 0) (by decide) a (by omega)
 .rw[if_neg (by rw[D,K];omega)] at v
  refine Zcb ((Zpa v (Za6 0)).to_ (y:=1) rfl (Yc _)) (by decide) (λ h=>by cases h) λ _=>?_
  rw[if_neg (λ q=>d (by rw[q]))];exact Zkn (Za6 0) (by decide) a (by omega)
end
end
section
section
variable {gw sw:List Int}{F:List Int}{size:Int}{b:Bool}
theorem Zz2 {j:Nat}{o:S.Obj}(g:(objs26++objs28++[oMainV])[j]?=some o):∃i,S.Seg (wImgV b gw sw F size) o.name i o.items:=by
 obtain⟨A,B,e⟩:=Zmj g;have d:=Zbl gw sw;have f:=Zbv gw sw;have hm:midV=A++(o.items.map (ownItem o.name)++B):=e;refine⟨gw.length+sw.length+8+A.length,λ k x a=>?_,?_,?_⟩
 .show(joined (wObjsV gw sw))[_]?=_
  rw[d,Yo (by omega),f,hm];have c:=(Yg.1 a).1;rw[Yn (by simp only[Yd,Y8];omega),Yo (by omega),Yn (by rw[Y8];omega)];rw[show gw.length+sw.length+8+A.length+k-(gw.length+sw.length+8)-A.length=k from by omega,Yaf,a];rfl
 .show(if b=true then 2+gw.length+sw.length else gw.length+sw.length+8)<=_
  split <;> omega
 .show _<=gw.length+sw.length+8+midV.length
  rw[hm];simp only[Yd,Y8];omega
theorem Zjh {j:Nat}{r:BR}(a:(objs26++objs28++[oMainV])[j]?=some (ofR r)):∃i,S.Seg (wImgV b gw sw F size) r.name i (S.bItems r):=Zz2 a
theorem Z8 {i:Nat}{x:S.Item}(h:(hItems gw sw)[i]?=some x):(wImgV b gw sw F size).xs[i]?=some x:=by
 show(joined (wObjsV gw sw))[i]?=_
 rw[Zbl,Yn (Yg.1 h).1];exact h
theorem Zl3 {i:Nat}{x:S.Item}(h:tItems[i]?=some x):(wImgV b gw sw F size).xs[gw.length+sw.length+8+midV.length+i]?=some x:=by
 show(joined (wObjsV gw sw))[_]?=_
 have a:=Zbv gw sw;rw[Zbl,Yo (by omega),a,Yo (by omega)];rw[show gw.length+sw.length+8+midV.length+i-(gw.length+sw.length+8)-midV.length=i from by omega];exact h
variable (hI:(wImgV b gw sw F size).Ok)
include hI
theorem Zcl {i:Nat}{x:S.Item}(c:(wImgV b gw sw F size).xs[i]?=some x)(a:x.kind=2):(wImgV b gw sw F size).lab x.label=(wImgV b gw sw F size).adr i:=by
 unfold S.Img.lab;rw[Zic hI c a];rfl
theorem Zf1:∀k:Nat,k<=gw.length->(wImgV b gw sw F size).adr (1+k)=1312+k
 | 0,_=>by
  have:=Zx hI (i:=0) (x:=bSp 1312) (Z8 rfl);rw[this]
  show 0+S.size (bSp 1312) _=_
  unfold S.size bSp;simp
 | k+1,h=>by
  have ih:=Zf1 k (by omega);have:=Zx hI (i:=1+k) (Z8 (Z0d (by omega)));rw[show 1+(k+1)=1+k+1 from by omega,this,ih]
  show 1312+(k:Int)+1=_
  omega
theorem Zpr:(wImgV b gw sw F size).adr (2+gw.length)=1312+gw.length:=by
 have h0:=Zf1 hI gw.length (Yc _);have:=Zx hI (i:=1+gw.length) (x:=bL kStatic) (Z8 (by have:=Zp1 (gw:=gw) (sw:=sw) (k:=0);rw[Ybe] at this;rw[this];rfl));rw[show 2+gw.length=1+gw.length+1 from by omega,this,h0]
 show 1312+(gw.length:Int)+0=_
 omega
theorem Zf2:∀k:Nat,k<=sw.length->(wImgV b gw sw F size).adr (2+gw.length+k)=1312+gw.length+k
 | 0,_=>by rw[Ybe,Zpr hI];omega
 | k+1,h=>by
  have ih:=Zf2 k (by omega);have:=Zx hI (i:=2+gw.length+k) (Z8 (Z0e (by omega)));rw[show 2+gw.length+(k+1)=2+gw.length+k+1 from by omega,this,ih]
  show 1312+(gw.length:Int)+k+1=_
  omega
theorem Zah:(wImgV b gw sw F size).lab kStatic=1312+gw.length/\(wImgV b gw sw F size).lab kCode=1312+gw.length+sw.length/\(wImgV b gw sw F size).lab kStub=1312+gw.length+sw.length/\(wImgV b gw sw F size).lab kMapped=1312+gw.length+sw.length+1 /\
 (wImgV b gw sw F size).adr (2+gw.length+sw.length+2)=1312+gw.length+sw.length/\(wImgV b gw sw F size).adr (2+gw.length+sw.length+4)=1312+gw.length+sw.length+1/\(wImgV b gw sw F size).adr (2+gw.length+sw.length+6)=1312+gw.length+sw.length+3:=by
 have a0:=Zf2 hI sw.length (Yc _);have c:(wImgV b gw sw F size).xs[2+gw.length+sw.length]?=some (bL kCode):=Z8 (Zk6 (k:=0));have e:(wImgV b gw sw F size).xs[2+gw.length+sw.length+1]?=some (bL kStub):=Z8 Zk6;have h:(wImgV b gw sw F size).xs[2+gw.length+sw.length+2]?=some bHalt:=Z8 Zk6;have d:(wImgV b gw sw F size).xs[2+gw.length+sw.length+3]?=some (bL kMapped):=Z8 Zk6;have f:(wImgV b gw sw F size).xs[2+gw.length+sw.length+4]?=some (bW 0):=Z8 Zk6;have i:(wImgV b gw sw F size).xs[2+gw.length+sw.length+5]?=some bHalt:=Z8 Zk6;have xs:(wImgV b gw sw F size).xs[1+gw.length]?=some (bL kStatic):=Z8 (by have:=Zp1 (gw:=gw) (sw:=sw) (k:=0);rw[Ybe] at this;rw[this];rfl);have a:=Zf1 hI gw.length (Yc _);have l0:=Zcl hI c rfl;have l1:=Zcl hI e rfl;have l3:=Zcl hI d rfl;have j:=Zcl hI xs rfl;obtain⟨I,g⟩:=Yx (wImgV b gw sw F size);obtain⟨M,l⟩:=Yx (2+gw.length+sw.length);rw[<- g] at hI a0 c e h d f i a l0 l1 l3 j⊢;rw[<- l] at a0 c e h d f i l0 l1 l3⊢;have n0:I.adr (M+1)=I.adr M+0:=Zx hI c;have n1:I.adr (M+2)=I.adr (M+1)+0:=Zx hI e;have n2:I.adr (M+3)=I.adr (M+2)+1:=Zx hI h;have n3:I.adr (M+4)=I.adr (M+3)+0:=Zx hI d;have n4:I.adr (M+5)=I.adr (M+4)+1:=Zx hI f;have n5:I.adr (M+6)=I.adr (M+5)+1:=Zx hI i;have k0:I.lab kCode=I.adr M:=l0;have k1:I.lab kStub=I.adr (M+1):=l1;have k3:I.lab kMapped=I.adr (M+3):=l3;exact⟨j.trans a,by omega,by omega,by omega,by omega,by omega,by omega⟩
end
attribute [local irreducible] midV
section
variable {gw sw:List Int}{F:List Int}{size:Int}{b:Bool}(hI:(wImgV b gw sw F size).Ok)
include hI
theorem Zel:(wImgV b gw sw F size).lab kMore=(wImgV b gw sw F size).adr (wImgV b gw sw F size).i1/\(wImgV b gw sw F size).lab kEnd=(wImgV b gw sw F size).lab kMore+8/\(wImgV b gw sw F size).adr (wImgV b gw sw F size).xs.length=(wImgV b gw sw F size).lab kEnd:=by
 obtain⟨M,e⟩:=Yx (wImgV b gw sw F size).i1;have a:M=gw.length+sw.length+8+midV.length:=e;have d:(wImgV b gw sw F size).xs[M]?=some (bL kMore):=by rw[a];exact Zl3 (i:=0) rfl
 have j:(wImgV b gw sw F size).xs[M+1]?=some (bSp 8):=by rw[a];exact Zl3 (i:=1) rfl
 have g:(wImgV b gw sw F size).xs[M+2]?=some (bL kEnd):=by rw[a];exact Zl3 (i:=2) rfl
 have c:(wImgV b gw sw F size).xs.length=M+3:=by
  rw[a]
  show(joined (wObjsV gw sw)).length=_
  rw[Zbl,Yd,Yd,Zbv,show tItems.length=3 from rfl];omega
 rw[<- e,c];clear e a c;obtain⟨I,f⟩:=Yx (wImgV b gw sw F size);have l0:=Zcl hI d rfl;have l2:=Zcl hI g rfl;rw[<- f] at hI d j g l0 l2⊢;have n0:I.adr (M+1)=I.adr M+0:=Zx hI d;have h:I.adr (M+1+1)=I.adr (M+1)+S.size (bSp 8) (I.F.getD (M+1) 0):=Zx hI j;have l:I.adr (M+2+1)=I.adr (M+2)+0:=Zx hI g;have k:S.size (bSp 8) (I.F.getD (M+1) 0)=8:=by
  unfold S.size bSp;simp
 rw[k] at h;have k0:I.lab kMore=I.adr M:=l0;have k2:I.lab kEnd=I.adr (M+2):=l2;have n:M+1+1=M+2:=rfl;have m:M+2+1=M+3:=rfl;rw[n] at h;rw[m] at l;exact⟨k0,by omega,by omega⟩
end
end
section
attribute [local irreducible] midV objs28 objs26
section
end
section
variable {gw sw:List Int}{F:List Int}{size:Int}(hI:∀b,(wImgV b gw sw F size).Ok)
include hI
structure S.bx (gw sw F:List Int)(size:Int)(m:S.Mach)(name:ByteArray):Prop where
 ok:m.Ok
 run:m.state=0
 len:(m.mem.length:Int)=size
 code:(wImgV true gw sw F size).In m.mem
 place:m.place=(wImgV true gw sw F size).lab name
 r28:m.rd 28=1056
 r31:m.rd 31=(wImgV true gw sw F size).lab kStub
theorem Z3r {m:S.Mach}{name:ByteArray}(h:bx gw sw F size m name):On (wImgV true gw sw F size) m (viewOf m) ((wImgV true gw sw F size).lab name) :=
 ⟨h.ok,h.run,h.len,h.code,h.place,λ _ _ _ _=>rfl,λ _ _ _=>rfl,rfl,rfl⟩
theorem Zps:0<=(wImgV true gw sw F size).lab kStub/\(wImgV true gw sw F size).lab kStub<size:=by
 have hl:=(Zah (hI true)).2.2.1;have hs:=(hI true).size;have h8:=(Zah (hI true)).2.2.2.2.2.2;refine⟨by omega,?_⟩;have a:=Zci (hI true) (i:=2+gw.length+sw.length+6) (j:=(wImgV true gw sw F size).xs.length) (by
  have:=(hI true).i01;have h1:=(hI true).i1l;have h2:(wImgV true gw sw F size).i1=gw.length+sw.length+8+midV.length:=rfl;omega)
 have h3:(wImgV true gw sw F size).size=size:=rfl;omega
theorem Zs2 {m:S.Mach}{V:Vw}(h:On (wImgV true gw sw F size) m V ((wImgV true gw sw F size).lab kStub)):Off (wImgV true gw sw F size) (m.steps_ 1) V (V.reg 0)/\(m.steps_ 1).place=(wImgV true gw sw F size).lab kStub:=by
 have d:=(Zah (hI true)).2.2.1;have a:=(Zah (hI true)).2.2.2.2.1;have c:(wImgV true gw sw F size).xs[2+gw.length+sw.length+2]?=some ⟨1,⟨36,0,0,0,0⟩,bNo,0⟩:=Z8 (Zk6 (k:=2));rw[d,<- a] at h⊢;exact Zt6 (hI true) (by show 2+gw.length+sw.length<=_;omega) (by show _<gw.length+sw.length+8+midV.length;omega) c h
theorem Zxa {m:S.Mach}{name:ByteArray}(hm:bx gw sw F size m name){d:Int}{R:Int->BO->Nat->Prop}(hd:d<=256)(u:Real (wImgV true gw sw F size) name false (viewOf m) d R){N:Nat}{P:Vw->Prop}
 (r:∀ret o k,R ret o k->∃a,(o=.ret a\/o=.left ((wImgV true gw sw F size).lab kStub) a)/\k+1<=N/\P a) :
 ∃a,P a/\bj (wImgV true gw sw F size) (m.steps_ N) a/\(m.steps_ N).state=1/\(m.steps_ N).place=(wImgV true gw sw F size).lab kStub/\(m.steps_ N).rd 28=1056:=by
 obtain⟨s0,s1⟩:=Zps hI;obtain⟨o,k,l,f⟩:=u (viewOf m) 1056 ((wImgV true gw sw F size).lab kStub) (Mt.refl_ _) hm.r28 hm.r31 s0 s1 (Yar _) (by show 1056+d<=1312;omega);obtain⟨a,t,hk,v⟩:=r _ _ _ l;have p:∃V',S.Go (wImgV true gw sw F size) (viewOf m) ((wImgV true gw sw F size).lab name) k V' ((wImgV true gw sw F size).lab kStub)/\Mt (wImgV true gw sw F size) V' a/\V'.reg 28=1056:=by
  rcases t with rfl|rfl
  .obtain⟨V',g,i,h,_⟩:=f
   exact⟨V',g,i,h⟩
  .obtain⟨V',g,i,h,_⟩:=f
   exact⟨V',g,i,h⟩
 obtain⟨V',g,i,h⟩:=p;obtain⟨j,hj,q⟩:=g m (Z3r hI hm);obtain⟨c,n⟩:=Zs2 hI q;have e:m.steps_ N=(m.steps_ j).steps_ 1:=by
  obtain⟨x,rfl⟩:∃x,N=j+1+x:=⟨N-j-1,by omega⟩
  rw[Za4,Za4,Ze4 (by rw[c.end_];decide)]
 rw[e];exact⟨a,v,Zp2 c i,c.end_,n,by rw[c.reg 28 (by decide) (by decide) (by decide)];exact h⟩
end
end
section
attribute [local irreducible] midV objs28 objs26
namespace S
structure WdV (gw sw F:List Int)(size:Int)(m:Mach):Prop where
 ok:m.Ok
 run:m.state=0
 len:(m.mem.length:Int)=size
 code:(wImgV true gw sw F size).In m.mem
 r28:m.rd 28=1056
 out:m.out=[]
 steps:m.steps=0
end S
section
variable {gw sw F:List Int}{size:Int}(hI:(wImgV true gw sw F size).Ok)
include hI
theorem Zgo {m:S.Mach}(h:S.WdV gw sw F size m){i v:Int}(hi:0<=i/\i<size)(a:¬(wImgV true gw sw F size).code i)(f:0<=v/\v<=4294967295):S.WdV gw sw F size (m.putV i v):=by
 obtain⟨e1,e2,e3,d,c,g,e⟩:=Zbi m i v;refine⟨Zt9 h.ok f,c.trans h.run,by rw[e];exact h.len,?_,by rw[Zdz];exact h.r28,d.trans h.out,g.trans h.steps⟩;rw[Zop hi.1 (by have:=h.len;omega)];exact Zt8 hI h.code hi.1 a v
theorem Zd7 {m:S.Mach}(h:S.WdV gw sw F size m){i v:Int}(hi:0<i/\i<32)(a:i=28->v=1056)(f:0<=v/\v<=4294967295):S.WdV gw sw F size (m.setV i v):=by
 have e:(m.setV i v).Ok:=by
  unfold S.Mach.setV;rw[if_pos ⟨by omega,hi.2⟩];exact Zjo h.ok (by omega) f
 have d:=Zby h.ok (v:=v) (j:=28) hi.1 hi.2;rw[Zai hi.1 hi.2] at e d⊢;refine⟨e,h.run,h.len,h.code,?_,h.out,h.steps⟩;rw[d]
 split
 .rename_i c;exact a c.symm
 .exact h.r28
theorem Zz3 {m:S.Mach}(h:S.WdV gw sw F size m){name:ByteArray}(hp:0<=(wImgV true gw sw F size).lab name/\(wImgV true gw sw F size).lab name<=4294967295)(hs:0<=(wImgV true gw sw F size).lab kStub/\(wImgV true gw sw F size).lab kStub<=4294967295) :
 bx gw sw F size ((m.setV 31 ((wImgV true gw sw F size).lab kStub)).goV ((wImgV true gw sw F size).lab name)) name:=by
 have a:=Zd7 hI h (i:=31) (v:=(wImgV true gw sw F size).lab kStub) (by decide) (λ h=>absurd h (by decide)) hs;have e:(m.setV 31 ((wImgV true gw sw F size).lab kStub)).goV ((wImgV true gw sw F size).lab name)={ (m.setV 31 ((wImgV true gw sw F size).lab kStub)) with place:=(wImgV true gw sw F size).lab name }:=by
  unfold S.Mach.goV;rw[if_neg (by rw[a.run];decide)]
 rw[e];refine⟨placed a.ok hp,a.run,a.len,a.code,rfl,a.r28,?_⟩
 show(m.setV 31 _).rd 31=_
 rw[Zby h.ok (by decide) (by decide),if_pos rfl]
theorem Zxb {j:Nat}{x:S.Item}(e:(wImgV true gw sw F size).xs[j]?=some x)(g:x.kind=2) :
 findP (placesTo (joined (wObjsV gw sw)) F 0 (joined (wObjsV gw sw)).length) x.label=some ((wImgV true gw sw F size).lab x.label):=by
 have f:∀(L:List (ByteArray×Int)) (s:ByteArray) (v:Int),(∃q:Nat,L[q]?=some (s,v))->(∀(q:Nat)(u:Int),L[q]?=some (s,u)->u=v)->findP L s=some v:=by
  intro L
  induction L with
  | nil=>rintro s v ⟨q,d⟩;cases d
  | cons p r ih =>
   rintro s v ⟨q,d⟩ i;obtain⟨n,u⟩:=p;rw[findP];simp only;by_cases c:n=s
   .subst c
    rw[if_pos rfl,i 0 u rfl]
   .rw[if_neg c]
    refine ih s v ?_ λ q u h=>i (q+1) u h
    cases q with
    | zero=>cases d;exact absurd rfl c
    | succ q=>exact⟨q,d⟩
 have hs:=Zic hI e g;have a:=Zcl hI e g;have k:=(Yg.1 e).1;refine f _ _ _ ?_ λ q u d=>?_
 .obtain⟨q,d⟩:=Zj2 (F:=F) (base:=0) hs _ k
  exact⟨q,by rw[a];exact d⟩
 .obtain⟨j',h1,h2,_⟩:=Zh1 (Zuy hI) _ q _ u d
  have:j'=j:=by
   have h3:stands (wImgV true gw sw F size).xs x.label=j':=h1;omega
  subst this;rw[a];exact h2
end
def S.wLV (gw sw F:List Int):List Int:=outTo (joined (wObjsV gw sw)) F 0 (joined (wObjsV gw sw)).length
section
variable {gw sw F:List Int}{size:Int}(hI:(wImgV true gw sw F size).Ok)
include hI
theorem Zpt:((wLV gw sw F).length:Int)=(wImgV true gw sw F size).lab kEnd:=by
 have:=Zau (base:=0) (Zak hI) (Zdg (Zcy hI)) hI.words (joined (wObjsV gw sw)).length;have h2:=(Zel hI).2.2;unfold wLV;have h3:addr (joined (wObjsV gw sw)) F 0 (joined (wObjsV gw sw)).length=(wImgV true gw sw F size).adr (wImgV true gw sw F size).xs.length:=rfl;have h4:((outTo (joined (wObjsV gw sw)) F 0 (joined (wObjsV gw sw)).length).length:Int)=addr (joined (wObjsV gw sw)) F 0 (joined (wObjsV gw sw)).length-0:=this;omega
theorem Zq2 {i j:Nat}{v:Int}(hi:i<(wImgV true gw sw F size).xs.length)(a:(wordsAt (wImgV true gw sw F size).xs F 0 i)[j]?=some v):(wLV gw sw F)[((wImgV true gw sw F size).adr i).toNat+j]?=some v :=
 Z0r (Zak hI) (Zdg (Zcy hI)) hI.words a _ hi
theorem Z3s {a:Nat}(e:a<1312):(wLV gw sw F)[a]?=some 0:=by
 have c:(wImgV true gw sw F size).xs[0]?=some (bSp 1312):=Z8 rfl;have d:wordsAt (wImgV true gw sw F size).xs F 0 0=Y6 1312 0:=by
  unfold wordsAt;rw[c];exact Zre _ _ _ _
 have:=Zq2 hI (i:=0) (j:=a) (v:=0) (Yg.1 c).1 (by rw[d,List.getElem?_replicate,if_pos e]);rw[show((wImgV true gw sw F size).adr 0).toNat+a=a from by show(0:Int).toNat+a=a;simp] at this;exact this
theorem Zz4 {k:Nat}(e:k<gw.length):(wLV gw sw F)[1312+k]?=some gw[k]:=by
 have a:(wImgV true gw sw F size).xs[1+k]?=some (bW gw[k]):=Z8 (Z0d e);have c:=Zf1 hI k (by omega);have d:wordsAt (wImgV true gw sw F size).xs F 0 (1+k)=[gw[k]]:=by
  unfold wordsAt;rw[a];exact Zh0 _ _ _ _
 have:=Zq2 hI (i:=1+k) (j:=0) (v:=gw[k]) (Yg.1 a).1 (by rw[d];rfl);rw[c,show((1312:Int)+k).toNat+0=1312+k from by omega] at this;exact this
theorem Zz5 {k:Nat}(e:k<sw.length):(wLV gw sw F)[1312+gw.length+k]?=some sw[k]:=by
 have a:(wImgV true gw sw F size).xs[2+gw.length+k]?=some (bW sw[k]):=Z8 (Z0e e);have c:=Zf2 hI k (by omega);have d:wordsAt (wImgV true gw sw F size).xs F 0 (2+gw.length+k)=[sw[k]]:=by
  unfold wordsAt;rw[a];exact Zh0 _ _ _ _
 have:=Zq2 hI (i:=2+gw.length+k) (j:=0) (v:=sw[k]) (Yg.1 a).1 (by rw[d];rfl);rw[c,show((1312:Int)+gw.length+k).toNat+0=1312+gw.length+k from by omega] at this;exact this
theorem Zbm {a:Int}:(wImgV true gw sw F size).code a↔1312+gw.length+sw.length<=a/\a<(wImgV true gw sw F size).lab kEnd-8:=by
 have h1:=Zah hI;have h2:=Zel hI;have c:(wImgV true gw sw F size).adr (wImgV true gw sw F size).i0=1312+gw.length+sw.length:=by
  have:=Zf2 hI sw.length (Yc _);exact this
 unfold S.Img.code;rw[c]
 constructor
 .rintro⟨q1,q2⟩;exact⟨q1,by omega⟩
 .rintro⟨q1,q2⟩;exact⟨q1,by omega⟩
theorem Zas:1312+gw.length+sw.length+3+8<=(wImgV true gw sw F size).lab kEnd/\(wImgV true gw sw F size).lab kEnd<size:=by
 have h1:=Zah hI;have a:=Zel hI;have hs:=hI.size;have h3:(wImgV true gw sw F size).size=size:=rfl;have c:=Zci hI (i:=2+gw.length+sw.length+6) (j:=(wImgV true gw sw F size).i1) (by
  have a:(wImgV true gw sw F size).i1=gw.length+sw.length+8+midV.length:=rfl;omega)
 exact⟨by omega,by omega⟩
end
structure S.de (gw sw F:List Int)(heap:Int)(m:S.Mach):Prop where
 rd:∀j,m.rd j=if j=28 then 1056 else if j=27 then(wLV gw sw F).length+heap/2 else if j=26 then(wLV gw sw F).length else 0
 m1:m.mv 1=heap
 m2:m.mv 2=(wLV gw sw F).length
 m3:m.mv 3=(wLV gw sw F).length+heap/2
 m4:m.mv 4=heap/2
 m5:m.mv 5=38
 low:∀a,5<a->a<1312->m.mv a=0
 glob:∀k:Nat,k<gw.length->m.mv (1312+k)=gw.getD k 0
 stat:∀k:Nat,k<sw.length->m.mv (1312+gw.length+k)=sw.getD k 0
theorem Zxc {gw sw F:List Int}{c:Int}{inp:List Int}(hI:(wImgV true gw sw F ((wLV gw sw F).length+c)).Ok)(hw:∀x∈wLV gw sw F,0<=x/\x<=4294967295)(hi:∀x∈inp,0<=x/\x<=255)(hh:0<=c) :
 S.WdV gw sw F ((wLV gw sw F).length+c) (wM (wLV gw sw F) c inp)/\de gw sw F c (wM (wLV gw sw F) c inp):=by
 obtain⟨L,g⟩:=Yx (wLV gw sw F);have B:=Zpt hI;have A:=Zas hI;have p:=λ a=>Zbm hI (a:=a)
 have a0:=hI.size2;have a3:(wImgV true gw sw F ((wLV gw sw F).length+c)).size=(wLV gw sw F).length+c:=rfl;obtain⟨E,hE⟩:=Yx ((wImgV true gw sw F ((wLV gw sw F).length+c)).lab kEnd);rw[<- hE] at B A p;obtain⟨m0,e⟩:=Yx (Zkc L (L.length+c).toNat inp);have a1:m0.mem.length=(L.length+c).toNat:=by
  rw[e]
  show(L++Y6 ((L.length+c).toNat-L.length) 0).length=_
  rw[Yd,List.length_replicate];omega
 have D:m0.Ok:=by
  rw[e];exact Zur (by rw[g];omega) (by omega) (by rw[g];exact hw) hi
 have U:∀a:Nat,a<L.length->m0.mv a=L.getD a 0:=λ a o=>by
  rw[e]
  show(L++Y6 ((L.length+c).toNat-L.length) 0).getD (a:Int).toNat 0=_
  rw[Int.toNat_natCast,Yh,Yn o,Yh]
 have P:(wImgV true gw sw F ((wLV gw sw F).length+c)).In m0.mem:=by
  intro i h0 q j w hj;have V:i<(wImgV true gw sw F ((wLV gw sw F).length+c)).xs.length:=Nat.lt_of_lt_of_le q hI.i1l;have h:=Zq2 hI V hj;rw[e,g]
  show(wLV gw sw F++Y6 _ 0).getD _ 0=w
  rw[Yh,Yn (Yg.1 h).1,h];rfl
 have G:∀j,m0.rd j=0:=λ j=>by
  rw[e];exact Zha 32 j.toNat
 have a2:(L.length:Int)+c<=335544320:=by rw[g];omega
 have a4:(1312:Int)+11<=L.length:=by rw[g];omega
 have r:∀a:Int,a<1312->¬(wImgV true gw sw F ((wLV gw sw F).length+c)).code a:=λ a o hc=>by
  have:=(p a).1 hc;omega
 have f:∀(m:S.Mach)(i v:Int),(m.Ok/\(m.mem.length:Int)=L.length+c/\(wImgV true gw sw F ((wLV gw sw F).length+c)).In m.mem/\m.state=0/\m.out=[]/\m.steps=0)->0<=i->i<1312->0<=v->v<=4294967295 ->
  ((m.putV i v).Ok/\((m.putV i v).mem.length:Int)=L.length+c/\(wImgV true gw sw F ((wLV gw sw F).length+c)).In (m.putV i v).mem/\(m.putV i v).state=0/\(m.putV i v).out=[]/\(m.putV i v).steps=0)/\(∀a,0<=a->(m.putV i v).mv a=if a=i then v else m.mv a)/\∀j,(m.putV i v).rd j=m.rd j:=by
  rintro m i v ⟨J,k2,N,K,T,M⟩ h0 q H O;obtain⟨e1,e2,e3,e4,e5,e6,e7⟩:=Zbi m i v;refine⟨⟨Zt9 J ⟨H,O⟩,by rw[e7];exact k2,?_,e5.trans K,e4.trans T,e6.trans M⟩,λ a o=>Ze2 h0 (by omega) o,λ j=>Zdz m i v j⟩;rw[Zop h0 (by omega)];exact Zt8 hI N h0 (r i q) v
 have l:∀(m:S.Mach)(i v:Int),(m.Ok/\(m.mem.length:Int)=L.length+c/\(wImgV true gw sw F ((wLV gw sw F).length+c)).In m.mem/\m.state=0/\m.out=[]/\m.steps=0)->0<i->i<32->0<=v->v<=4294967295 ->
  ((m.setV i v).Ok/\((m.setV i v).mem.length:Int)=L.length+c/\(wImgV true gw sw F ((wLV gw sw F).length+c)).In (m.setV i v).mem/\(m.setV i v).state=0/\(m.setV i v).out=[]/\(m.setV i v).steps=0)/\(∀a,(m.setV i v).mv a=m.mv a)/\∀j,(m.setV i v).rd j=if j=i then v else m.rd j:=by
  rintro m i v ⟨J,k2,N,K,T,M⟩ h0 q H O;have t:(m.setV i v).Ok:=by
   unfold S.Mach.setV;rw[if_pos ⟨by omega,q⟩];exact Zjo J (by omega) ⟨H,O⟩
  refine⟨⟨t,?_,?_,?_,?_,?_⟩,λ a=>Zcn h0 q,λ j=>Zby J h0 q⟩
  all_goals rw[Zai h0 q]
  .exact k2
  .exact N
  .exact K
  .exact T
  .exact M
 have s0:m0.Ok/\(m0.mem.length:Int)=L.length+c/\(wImgV true gw sw F ((wLV gw sw F).length+c)).In m0.mem/\m0.state=0/\m0.out=[]/\m0.steps=0:=⟨D,by omega,P,by rw[e];rfl,by rw[e];rfl,by rw[e];rfl⟩
 obtain⟨s1,v1,r1⟩:=f m0 1 c s0 (by decide) (by decide) hh (by omega);obtain⟨s2,v2,r2⟩:=f _ 2 L.length s1 (by decide) (by decide) (by omega) (by omega);obtain⟨s3,v3,r3⟩:=f _ 3 (L.length+c/2) s2 (by decide) (by decide) (by omega) (by omega);obtain⟨Z,v4,r4⟩:=f _ 4 (c/2) s3 (by decide) (by decide) (by omega) (by omega);obtain⟨s5,v5,r5⟩:=f _ 5 38 Z (by decide) (by decide) (by omega) (by omega);obtain⟨s6,v6,r6⟩:=l _ 26 L.length s5 (by decide) (by decide) (by omega) (by omega);obtain⟨s7,v7,r7⟩:=l _ 27 (L.length+c/2) s6 (by decide) (by decide) (by omega) (by omega);obtain⟨y,X,Y⟩:=l _ 28 1056 s7 (by decide) (by decide) (by omega) (by omega);have hM:wM (wLV gw sw F) c inp=((((((((m0.putV 1 c).putV 2 L.length).putV 3 (L.length+c/2)).putV 4 (c/2)).putV 5 38).setV 26 L.length).setV 27 (L.length+c/2)).setV 28 1056):=by
  rw[e,g];rfl
 rw[hM];obtain⟨m,hm⟩:=Yx ((((((((m0.putV 1 c).putV 2 L.length).putV 3 (L.length+c/2)).putV 4 (c/2)).putV 5 38).setV 26 L.length).setV 27 (L.length+c/2)).setV 28 1056);rw[<- hm] at y X Y⊢;have z:∀j,m.rd j=if j=28 then 1056 else if j=27 then L.length+c/2 else if j=26 then(L.length:Int) else 0:=λ j=>by
  rw[Y,r7,r6,r5,r4,r3,r2,r1,G]
 have d:∀a,0<=a->m.mv a=if a=5 then 38 else if a=4 then c/2 else if a=3 then L.length+c/2 else if a=2 then(L.length:Int) else if a=1 then c else m0.mv a:=λ a o=>by
  rw[X,v7,v6,v5 a o,v4 a o,v3 a o,v2 a o,v1 a o]
 have u:∀(a:Nat)(v:Int),5<a->L[a]?=some v->m.mv a=v:=λ a v o W=>by
  rw[d a (by omega),if_neg (by omega),if_neg (by omega),if_neg (by omega),if_neg (by omega),if_neg (by omega),U a (Yg.1 W).1,Yh,W];rfl
 refine⟨⟨y.1,y.2.2.2.1,?_,y.2.2.1,by rw[z];rfl,y.2.2.2.2.1,y.2.2.2.2.2⟩,⟨λ j=>by rw[z,g],?_,?_,?_,?_,?_,λ a q H=>?_,λ k t=>?_,λ k t=>?_⟩⟩
 .rw[y.2.1,g]
 .rw[d 1 (by decide)];rfl
 .rw[d 2 (by decide),g];rfl
 .rw[d 3 (by decide),g];rfl
 .rw[d 4 (by decide)];rfl
 .rw[d 5 (by decide)];rfl
 .obtain⟨n,rfl⟩:=Int.eq_ofNat_of_zero_le (show 0<=a from by omega)
  exact u n 0 (by omega) (by rw[g];exact Z3s hI (by omega))
 .have:=u (1312+k) gw[k] (by omega) (by rw[g];exact Zz4 hI t)
  rw[Yh,Ye t];rw[show((1312+k:Nat):Int)=1312+(k:Int) from by omega] at this;exact this
 .have:=u (1312+gw.length+k) sw[k] (by omega) (by rw[g];exact Zz5 hI t)
  rw[Yh,Ye t];rw[show((1312+gw.length+k:Nat):Int)=1312+(gw.length:Int)+k from by omega] at this;exact this
end
section
namespace S
def dvB (b:Int):List Int->Int
 | []=>0
 | d::r=>d+b*dvB b r
def DgB (b:Int)(l:List Int):Prop:=∀d∈l,0<=d/\d<b
def Cn (b:Int)(l:List Int)(n:Int):Prop:=DgB b l/\(l=[]\/l.getD (l.length-1) 0≠0)/\dvB b l=n
def Nz (neg:Bool)(l:List Int)(z:Int):Prop:=Cn 10 l (if z<0 then -z else z)/\neg=decide (z<0)
end S
section
variable {b:Int}
theorem Zbd (a:0<=b):∀{l:List Int},S.DgB b l->0<=S.dvB b l
 | [],_=>Yar _
 | d::r,h=>by
  have h1:=h d Yw;have c:=Zbd a (l:=r) λ x e=>h x (Y0 _ e)
  have:=Int.mul_nonneg a c;rw[S.dvB];omega
theorem Zl4:∀(x y:List Int),S.dvB b (x++y)=S.dvB b x+b^x.length*S.dvB b y
 | [],y=>by show S.dvB b y=0+b^0*S.dvB b y;simp
 | d::r,y=>by
  have h:=Zl4 r y
  show d+b*S.dvB b (r++y)=d+b*S.dvB b r+b^(r.length+1)*S.dvB b y
  rw[h,Int.pow_succ];generalize b^r.length=B
  grind
theorem Zz6 (x:List Int)(d:Int):S.dvB b (x++[d])=S.dvB b x+b^x.length*d:=by
 rw[Zl4]
 show _+_*(d+b*0)=_
 rw[Int.mul_zero,Yce]
theorem Zhp:∀{l:List Int},(∀j:Nat,l.getD j 0=0)->S.dvB b l=0
 | [],_=>rfl
 | d::r,h=>by
  have h0:d=0:=h 0;have:=Zhp (l:=r) λ j=>h (j+1)
  rw[S.dvB,this,h0];simp
theorem Zkz (a:0<b):∀{l:List Int},S.DgB b l->S.dvB b l<b^l.length
 | [],_=>by show(0:Int)<b^0;simp
 | d::r,h=>by
  have h1:=h d Yw;have h2:=Zkz a (l:=r) λ x c=>h x (Y0 _ c)
  have h3:=Int.mul_le_mul_of_nonneg_left (show S.dvB b r+1<=b^r.length by omega) (Ycg a);have e:b*(S.dvB b r+1)=b*S.dvB b r+b:=by grind
  have e2:b*b^r.length=b^(r.length+1):=by rw[Int.pow_succ,Int.mul_comm]
  rw[S.dvB,List.length_cons];omega
theorem Zl5 {l:List Int}(h:S.DgB b l)(n:Nat):S.DgB b (l.take n):=λ d hd=>h d (List.mem_of_mem_take hd)
theorem Zji (a:0<b){l:List Int}(h:S.DgB b l)(j:Nat):0<=l.getD j 0/\l.getD j 0<b:=by
 rw[Yh]
 cases hq:l[j]? with
 | none=>exact⟨Yar _,a⟩
 | some x=>exact h x (List.mem_of_getElem? hq)
theorem Zz7 {l:List Int}{n:Nat}(h:Top l n):S.dvB b (l.take n)=S.dvB b l:=by
 have e:S.dvB b l=S.dvB b (l.take n++l.drop n):=by rw[Ybb]
 rw[e,Zl4,Zhp (l:=l.drop n) λ j=>by rw[Zt5];exact h.2.1 _ (by omega),Int.mul_zero,Yce]
theorem Z6o {l:List Int}{n:Nat}(hd:S.DgB b l)(h:Top l n):S.Cn b (l.take n) (S.dvB b l):=by
 have a:(l.take n).length=n:=by rw[Yaa];have:=h.1;omega
 refine⟨Zl5 hd n,?_,Zz7 h⟩;rcases h.2.2 with e|e
 .exact .inl (by rw[e];rfl)
 .by_cases c:n=0
  .exact .inl (by rw[c];rfl)
  .exact .inr (by rw[a,Zt4 (by omega)];exact e)
theorem Z6p (hb:2<=b){l:List Int}{n:Int}(h:S.Cn b l n)(f:0<l.length):b^(l.length-1)<=n:=by
 obtain⟨d,i,h3⟩:=h;have g:=i.resolve_left (λ e=>by rw[e] at f;exact absurd f (by decide));have e:l=l.take (l.length-1)++l.drop (l.length-1):=(Ybb _ _).symm;have hd:l.drop (l.length-1)=[l.getD (l.length-1) 0]:=by
  have c:l.length-1<l.length:=by omega
  rw[List.drop_eq_getElem_cons c,List.drop_eq_nil_of_le (by omega),Yh,Ye c];rfl
 have a:(l.take (l.length-1)).length=l.length-1:=by rw[Yaa];omega
 have h5:S.dvB b l=S.dvB b (l.take (l.length-1))+b^(l.length-1)*l.getD (l.length-1) 0:=by
  conv=>lhs;rw[e,hd,Zz6,a]
 have h6:=Zbd (show 0<=b by omega) (Zl5 d (l.length-1));have h7:=(Zji (show 0<b by omega) d (l.length-1)).1;have hp:0<b^(l.length-1):=Ych (by omega);have h8:=Int.mul_le_mul_of_nonneg_left (show 1<=l.getD (l.length-1) 0 by omega) (Ycg hp);omega
theorem Z8n (hb:2<=b){l:List Int}{n:Int}(h:S.Cn b l n):n<b^l.length:=by
 rw[<- h.2.2];exact Zkz (by omega) h.1
theorem Zxd (hb:1<=b){i j:Nat}(h:i<=j):b^i<=b^j:=by
 obtain⟨c,rfl⟩:=Nat.le.dest h;rw[Int.pow_add];have a:(0:Int)<b^i:=Ych (by omega);have h2:(0:Int)<b^c:=Ych (by omega);have:=Int.mul_le_mul_of_nonneg_left (show 1<=b^c by omega) (Ycg a);omega
theorem Zq3 (c:2<=b){l a:List Int}{n n':Int}(h:S.Cn b l n)(d:S.Cn b a n')(hl:l.length<a.length):n<n':=by
 have h1:=Z8n c h;have h2:=Z6p c d (by omega);have h3:=Zxd (b:=b) (by omega) (show l.length<=a.length-1 by omega);omega
theorem Zn6 (f:0<b):∀(k:Nat) {x y:List Int},S.DgB b x->S.DgB b y->(∀j:Nat,k<j->x.getD j 0=y.getD j 0)->x.getD k 0<y.getD k 0->S.dvB b x<S.dvB b y:=by
 have ext:∀{x y:List Int},(∀j:Nat,x.getD j 0=y.getD j 0)->S.dvB b x=S.dvB b y:=by
  intro x
  induction x with
  | nil=>intro y h;exact(Zhp λ j=>(h j).symm).symm
  | cons d r ih =>
   intro y h
   cases y with
   | nil=>exact Zhp h
   | cons e s =>
    have h0:d=e:=h 0;have:=ih (y:=s) λ j=>h (j+1)
    rw[S.dvB,S.dvB,this,h0]
 have head:∀x:List Int,S.dvB b x=x.getD 0 0+b*S.dvB b x.tail:=λ x=>by
  cases x with
  | nil=>show(0:Int)=0+b*0;simp
  | cons d r=>rfl
 have tl:∀{x:List Int},S.DgB b x->S.DgB b x.tail:=λ h d hd=>h d (List.mem_of_mem_tail hd)
 intro k
 induction k with
 | zero =>
  intro x y c g h a;have:=ext (x:=x.tail) (y:=y.tail) λ j=>by rw[Zf5,Zf5];exact h (j+1) (by omega)
  rw[head x,head y,this];omega
 | succ k ih =>
  intro x y c g h a;have h1:=ih (tl c) (tl g) (λ j hj=>by rw[Zf5,Zf5];exact h (j+1) (by omega)) (by rw[Zf5,Zf5];exact a);have b1:=Zji f c 0;have b2:=Zji f g 0;have h2:=Int.mul_le_mul_of_nonneg_left (show S.dvB b x.tail+1<=S.dvB b y.tail by omega) (Ycg f);have e:b*(S.dvB b x.tail+1)=b*S.dvB b x.tail+b:=by grind
  rw[head x,head y];omega
end
end
section
def S.bi:List ByteArray:=kHead::((objs26++objs28++[oMainV]).map S.Obj.name++[kTail])
theorem Zs3:(nodupB bi && (objs26++objs28++[oMainV]).all (λ o=>!S.badN o))=true:=by kernel_rfl
theorem Zz8 (gw sw:List Int):NamesRes (wObjsV gw sw) 0:=by
 have h:=Zs3;rw[Bool.and_eq_true] at h;have e:(wObjsV gw sw).map S.Obj.name=bi:=by
  show((oHead gw sw::(objs26++objs28++[oMainV]))++[oTail]).map S.Obj.name=_
  rw[List.map_append,List.map_cons];rfl
 have hd:((wObjsV gw sw).map S.Obj.name).Nodup:=by rw[e];exact Zk5 h.1
 refine .inr (.inr ⟨?_,λ o f=>?_,rfl⟩)
 .rintro⟨i,j,a,b,hij,hi,hj,hab⟩
  have d:((wObjsV gw sw).map S.Obj.name)[i]?=some a.name:=by rw[Yaf,hi];rfl
  have g:((wObjsV gw sw).map S.Obj.name)[j]?=some b.name:=by rw[Yaf,hj];rfl
  obtain⟨l1,c⟩:=Yg.1 d;obtain⟨l2,k⟩:=Yg.1 g;have:=(List.nodup_iff_pairwise_ne.1 hd)
  rw[List.pairwise_iff_getElem] at this;exact this j i l2 l1 hij (by rw[c,k,hab])
 .have ho':o∈(oHead gw sw::(objs26++objs28++[oMainV]))++[oTail]:=f
  rcases List.mem_append.1 ho' with q|q
  .rcases List.mem_cons.1 q with rfl|q
   .show(kHead.data.toList.isEmpty || ownB kHead)=false
    decide
   .have:=List.all_eq_true.1 h.2 o q
    simpa using this
  .rw[List.mem_singleton] at q
   subst q
   show(kTail.data.toList.isEmpty || ownB kTail)=false
   decide
structure S.be (gw sw F:List Int)(heap:Int)(inp:List Int):Prop where
 forms:FormsRes (joined (wObjsV gw sw)) 0 0 F
 ok:∀b,(wImgV b gw sw F ((wLV gw sw F).length+heap)).Ok
 words:∀x∈wLV gw sw F,0<=x/\x<=4294967295
 wd:S.WdV gw sw F ((wLV gw sw F).length+heap) (wM (wLV gw sw F) heap inp)
 fst:de gw sw F heap (wM (wLV gw sw F) heap inp)
 len:((wLV gw sw F).length:Int)=(wImgV true gw sw F ((wLV gw sw F).length+heap)).lab kEnd
 small:(wLV gw sw F).length<=18000
def S.ay (gw sw F:List Int):List (ByteArray×Int):=placesTo (joined (wObjsV gw sw)) F 0 (joined (wObjsV gw sw)).length
section
variable {gw sw:List Int}(hg:∀x∈gw,0<=x/\x<=4294967295)(hs:∀x∈sw,0<=x/\x<=4294967295)(hgl:gw.length<=100)(hsl:sw.length<=100)
include hg hs hgl hsl
theorem Z6q {a:Int}{inp:List Int}(i:∀x∈inp,0<=x/\x<=255)(h0:1<=a/\a<=1000000){r:Int}{L:List Int}{P:List (ByteArray×Int)}(h:Ziw (wObjsV gw sw) 0 r L P):r=0/\∃F,be gw sw F a inp/\L=wLV gw sw F/\P=ay gw sw F:=by
 have n:=Zqp gw sw hg hs;rcases h with⟨d,j,_⟩|⟨_,F,d,j,t⟩
 .exact absurd (Zmm j (Zz8 gw sw)) d
 .obtain⟨a0,ha0⟩:=Yx (addr (joined (wObjsV gw sw)) F 0 (joined (wObjsV gw sw)).length)
  by_cases l:r=0
  .subst l
   have hF:FormOk (joined (wObjsV gw sw)) F:=by
    rcases d with⟨h,_⟩|⟨h,_⟩|⟨_,_,h,_⟩
    .exact absurd rfl h
    .omega
    .exact h.1
   have hsz:=(Zcm (base:=0) hF n (joined (wObjsV gw sw)).length).1;have k:=λ size:Int=>Z57 (e:=0) (F:=F) (size:=size) d hg hs hgl hsl
   have o:addr (joined (wObjsV gw sw)) F 0 (joined (wObjsV gw sw)).length<=67108864:=by
    rcases d with⟨h,_⟩|⟨h,_⟩|⟨_,_,_,_,m⟩
    .exact absurd rfl h
    .omega
    .exact m
   obtain⟨-,c,q⟩:=k (addr (joined (wObjsV gw sw)) F 0 (joined (wObjsV gw sw)).length+a) (λ _=>by omega) (by omega);have f:((wLV gw sw F).length:Int)=addr (joined (wObjsV gw sw)) F 0 (joined (wObjsV gw sw)).length:=by
    have m:=Zpt (c true);have h6:=(Zel (c true)).2.2;have h7:(wImgV true gw sw F (addr (joined (wObjsV gw sw)) F 0 (joined (wObjsV gw sw)).length+a)).adr (wImgV true gw sw F (addr (joined (wObjsV gw sw)) F 0 (joined (wObjsV gw sw)).length+a)).xs.length=addr (joined (wObjsV gw sw)) F 0 (joined (wObjsV gw sw)).length:=rfl;omega
   rw[<- f] at c;have g:=λ x p=>Zht (F:=F) (base:=0) n (joined (wObjsV gw sw)).length x p
   obtain⟨u,k2⟩:=Zxc (inp:=inp) (c true) g i (by omega);refine⟨rfl,F,⟨d,c,g,u,k2,Zpt (c true),by omega⟩,?_,?_⟩
   .rw[j,if_pos rfl];rfl
   .rw[t,if_pos rfl];rfl
  .exfalso
   have:=(Z57 (e:=r) (F:=F) (size:=100000000) d hg hs hgl hsl (λ h=>absurd h l) (by decide)).1;exact l this
end
theorem Zc8 (gw sw:List Int)(hgl:gw.length<=100)(hsl:sw.length<=100):(joined (ab gw sw (objs26++objs28++[oMainV]))).length<=1048576:=by
 have e:ab gw sw (objs26++objs28++[oMainV])=wObjsV gw sw:=rfl;have hm:midV.length<=100000:=by
  have h:decide (midV.length<=100000)=true:=by kernel_rfl
  exact of_decide_eq_true h
 rw[e,Zbl,Yd,Yd,Zbv,show tItems.length=3 from rfl];omega
end
